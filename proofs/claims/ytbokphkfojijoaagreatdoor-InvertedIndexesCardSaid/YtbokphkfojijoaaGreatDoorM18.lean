import Derived.Test.YtbokphkfojijoaaGreatDoorM11
import Derived.Test.YtbokphkfojijoaaGreatDoorM12
import Derived.Test.YtbokphkfojijoaaGreatDoorM13
set_option linter.unusedSimpArgs false
set_option linter.unusedVariables false
set_option maxRecDepth 3000
set_option maxHeartbeats 16000000
section
namespace Go.Proofs.YtbokphkfojijoaaGreatDoor
open Go.LA Go.ArrP Go.RowKit
variable {A:Nat→Prop}
theorem thA {w:World} {va vw vr:Value} {kd:Int} {p:Nat→Bool} {x:Nat} (h:SlI .u16 w va (ahA p 65536)) (hx:x≤65536):Fc Tryz.prog 140 #[.agg #[.int .u8 kd,va,vw,vr],.int .i64 x] w (Ret w (.val (.int .i64 (cnt p x)))):=by
 have hb:=jkA p x hx;have hl:=b1A p 65536;have hn:(ahA p 65536).length≤4611686018427387903:=by rw [b1A];have:=cnt_le p 65536;omega
 obtain ⟨n,hnn⟩:∃ n,n=(ahA p 65536).length:=⟨_,rfl⟩
 by_cases h0:x=0
 ·subst h0
  refine Fc.of (args:=[_,_]) Tryz.func140 rfl rfl Tryz.ntmps140 nZ ?_
  repeat' (first|(refine yL ?_;first|refine a0A rfl ?_|refine eaA ?_|refine yO ?_|(refine yC ?_ ?_<;>intro hc)|(refine yN hK ?_;clear hK K))|refine wG ?_|(refine yR ?_;intro K hK)|fail)
  all_goals exact afA rfl rfl (Ext.refl _) rfl
 by_cases h1:x=65536
 ·subst h1
  refine Fc.of (args:=[_,_]) Tryz.func140 rfl rfl Tryz.ntmps140 nZ ?_
  repeat' (first|(refine yL ?_;first|refine a0A rfl ?_|refine eaA ?_|(refine cnA ?_;refine akA rfl _ rfl rfl (by exact (HasI.val h).c) ?_)|refine yO ?_|(refine yC ?_ ?_<;>intro hc)|(refine yN hK ?_;clear hK K))|refine wG ?_|(refine yR ?_;intro K hK)|fail)
  all_goals exact afA rfl rfl (Ext.refl _) (by rw [hl])
 ·have q0:True:=trivial
  refine Fc.of (args:=[_,_]) Tryz.func140 rfl rfl Tryz.ntmps140 nZ ?_
  repeat' (first|(refine yL ?_;first|refine a0A rfl ?_|refine eaA ?_|refine yO ?_|(refine yC ?_ ?_<;>intro hc)|(refine yV ?_;first|(refine oC 179 ?_;refine a4A (f:=179) rfl rfl rfl rfl  (.tup2 (.val (.int .i64 (bsS (ahA p 65536) x))) (.val (.bool (dkA (ahA p 65536) x)))) (by intro u1 u2 w e hu1 hu2;(try obtain rfl:u1=_:=hu1);(try obtain rfl:u2=_:=hu2);exact yaA _ _ (ahA p 65536) x (h.ext e) hn) ?_))|(refine yN hK ?_;clear hK K))|refine wG ?_|(refine yR ?_;intro K hK)|fail)
  all_goals exact afA rfl rfl (Ext.refl _) (by rw [hb])
theorem qwA {w:World} {va vw vr:Value} {kd:Int} {p:Nat→Bool} {x:Nat} (h:SlI .u64 w vw (wordsOf p)) (hx:x≤65536):Fc Tryz.prog 141 #[.agg #[.int .u8 kd,va,vw,vr],.int .i64 x] w (Ret w (.val (.int .i64 (cnt p x)))):=by
 refine Fc.of (args:=[_,_]) Tryz.func141 rfl rfl Tryz.ntmps141 nZ ?_
 repeat' (first|(refine yL ?_;first|refine a0A rfl ?_|refine eaA ?_|refine yO ?_|(refine yC ?_ ?_<;>intro hc)|(refine yV ?_;first|(refine oC 184 ?_;refine a4A (f:=184) rfl rfl rfl rfl  (.val (.int .i64 (cnt p x))) (by intro u1 u2 w e hu1 hu2;(try obtain rfl:u1=_:=hu1);(try obtain rfl:u2=_:=hu2);exact atA (by rw [show (min (max (x:Int) 0) 65536).toNat=x by omega]) (biB _ _ p (h.ext e) x oZ)) ?_))|(refine yN hK ?_;clear hK K))|refine wG ?_|(refine yR ?_;intro K hK)|fail)
 all_goals exact afA rfl rfl (Ext.refl _) rfl
theorem riA {w:World} {va vw vr:Value} {kd:Int} {p:Nat→Bool} {x:Nat} (h:SlR w vr (aqA p)) (hx:x≤65536):Fc Tryz.prog 142 #[.agg #[.int .u8 kd,va,vw,vr],.int .i64 x] w (Ret w (.val (.int .i64 (cnt p x)))):=by
 have hr:k5A (aqA p) x=cnt p x:=by rw [show k5A (aqA p) x=_ from orA p x 65536,show (min (max (x:Int) 0) (65536:Nat)).toNat=x by omega]
 have hn:(aqA p).length≤70000:=by have:=dcA p;omega
 refine Fc.of (args:=[_,_]) Tryz.func142 rfl rfl Tryz.ntmps142 nZ ?_
 repeat' (first|(refine yL ?_;first|refine a0A rfl ?_|refine eaA ?_|refine yO ?_|(refine yC ?_ ?_<;>intro hc)|(refine yV ?_;first|(refine oC 185 ?_;refine a4A (f:=185) rfl rfl rfl rfl  (.val (.int .i64 (cnt p x))) (by intro u1 u2 w e hu1 hu2;(try obtain rfl:u1=_:=hu1);(try obtain rfl:u2=_:=hu2);exact atA (by rw [hr]) (uyA _ _ (aqA p) x (h.ext e) (doA p) hn oZ)) ?_))|(refine yN hK ?_;clear hK K))|refine wG ?_|(refine yR ?_;intro K hK)|fail)
 all_goals exact afA rfl rfl (Ext.refl _) rfl
theorem c2B {w:World} {v:Value} {p:Nat→Bool} {kk:Int} {x:Nat} (h:Cn A w v p kk) (hx:x≤65536):Fc Tryz.prog 107 #[v,.int .i64 x] w (Ret w (.val (.int .i64 (cnt p x)))):=by
 have hk:∀ w',Ext w w'→_:=λ w' e=>fgA (h.ext e)
 obtain ⟨hp,⟨rfl,kd,va,hkd,rfl,ho⟩|⟨rfl,vw,rfl,ho⟩|⟨rfl,vr,rfl,ho⟩⟩:=h
 ·skip
  refine Fc.of (args:=[_,_]) Tryz.func107 rfl rfl Tryz.ntmps107 nZ ?_
  repeat' (first|(refine yL ?_;first|refine a0A rfl ?_|refine eaA ?_|refine dmA (c:=.agg #[.nilFunc,.func (.func 140) #[] #[],.func (.func 141) #[] #[],.func (.func 142) #[] #[]]) rfl rfl rfl rfl (λ _=>by kernel_rfl) ?_|(refine e8A 1 (c:=.func (.func 140) #[] #[]) rfl rfl (λ _=>rfl) rfl rfl rfl dZ (λ _=>by kernel_rfl) ?_)|refine yO ?_|(refine yC ?_ ?_<;>intro hc)|(refine yV ?_;first|(refine oC 63 ?_;refine a3A (f:=63) rfl rfl rfl _ (by intro u1 w' e hu1;obtain rfl:u1=_:=hu1;exact hk w' e) ?_)|(refine a4A (f:=140) rfl rfl rfl rfl (.val (.int .i64 (cnt p x))) (by intro u1 u2 w' e hu1 hu2;obtain rfl:u1=_:=hu1;obtain rfl:u2=_:=hu2;exact thA (ho.ext e).slI hx) ?_))|(refine yN hK ?_;clear hK K))|refine wG ?_|(refine yR ?_;intro K hK)|fail)
  all_goals exact afA rfl rfl (Ext.refl _) rfl
 ·skip
  refine Fc.of (args:=[_,_]) Tryz.func107 rfl rfl Tryz.ntmps107 nZ ?_
  repeat' (first|(refine yL ?_;first|refine a0A rfl ?_|refine eaA ?_|refine dmA (c:=.agg #[.nilFunc,.func (.func 140) #[] #[],.func (.func 141) #[] #[],.func (.func 142) #[] #[]]) rfl rfl rfl rfl (λ _=>by kernel_rfl) ?_|(refine e8A 2 (c:=.func (.func 141) #[] #[]) rfl rfl (λ _=>rfl) rfl rfl rfl dZ (λ _=>by kernel_rfl) ?_)|refine yO ?_|(refine yC ?_ ?_<;>intro hc)|(refine yV ?_;first|(refine oC 63 ?_;refine a3A (f:=63) rfl rfl rfl _ (by intro u1 w' e hu1;obtain rfl:u1=_:=hu1;exact hk w' e) ?_)|(refine a4A (f:=141) rfl rfl rfl rfl (.val (.int .i64 (cnt p x))) (by intro u1 u2 w' e hu1 hu2;obtain rfl:u1=_:=hu1;obtain rfl:u2=_:=hu2;exact qwA (ho.ext e).slI hx) ?_))|(refine yN hK ?_;clear hK K))|refine wG ?_|(refine yR ?_;intro K hK)|fail)
  all_goals exact afA rfl rfl (Ext.refl _) rfl
 ·skip
  refine Fc.of (args:=[_,_]) Tryz.func107 rfl rfl Tryz.ntmps107 nZ ?_
  repeat' (first|(refine yL ?_;first|refine a0A rfl ?_|refine eaA ?_|refine dmA (c:=.agg #[.nilFunc,.func (.func 140) #[] #[],.func (.func 141) #[] #[],.func (.func 142) #[] #[]]) rfl rfl rfl rfl (λ _=>by kernel_rfl) ?_|(refine e8A 3 (c:=.func (.func 142) #[] #[]) rfl rfl (λ _=>rfl) rfl rfl rfl dZ (λ _=>by kernel_rfl) ?_)|refine yO ?_|(refine yC ?_ ?_<;>intro hc)|(refine yV ?_;first|(refine oC 63 ?_;refine a3A (f:=63) rfl rfl rfl _ (by intro u1 w' e hu1;obtain rfl:u1=_:=hu1;exact hk w' e) ?_)|(refine a4A (f:=142) rfl rfl rfl rfl (.val (.int .i64 (cnt p x))) (by intro u1 u2 w' e hu1 hu2;obtain rfl:u1=_:=hu1;obtain rfl:u2=_:=hu2;exact riA (ho.ext e).slR hx) ?_))|(refine yN hK ?_;clear hK K))|refine wG ?_|(refine yR ?_;intro K hK)|fail)
  all_goals exact afA rfl rfl (Ext.refl _) rfl
end Go.Proofs.YtbokphkfojijoaaGreatDoor
end
section
namespace Go.Proofs.YtbokphkfojijoaaGreatDoor
open Go.LA Go.ArrP Go.RowKit
theorem c6B {w:World} {ba bb na ca nb cb ga gb:Nat} {xs ys:List Value} (ha:Own ba 31 1 w (.slice (some ⟨ga,0,none⟩) na ca) na xs) (hb:Own bb 31 1 w (.slice (some ⟨gb,0,none⟩) nb cb) nb ys) (hcb:0<cb) (hne:ga≠gb) (o l' c':Nat) :
 (callFunc 149 #[.slice (some ⟨ga,0,none⟩) na ca,.slice (some ⟨gb,o,none⟩) l' c']).run Tryz.prog w=.ok (.value (.bool false)) w:=by
 rw [run_callFunc_extern Tryz.func149 kZ kZ kZ (e:=Extern.SlicesOverlaps.overlaps #[27,27] #[4]) kZ,fzA rfl (λ _=>rfl) dZ ha hb hcb hne];rfl
theorem vuA (w:World) (base bu:Nat) (v u:Value) (n i:Nat) (cs xs:List Value) (ho:Own base 31 1 w v n cs) (hu:Own bu 31 1 w u 1 xs) (hi:i≤n) 
 (hap:∀ k,u.ownBlock=some k→v.ownBlock≠some k) (h1c:∀ c ∈ cs,c.oneCell'=true) (h1:∀ c ∈ xs,c.oneCell'=true) (hn:n≤70368744177663) (hb:(n+1)*2≤140737488355328) :
 Fc Tryz.prog 111 #[v,.int .i64 i,u] w (λ en w'=>∃ v',en=.returned v'∧Own 0 31 1 w' v' (n+1) (cs.take (i*1)++xs++cs.drop (i*1))∧Fr (λ k=>v.ownBlock=some k) w w'∧LocR w v v'):=by
 have hs:=ho.slC;have hsu:=hu.slC;have hcl:=ho.1;have hxl:=hu.1
 by_cases hin:i=n
 ·refine Fc.of (args:=[_,_,_]) Tryz.func111 rfl rfl Tryz.ntmps111 nZ ?_
  subst hin
  repeat' (first|(refine yL ?_;first|refine a0A rfl ?_|(refine a2A (hK _ _ (arA rfl dZ c8A rfl ho rfl (HasC.val hsu) h1 (by unfold maxLen;omega) hb (λ v' w2 w3 he2 ho3 hg3 hl3=>?_)));clear hK K;dsimp only [vals];refine aeA kZ (λ K hK=>?_))|refine yO ?_|(refine yC ?_ ?_<;>intro hc)|(refine yN hK ?_;clear hK K))|refine wG ?_|(refine yR ?_;intro K hK)|fail)
  refine c0A rfl (λ v5 w5 e5 h5=>?_);obtain rfl:v5=_:=h5;refine ⟨_,rfl,?_,?_,hl3.le he2.size⟩
  ·rw [List.take_of_length_le oZ,List.drop_of_length_le oZ,List.append_nil]
   exact ho3.ext e5
  ·exact Fr.grown (asA (ayA he2 hg3.grownBy) e5)
 ·have hlt:i<n:=oZ
  rcases ho.2 with ⟨_,h0⟩|⟨gb,cap,cur,rfl,hgb,hg,hnc,hm,hsz,htake⟩
  ·omega
  rcases hu.2 with ⟨_,h0⟩|⟨gu,capu,curu,rfl,hgub,hgu,hncu,hmu,hszu,htakeu⟩
  ·omega
  have hne:gu≠gb:=λ e=>hap gu rfl (by rw [e];rfl)
  have hst:∀ c ∈ cs.drop (i*1),c.oneCell'=true:=λ c hc=>h1c c (List.mem_of_mem_drop hc)
  by_cases hroom:n+1≤cap
  ·obtain ⟨zs,hzl,hmore⟩:=ho.more 1 hroom
   have hsl:=hmore.slC;have hsub:fcA (.slice (some ⟨gb,0,none⟩) (n+1) cap) (i+1) (n+1) 1=.slice (some ⟨gb,(i+1)*1,none⟩) (n+1-(i+1)) (cap-(i+1)):=gxA oZ;refine Fc.of (args:=[_,_,_]) Tryz.func111 rfl rfl Tryz.ntmps111 nZ ?_
   repeat' (first|(refine yL ?_;first|refine a0A rfl ?_|refine jxA rfl rfl rfl ?_|(refine ggA rfl _ rfl rfl rfl oZ oZ oZ (λ _=>rfl) ?_;rw [show ((n:Int)+((1:Nat):Int)).toNat=n+1 by omega])|(refine deA rfl _ rfl rfl (HasC.val hsl) rfl oZ oZ (by exact λ _=>rfl) ?_;rw [show ((i:Int)+((1:Nat):Int)).toNat=i+1 by omega])|refine u5A (f:=149) (c:=.bool false) rfl rfl rfl rfl (λ w2 e2=>by rw [hsub];exact c6B (hu.ext e2) (ho.ext e2) oZ hne _ _ _) ?_|(refine a2A (hK _ _ rfl (fvA (i+1) rfl (by intro q h;cases h;decide) c8A rfl rfl hmore (hsl.sub (Nat.le_of_lt oZ) (Nat.le_refl _)) oZ (by rw [omA hlt hcl hzl];exact hst) (λ w2 w3 e2 ho3 hg3=>?_)));clear hK K;dsimp only [vals];have hu3:=((hu.ext e2).kept hg3 (.inr (λ q=>hne (by injection q))));refine aeA kZ (λ K hK=>?_))|(refine a2A (hK _ _ (fvA i rfl (by intro q h;cases h;decide) c8A rfl rfl ho3 hu3.slC oZ (λ c hc=>h1 c (List.mem_of_mem_take hc)) (λ w4 w5 e4 ho5 hg5=>?_)));clear hK K;dsimp only [vals];refine aeA kZ (λ K hK=>?_))|refine yO ?_|(refine yC ?_ ?_<;>intro hc)|(refine yN hK ?_;clear hK K))|(refine oCX ?_;first|refine dyA 8 kZ kZ dZ (λ K hK=>?_))|refine wG ?_|(refine yR ?_;intro K hK)|fail)
   refine c0A rfl (λ v6 w6 e6 h6=>?_);obtain rfl:v6=_:=h6;refine ⟨_,rfl,?_,?_,LocR.refl⟩
   ·have h7:=ho5.ext e6
    rw [ixA hlt hcl oZ hzl] at h7;exact h7.base (Nat.zero_le _)
   ·exact Fr.grown (asA (d2A (ayA e2 hg3) (ayA e4 hg5)) e6)
  ·refine Fc.of (args:=[_,_,_]) Tryz.func111 rfl rfl Tryz.ntmps111 nZ ?_
   repeat' (first|(refine yL ?_;first|refine a0A rfl ?_|refine jxA rfl rfl rfl ?_|(refine ggA rfl _ rfl rfl rfl oZ oZ oZ (λ _=>rfl) ?_;rw [Int.toNat_natCast])|(refine a2A (hK _ _ (fwA (kn:=n+1-i) rfl dZ c8A rfl rfl rfl (kzA ho i hi).slC oZ oZ oZ dZ (by rw [show i+(n+1-i)=n+1 by omega];exact hb) oZ (λ v' w2 w3 zs e2 hzl hz1 ho3 e3=>?_)));clear hK K;rw [show i+(n+1-i)=n+1 by omega] at ho3;have x3:=e2.trans e3;have hs3:=hs.ext x3;dsimp only [vals];refine aeA kZ (λ K hK=>?_))|(refine deA rfl _ rfl rfl (HasC.ownV ho3) rfl oZ oZ (by exact λ _=>rfl) ?_;rw [Int.toNat_natCast])|(refine a2A (hK _ _ (fvA i rfl (by intro q h;cases h;decide) c8A rfl rfl ho3 (hu.ext x3).slC oZ (λ c hc=>h1 c (List.mem_of_mem_take hc)) (λ w4 w5 e4 ho5 hg5=>?_)));clear hK K;have x5:=(x3.trans e4).grown hg5 (λ q hq=>Nat.le_trans e2.size (Own.lt ho3 q hq).1);have hs5:=hs.ext x5;dsimp only [vals];refine aeA kZ (λ K hK=>?_))|(refine deA rfl _ rfl rfl (HasC.ownV ho5) rfl oZ oZ (by exact λ _=>rfl) ?_;rw [show ((i:Int)+((1:Nat):Int)).toNat=i+1 by omega])|(refine deA rfl _ rfl rfl (HasC.val hs5) rfl oZ oZ (by exact λ _=>rfl) ?_;rw [Int.toNat_natCast])|(refine a2A (hK _ _ rfl (fvA (i+1) rfl (by intro q h;cases h;decide) c8A rfl rfl ho5 (hs5.sub (Nat.le_of_lt hlt) (Nat.le_refl _)) oZ (by rw [List.take_of_length_le (by omega:cs.length≤n*1)];exact λ c hc=>hst c (List.mem_of_mem_take hc)) (λ w6 w7 e6 ho7 hg7=>?_)));clear hK K;dsimp only [vals];refine aeA kZ (λ K hK=>?_))|refine yO ?_|(refine yC ?_ ?_<;>intro hc)|(refine yN hK ?_;clear hK K))|(refine oCX ?_;first|refine dyA 8 kZ kZ dZ (λ K hK=>?_))|refine wG ?_|(refine yR ?_;intro K hK)|fail)
   refine c0A rfl (λ v8 w8 e8 h8=>?_);obtain rfl:v8=_:=h8;refine ⟨_,rfl,?_,?_,.inr λ k hk=>Nat.le_trans e2.size (Own.lt ho7 k hk).1⟩
   ·have h9:=ho7.ext e8
    have ed:(cs.take (n*1)).drop (i*1)=cs.drop (i*1):=by rw [List.take_of_length_le oZ]
    rw [ed,kaA hlt (by rw [List.length_take];exact Nat.min_eq_left (by rw [hcl];exact Nat.mul_le_mul_right _ hi)) oZ hzl (by rw [List.length_drop,hcl,Nat.sub_mul])] at h9;exact Own.base h9 (Nat.zero_le _)
   ·exact Fr.grown (mfA _ (((x5.trans e6).grown hg7 (λ q hq=>Nat.le_trans e2.size (Own.lt ho3 q hq).1)).trans e8))
theorem daA:El Tryz.prog 92 96 (.agg #[.int .u8 0,.slice none 0 0,.slice none 0 0,.slice none 0 0]) 4 80:=⟨rfl,rfl,rfl,by decide⟩
theorem t6A (w:World) (v:Value) (n:Nat) (cs:List Value) (h:SlC w v n 4 cs) (h1:∀ u ∈ cs,u.oneCell'=true) (hb:n*80≤140737488355328):Fc Tryz.prog 109 #[v] w (Ret w (.pred (i9A w.heap.size 96 4 n cs))):=by
 obtain ⟨h0,a,cap,rfl,hc,hm,hn,hcs⟩:=id h;have hlen:=h.len;cases a with
 | none =>
   obtain rfl:=hn rfl;obtain rfl:n=0:=oZ;obtain rfl:cs=[]:=List.eq_nil_of_length_eq_zero oZ;refine Fc.of (args:=[_]) Tryz.func109 rfl rfl Tryz.ntmps109 nZ ?_
   repeat' (first|(refine yL ?_;first|refine a0A rfl ?_|refine bqA (c:=.bool true) rfl rfl rfl (λ _=>rfl) ?_|refine yO ?_|(refine yC ?_ ?_<;>intro hc)|(refine yN hK ?_;clear hK K))|refine wG ?_|(refine yR ?_;intro K hK)|(refine oPX ?_;first|exact aiA rfl rfl (Ext.refl _) (λ u w2 e2 hu=>by obtain rfl:u=_:=hu;exact Own.nil))|fail)
 | some a =>
   refine Fc.of (args:=[_]) Tryz.func109 rfl rfl Tryz.ntmps109 nZ ?_
   repeat' (first|(refine yL ?_;first|refine a0A rfl ?_|refine bqA (c:=.bool false) rfl rfl rfl (λ _=>rfl) ?_|refine jwA 96 (s:=4) rfl (λ _=>by kernel_rfl) ?_|(refine a2A (hK _ _ (awA 5 rfl (λ v5 w5 e5 h5=>?_)));clear hK K;have h6:=h.ext e5;have ho:Own w.heap.size _ _ w5 v5 0 []:=h5;refine aeA kZ (λ K hK=>?_))|(refine a2A (hK _ _ (cyA rfl dZ daA rfl ho rfl (HasC.val h6) h1 (by rw [Nat.zero_add];unfold maxLen;omega) (by rw [Nat.zero_add];exact hb) e5.size (λ v' w2 w3 he2 ho3 hg3=>?_)));clear hK K;dsimp only [vals];refine aeA kZ (λ K hK=>?_))|refine yO ?_|(refine yC ?_ ?_<;>intro hc)|(refine yN hK ?_;clear hK K))|refine wG ?_|(refine yR ?_;intro K hK)|fail)
   exact aiA rfl rfl ((e5.trans he2).grown hg3 (λ q hq=>(Own.lt ho q hq).1)) (λ u w4 e4 hu=>by
    obtain rfl:u=_:=hu;have h9:Own w.heap.size 96 4 w3 u n cs:=by simpa using ho3
    exact h9.ext e4)
theorem c5B {w:World} {ba bb na ca nb cb ga gb:Nat} {xs ys:List Value} (ha:Own ba 96 4 w (.slice (some ⟨ga,0,none⟩) na ca) na xs) (hb:Own bb 96 4 w (.slice (some ⟨gb,0,none⟩) nb cb) nb ys) (hcb:0<cb) (hne:ga≠gb) (o l' c':Nat) :
 (callFunc 151 #[.slice (some ⟨ga,0,none⟩) na ca,.slice (some ⟨gb,o,none⟩) l' c']).run Tryz.prog w=.ok (.value (.bool false)) w:=by
 rw [run_callFunc_extern Tryz.func151 kZ kZ kZ (e:=Extern.SlicesOverlaps.overlaps #[92,92] #[4]) kZ,fzA rfl (λ _=>rfl) dZ ha hb hcb hne];rfl
theorem vtA (w:World) (base bu:Nat) (v u:Value) (n i:Nat) (cs xs:List Value) (ho:Own base 96 4 w v n cs) (hu:Own bu 96 4 w u 1 xs) (hi:i≤n) 
 (hap:∀ k,u.ownBlock=some k→v.ownBlock≠some k) (h1c:∀ c ∈ cs,c.oneCell'=true) (h1:∀ c ∈ xs,c.oneCell'=true) (hn:n≤70368744177663) (hb:(n+1)*80≤140737488355328) :
 Fc Tryz.prog 112 #[v,.int .i64 i,u] w (λ en w'=>∃ v',en=.returned v'∧Own 0 96 4 w' v' (n+1) (cs.take (i*4)++xs++cs.drop (i*4))∧Fr (λ k=>v.ownBlock=some k) w w'∧LocR w v v'):=by
 have hs:=ho.slC;have hsu:=hu.slC;have hcl:=ho.1;have hxl:=hu.1
 by_cases hin:i=n
 ·refine Fc.of (args:=[_,_,_]) Tryz.func112 rfl rfl Tryz.ntmps112 nZ ?_
  subst hin
  repeat' (first|(refine yL ?_;first|refine a0A rfl ?_|(refine a2A (hK _ _ (arA rfl dZ daA rfl ho rfl (HasC.val hsu) h1 (by unfold maxLen;omega) hb (λ v' w2 w3 he2 ho3 hg3 hl3=>?_)));clear hK K;dsimp only [vals];refine aeA kZ (λ K hK=>?_))|refine yO ?_|(refine yC ?_ ?_<;>intro hc)|(refine yN hK ?_;clear hK K))|refine wG ?_|(refine yR ?_;intro K hK)|fail)
  refine c0A rfl (λ v5 w5 e5 h5=>?_);obtain rfl:v5=_:=h5;refine ⟨_,rfl,?_,?_,hl3.le he2.size⟩
  ·rw [List.take_of_length_le oZ,List.drop_of_length_le oZ,List.append_nil]
   exact ho3.ext e5
  ·exact Fr.grown (asA (ayA he2 hg3.grownBy) e5)
 ·have hlt:i<n:=oZ
  rcases ho.2 with ⟨_,h0⟩|⟨gb,cap,cur,rfl,hgb,hg,hnc,hm,hsz,htake⟩
  ·omega
  rcases hu.2 with ⟨_,h0⟩|⟨gu,capu,curu,rfl,hgub,hgu,hncu,hmu,hszu,htakeu⟩
  ·omega
  have hne:gu≠gb:=λ e=>hap gu rfl (by rw [e];rfl)
  have hst:∀ c ∈ cs.drop (i*4),c.oneCell'=true:=λ c hc=>h1c c (List.mem_of_mem_drop hc)
  by_cases hroom:n+1≤cap
  ·obtain ⟨zs,hzl,hmore⟩:=ho.more 1 hroom
   have hsl:=hmore.slC;have hsub:fcA (.slice (some ⟨gb,0,none⟩) (n+1) cap) (i+1) (n+1) 4=.slice (some ⟨gb,(i+1)*4,none⟩) (n+1-(i+1)) (cap-(i+1)):=gxA oZ;refine Fc.of (args:=[_,_,_]) Tryz.func112 rfl rfl Tryz.ntmps112 nZ ?_
   repeat' (first|(refine yL ?_;first|refine a0A rfl ?_|refine jxA rfl rfl rfl ?_|(refine ggA rfl _ rfl rfl rfl oZ oZ oZ (λ _=>rfl) ?_;rw [show ((n:Int)+((1:Nat):Int)).toNat=n+1 by omega])|(refine deA rfl _ rfl rfl (HasC.val hsl) rfl oZ oZ (by exact λ _=>rfl) ?_;rw [show ((i:Int)+((1:Nat):Int)).toNat=i+1 by omega])|refine u5A (f:=151) (c:=.bool false) rfl rfl rfl rfl (λ w2 e2=>by rw [hsub];exact c5B (hu.ext e2) (ho.ext e2) oZ hne _ _ _) ?_|(refine a2A (hK _ _ rfl (fvA (i+1) rfl (by intro q h;cases h;decide) daA rfl rfl hmore (hsl.sub (Nat.le_of_lt oZ) (Nat.le_refl _)) oZ (by rw [omA hlt hcl hzl];exact hst) (λ w2 w3 e2 ho3 hg3=>?_)));clear hK K;dsimp only [vals];have hu3:=((hu.ext e2).kept hg3 (.inr (λ q=>hne (by injection q))));refine aeA kZ (λ K hK=>?_))|(refine a2A (hK _ _ (fvA i rfl (by intro q h;cases h;decide) daA rfl rfl ho3 hu3.slC oZ (λ c hc=>h1 c (List.mem_of_mem_take hc)) (λ w4 w5 e4 ho5 hg5=>?_)));clear hK K;dsimp only [vals];refine aeA kZ (λ K hK=>?_))|refine yO ?_|(refine yC ?_ ?_<;>intro hc)|(refine yN hK ?_;clear hK K))|(refine oCX ?_;first|refine dyA 8 kZ kZ dZ (λ K hK=>?_))|refine wG ?_|(refine yR ?_;intro K hK)|fail)
   refine c0A rfl (λ v6 w6 e6 h6=>?_);obtain rfl:v6=_:=h6;refine ⟨_,rfl,?_,?_,LocR.refl⟩
   ·have h7:=ho5.ext e6
    rw [ixA hlt hcl oZ hzl] at h7;exact h7.base (Nat.zero_le _)
   ·exact Fr.grown (asA (d2A (ayA e2 hg3) (ayA e4 hg5)) e6)
  ·refine Fc.of (args:=[_,_,_]) Tryz.func112 rfl rfl Tryz.ntmps112 nZ ?_
   repeat' (first|(refine yL ?_;first|refine a0A rfl ?_|refine jxA rfl rfl rfl ?_|(refine ggA rfl _ rfl rfl rfl oZ oZ oZ (λ _=>rfl) ?_;rw [Int.toNat_natCast])|(refine a2A (hK _ _ (fwA (kn:=n+1-i) rfl dZ daA rfl rfl rfl (kzA ho i hi).slC oZ oZ oZ dZ (by rw [show i+(n+1-i)=n+1 by omega];exact hb) oZ (λ v' w2 w3 zs e2 hzl hz1 ho3 e3=>?_)));clear hK K;rw [show i+(n+1-i)=n+1 by omega] at ho3;have x3:=e2.trans e3;have hs3:=hs.ext x3;dsimp only [vals];refine aeA kZ (λ K hK=>?_))|(refine deA rfl _ rfl rfl (HasC.ownV ho3) rfl oZ oZ (by exact λ _=>rfl) ?_;rw [Int.toNat_natCast])|(refine a2A (hK _ _ (fvA i rfl (by intro q h;cases h;decide) daA rfl rfl ho3 (hu.ext x3).slC oZ (λ c hc=>h1 c (List.mem_of_mem_take hc)) (λ w4 w5 e4 ho5 hg5=>?_)));clear hK K;have x5:=(x3.trans e4).grown hg5 (λ q hq=>Nat.le_trans e2.size (Own.lt ho3 q hq).1);have hs5:=hs.ext x5;dsimp only [vals];refine aeA kZ (λ K hK=>?_))|(refine deA rfl _ rfl rfl (HasC.ownV ho5) rfl oZ oZ (by exact λ _=>rfl) ?_;rw [show ((i:Int)+((1:Nat):Int)).toNat=i+1 by omega])|(refine deA rfl _ rfl rfl (HasC.val hs5) rfl oZ oZ (by exact λ _=>rfl) ?_;rw [Int.toNat_natCast])|(refine a2A (hK _ _ rfl (fvA (i+1) rfl (by intro q h;cases h;decide) daA rfl rfl ho5 (hs5.sub (Nat.le_of_lt hlt) (Nat.le_refl _)) oZ (by rw [List.take_of_length_le (by omega:cs.length≤n*4)];exact λ c hc=>hst c (List.mem_of_mem_take hc)) (λ w6 w7 e6 ho7 hg7=>?_)));clear hK K;dsimp only [vals];refine aeA kZ (λ K hK=>?_))|refine yO ?_|(refine yC ?_ ?_<;>intro hc)|(refine yN hK ?_;clear hK K))|(refine oCX ?_;first|refine dyA 8 kZ kZ dZ (λ K hK=>?_))|refine wG ?_|(refine yR ?_;intro K hK)|fail)
   refine c0A rfl (λ v8 w8 e8 h8=>?_);obtain rfl:v8=_:=h8;refine ⟨_,rfl,?_,?_,.inr λ k hk=>Nat.le_trans e2.size (Own.lt ho7 k hk).1⟩
   ·have h9:=ho7.ext e8
    have ed:(cs.take (n*4)).drop (i*4)=cs.drop (i*4):=by rw [List.take_of_length_le oZ]
    rw [ed,kaA hlt (by rw [List.length_take];exact Nat.min_eq_left (by rw [hcl];exact Nat.mul_le_mul_right _ hi)) oZ hzl (by rw [List.length_drop,hcl,Nat.sub_mul])] at h9;exact Own.base h9 (Nat.zero_le _)
   ·exact Fr.grown (mfA _ (((x5.trans e6).grown hg7 (λ q hq=>Nat.le_trans e2.size (Own.lt ho3 q hq).1)).trans e8))
abbrev tS:Nat:=102
abbrev tK:Nat:=31
abbrev Qd:=Int × Value × Value × Value
def qv (q:Qd):Value:=.agg #[.int .u8 q.1,q.2.1,q.2.2.1,q.2.2.2]
def qcs (q:Qd):List Value:=[.int .u8 q.1,q.2.1,q.2.2.1,q.2.2.2]
def q0:Qd:=(0,nilS,nilS,nilS)
def bdA:List Qd→List Value
 | []=>[]
 | q::r=>.int .u8 q.1::q.2.1::q.2.2.1::q.2.2.2::bdA r
theorem dfA:∀ a b,bdA (a++b)=bdA a++bdA b
 | [],b=>rfl
 | x::a,b=>by simp only [List.cons_append,bdA,dfA a b]
theorem gfA:∀ (a:List Qd) (j:Nat),j<a.length→((bdA a).drop (j*4)).take 4=qcs (a.getD j q0)
 | [],j,h=>by simp at h
 | x::a,0,_=>rfl
 | x::a,j+1,h=>by
   have ih:=gfA a j (by simpa using h);rw [show (j+1)*4=j*4+4 by omega];exact ih
theorem h1A:∀ (a:List Qd) (j:Nat),bdA (a.take j)=(bdA a).take (j*4)
 | [],j=>by simp [bdA]
 | x::a,0=>by simp [bdA]
 | x::a,j+1=>by
   rw [show (j+1)*4=j*4+1+1+1+1 by omega];simp only [List.take_succ_cons,bdA,h1A a j]
theorem h2A:∀ (a:List Qd) (j:Nat),bdA (a.drop j)=(bdA a).drop (j*4)
 | [],j=>by simp [bdA]
 | x::a,0=>by simp [bdA]
 | x::a,j+1=>by
   rw [show (j+1)*4=j*4+1+1+1+1 by omega];simp only [List.drop_succ_cons,bdA,h2A a j]
theorem qgA (a:List Qd) (j:Nat) (q:Qd) (h:j<a.length):bdA (a.set j q)=(bdA a).take (j*4)++qcs q++(bdA a).drop (j*4+4):=by
 rw [List.set_eq_take_append_cons_drop,if_pos h,dfA,h1A,show q::a.drop (j+1)=[q]++a.drop (j+1) from rfl,dfA,h2A,show (j+1)*4=j*4+4 by omega,List.append_assoc];rfl
theorem hzA:∀ (a:List Qd),∀ u ∈ bdA a,∃ j,j<a.length∧u ∈ qcs (a.getD j q0)
 | [],u,h=>by cases h
 | x::a,u,h=>by
   have h':u ∈ qcs x++bdA a:=h
   rcases List.mem_append.1 h' with h1|h1
   ·exact ⟨0,by simp,h1⟩
   ·obtain ⟨j,h2,h3⟩:=hzA a u h1
    exact ⟨j+1,by simpa using h2,h3⟩
theorem Cn.qd {A:Nat→Prop} {w:World} {v:Value} {p:Nat→Bool} {kk:Int} (h:Cn A w v p kk):∃ q:Qd,v=qv q∧(∀ u ∈ qcs q,u.oneCell'=true):=by
 obtain ⟨kd,va,vw,vr,rfl,-,-,-,-,-,-,h1⟩:=h.parts;exact ⟨(kd,va,vw,vr),rfl,h1⟩
theorem Cn.mono {A A':Nat→Prop} {w:World} {v:Value} {p:Nat→Bool} {kk:Int} (h:Cn A w v p kk) (hA:∀ k,k<w.heap.size→A k→A' k):Cn A' w v p kk:=by
 obtain ⟨hp,⟨h1,kd,va,h2,h3,h4⟩|h|h⟩:=h
 ·exact ⟨hp,.inl ⟨h1,kd,va,h2,h3,h4.1,λ b hb=>hA b (Own.lt h4.1 b hb).2 (h4.2 b hb)⟩⟩
 ·exact ⟨hp,.inr (.inl h)⟩
 ·exact ⟨hp,.inr (.inr h)⟩
def Plain (A R:Nat→Prop) (w:World):Prop:=∀ k,R k→∃ cur e j,w.heap[k]?=some (.cells cur e j)∧61≠e∧105≠e∧(A k→31≠e)
theorem Cn.fr {A R:Nat→Prop} {w w':World} {v:Value} {p:Nat→Bool} {kk:Int} (h:Cn A w v p kk) (hf:Fr R w w') (hR:Plain A R w):Cn A w' v p kk:=by
 obtain ⟨hp,⟨h1,kd,va,h2,h3,h4⟩|⟨h1,vw,h3,h4⟩|⟨h1,vr,h3,h4⟩⟩:=h
 ·refine ⟨hp,.inl ⟨h1,kd,va,h2,h3,hf.own h4.1 (λ k hk hr=>?_),h4.2⟩⟩
  obtain ⟨cur,e,j,hb,ne1,ne2,ne3⟩:=hR k hr;exact Own.apart h4.1 hb (ne3 (h4.2 k hk)) hk
 ·refine ⟨hp,.inr (.inl ⟨h1,vw,h3,hf.own h4 (λ k hk hr=>?_)⟩)⟩
  obtain ⟨cur,e,j,hb,ne1,ne2,ne3⟩:=hR k hr;exact Own.apart h4 hb ne1 hk
 ·refine ⟨hp,.inr (.inr ⟨h1,vr,h3,hf.own h4 (λ k hk hr=>?_)⟩)⟩
  obtain ⟨cur,e,j,hb,ne1,ne2,ne3⟩:=hR k hr;exact Own.apart h4 hb ne2 hk
structure RS (A:Nat→Prop) (w:World) (b:Nat) (kv lv:Value) (p:Nat→Bool):Prop where
 hb:w.heap[b]?=some (.cells #[kv,lv] tS (0,0))
 hk:OwnI 0 tK .u16 w kv (b2A p)
 top:∀ x,TOP≤x→p x=false
 hl:∃ Q:List Qd,Q.length=nk p∧Own 0 tC 4 w lv (nk p) (bdA Q)∧∀ i,i<nk p→Cn (λ k=>A k∧kv.ownBlock≠some k) w (qv (Q.getD i q0)) (blk p (kp p i)) (avA (blk p (kp p i)))
def onw (b:Nat) (kv lv:Value) (k:Nat):Prop:=k=b∨kv.ownBlock=some k∨lv.ownBlock=some k
theorem RS.ext {A:Nat→Prop} {w w':World} {b:Nat} {kv lv:Value} {p:Nat→Bool} (h:RS A w b kv lv p) (e:Ext w w'):RS A w' b kv lv p:=by
 obtain ⟨Q,h1,h2,h3⟩:=h.hl;exact ⟨e.block h.hb,h.hk.ext e,h.top,Q,h1,h2.ext e,λ i hi=>(h3 i hi).ext e⟩
theorem azA {base e s n:Nat} {w:World} {v:Value} {cs:List Value} (h:Own base e s w v n cs) {k:Nat} (hk:v.ownBlock=some k):∃ cur,w.heap[k]?=some (.cells cur e (0,0)):=by
 rcases h.2 with ⟨h1,h0⟩|⟨gb,cap,cur,rfl,hgb,hg,-⟩
 ·rw [h1] at hk;cases hk
 ·cases hk;exact ⟨cur,hg⟩
theorem RS.lt {A:Nat→Prop} {w:World} {b:Nat} {kv lv:Value} {p:Nat→Bool} (h:RS A w b kv lv p) {k:Nat} (hk:onw b kv lv k):k<w.heap.size:=by
 obtain ⟨Q,h1,h2,h3⟩:=h.hl
 rcases hk with rfl|hk|hk
 ·exact d9B h.hb
 ·exact (Own.lt h.hk k hk).2
 ·exact (Own.lt h2 k hk).2
theorem RS.plainA {A A':Nat→Prop} {w:World} {b:Nat} {kv lv:Value} {p:Nat→Bool} (h:RS A w b kv lv p) (hA:∀ k,kv.ownBlock=some k→¬ A' k):Plain A' (onw b kv lv) w:=by
 obtain ⟨Q,h1,h2,h3⟩:=h.hl;rintro k (rfl|hk|hk)
 ·exact ⟨_,_,_,h.hb,by decide,by decide,λ _=>by decide⟩
 ·obtain ⟨cur,hc⟩:=azA h.hk hk
  exact ⟨_,_,_,hc,by decide,by decide,λ ha=>absurd ha (hA k hk)⟩
 ·obtain ⟨cur,hc⟩:=azA h2 hk
  exact ⟨_,_,_,hc,by decide,by decide,λ _=>by decide⟩
theorem Plain.mono {A A' R:Nat→Prop} {w:World} (h:Plain A R w) (hA:∀ k,A' k→A k):Plain A' R w:=λ k hk=>by
 obtain ⟨cur,e,j,h1,h2,h3,h4⟩:=h k hk;exact ⟨cur,e,j,h1,h2,h3,λ ha=>h4 (hA k ha)⟩
theorem RS.mono {A A':Nat→Prop} {w:World} {b:Nat} {kv lv:Value} {p:Nat→Bool} (h:RS A w b kv lv p) (hA:∀ k,k<w.heap.size→A k→kv.ownBlock≠some k→A' k):RS A' w b kv lv p:=by
 obtain ⟨Q,h1,h2,h3⟩:=h.hl;exact ⟨h.hb,h.hk,h.top,Q,h1,h2,λ i hi=>(h3 i hi).mono λ k hk ha=>⟨hA k hk ha.1 ha.2,ha.2⟩⟩
theorem RS.fr {A R:Nat→Prop} {w w':World} {b:Nat} {kv lv:Value} {p:Nat→Bool} (h:RS A w b kv lv p) (hf:Fr R w w') (hR:Plain A R w) (hB:∀ k,onw b kv lv k→¬ R k):RS A w' b kv lv p:=by
 obtain ⟨Q,h1,h2,h3⟩:=h.hl;exact ⟨hf.at h.hb (hB b (.inl rfl)),hf.own h.hk (λ k hk=>hB k (.inr (.inl hk))),h.top,Q,h1,hf.own h2 (λ k hk=>hB k (.inr (.inr hk))),λ i hi=>(h3 i hi).fr hf (hR.mono λ k hk=>hk.1)⟩
def RSet (B A:Nat→Prop) (w:World) (v:Value) (p:Nat→Bool):Prop:=∃ b kv lv,v=.pointer (some ⟨b,0,none⟩)∧RS A w b kv lv p∧∀ k,onw b kv lv k→B k
theorem RSet.ext {B A:Nat→Prop} {w w':World} {v:Value} {p:Nat→Bool} (h:RSet B A w v p) (e:Ext w w'):RSet B A w' v p:=by
 obtain ⟨b,kv,lv,h1,h2,h3⟩:=h;exact ⟨b,kv,lv,h1,h2.ext e,h3⟩
def rsP (B A:Nat→Prop) (p:Nat→Bool):AV:=⟨λ v w=>RSet B A w v p,λ _ _ _ e h=>h.ext e⟩
theorem RSet.mono {B A B' A':Nat→Prop} {w:World} {v:Value} {p:Nat→Bool} (h:RSet B A w v p) (hB:∀ k,k<w.heap.size→B k→B' k) (hA:∀ k,k<w.heap.size→A k→A' k):RSet B' A' w v p:=by
 obtain ⟨b,kv,lv,h1,h2,h3⟩:=h;exact ⟨b,kv,lv,h1,h2.mono λ k hk ha _=>hA k hk ha,λ k hk=>hB k (h2.lt hk) (h3 k hk)⟩
def NSet (B A:Nat→Prop) (w:World) (v:Value) (p:Nat→Bool):Prop:=(v=.pointer none∧p=λ _=>false)∨RSet B A w v p
theorem NSet.ext {B A:Nat→Prop} {w w':World} {v:Value} {p:Nat→Bool} (h:NSet B A w v p) (e:Ext w w'):NSet B A w' v p:=h.imp id (λ h=>h.ext e)
theorem RSet.n {B A:Nat→Prop} {w:World} {v:Value} {p:Nat→Bool} (h:RSet B A w v p):NSet B A w v p:=.inr h
theorem j7A (k:Nat):ne (λ _=>false) k=false:=by
 cases h:ne (λ _=>false) k
 ·rfl
 ·obtain ⟨i,_,h2⟩:=ne_iff.1 h;cases h2
theorem g9A:nk (λ _=>false)=0:=ejA _ (λ i _=>j7A i)
theorem maA:b2A (λ _=>false)=[]:=List.eq_nil_of_length_eq_zero (by rw [bpA,g9A])
theorem RS.turned {A:Nat→Prop} {w w':World} {b:Nat} {kv lv kv' lv':Value} {p p':Nat→Bool} {Q':List Qd} (hS:RS A w b kv lv p) (hf:Fr (onw b kv lv) w w') (hb:w'.heap[b]?=some (.cells #[kv',lv'] tS (0,0))) (hk:OwnI 0 tK .u16 w' kv' (b2A p'))
 (hn:Q'.length=nk p') (hl:Own 0 tC 4 w' lv' (nk p') (bdA Q')) (htop:∀ x,TOP≤x→p' x=false) (hloc:LocR w kv kv')
 (hC:∀ i,i<nk p'→Cn (λ k=>A k∧kv.ownBlock≠some k) w (qv (Q'.getD i q0)) (blk p' (kp p' i)) (avA (blk p' (kp p' i)))):RS A w' b kv' lv' p':=by
 refine ⟨hb,hk,htop,Q',hn,hl,λ i hi=>?_⟩;refine Cn.fr ((hC i hi).mono (A':=λ k=>A k∧kv'.ownBlock≠some k∧kv.ownBlock≠some k) λ k hlt ha=>⟨ha.1,λ h=>?_,ha.2⟩) hf (hS.plainA λ k h1 h2=>h2.2.2 h1) |>.mono λ k _ h=>⟨h.1,h.2.1⟩
 rcases hloc with h' | h'
 ·exact ha.2 (h'▸h)
 ·have:=h' k h;omega
theorem RS.new {A:Nat→Prop} {w:World} {b:Nat} (hb:w.heap[b]?=some (.cells #[nilS,nilS] tS (0,0))):RS A w b nilS nilS (λ _=>false) :=
 ⟨hb,by rw [maA];exact OwnI.nil,λ _ _=>rfl,[],by rw [g9A];rfl,by rw [g9A];exact Own.nil,λ i hi=>by rw [g9A] at hi;omega⟩
end Go.Proofs.YtbokphkfojijoaaGreatDoor
end
section
namespace Go.Proofs.YtbokphkfojijoaaGreatDoor
open Go.LA Go.ArrP Go.RowKit
section
variable {P:Program} {l:List Oper} {N:Nn} {wb:World} {K:List Oper→Env→Prop} {rest:List Oper} {E:Env}
variable {d:Tmp} {ty t t':TypeId} {pos:String} {after:Array Edge} {g:Option (Nat × Bool)} {x y z:Operand} {k k':IntKind}
theorem oNc (h:LA P l wb K (⟨some d,.nilCheck x,ty,pos,after,g⟩::rest) E):LA P l wb K (⟨some d,.nilCheck x,ty,pos,after,g⟩::rest) E:=h
theorem oEq {op:BinOp} (h:LA P l wb K (⟨some d,.binOp op 37 x y t',ty,pos,after,g⟩::rest) E):LA P l wb K (⟨some d,.binOp op 37 x y t',ty,pos,after,g⟩::rest) E:=h
end
variable {A B:Nat→Prop}
theorem new_c (w:World) (hB:Fsh B w):Fc Tryz.prog 40 #[] w (Ret w (.pred (rsP B A (λ _=>false)))):=by
 refine Fc.of (args:=[]) Tryz.func40 rfl rfl Tryz.ntmps40 nZ ?_
 repeat' (first|(refine yL ?_;first|refine a0A rfl ?_|refine fnA (c:=.agg #[nilS,nilS]) rfl (λ _=>by kernel_rfl) ?_|refine ghA rfl rfl ?_|refine yO ?_|(refine yC ?_ ?_<;>intro hc)|(refine yN hK ?_;clear hK K))|refine wG ?_|(refine yR ?_;intro K hK)|fail)
 refine aiA rfl rfl (Ext.refl _) (λ v w' e hv=>?_);obtain ⟨b,hb,rfl,hh⟩:=hv;exact ⟨b,nilS,nilS,rfl,RS.new hh,λ k hk=>by
  rcases hk with rfl|hk|hk
  ·exact hB _ hb
  ·cases hk
  ·cases hk⟩
theorem y9A {w:World} {v:Value} {p:Nat→Bool} (h:NSet B A w v p) {k:Nat} (hk:k<65536):Fc Tryz.prog 110 #[v,.int .u16 k] w (Ret w (.tup2 (.val (.int .i64 (cnt (ne p) k))) (.val (.bool (ne p k))))):=by
 rcases h with ⟨rfl,rfl⟩|⟨b,kv,lv,rfl,hS,-⟩
 ·rw [j7A,ejA k (λ i _=>j7A i)]
  refine Fc.of (args:=[_,_]) Tryz.func110 rfl rfl Tryz.ntmps110 nZ ?_
  repeat' (first|(refine yL ?_;first|refine a0A rfl ?_|(refine oEq ?_;refine bqA (c:=.bool true) rfl rfl rfl (λ _=>rfl) ?_)|refine yO ?_|(refine yC ?_ ?_<;>intro hc)|(refine yN hK ?_;clear hK K))|refine wG ?_|(refine yR ?_;intro K hK)|fail)
  all_goals exact diA rfl rfl rfl (Ext.refl _) rfl rfl
 ·have hn:(b2A p).length≤4611686018427387903:=by rw [bpA];have:=gqA p;omega
  have hb:bsS (b2A p) (k:Int)=cnt (ne p) k:=jkA (ne p) k oZ;have hf:dkA (b2A p) (k:Int)=ne p k:=by
   rw [fjA _ (j9A p)];exact d8A (ne p) hk
  refine Fc.of (args:=[_,_]) Tryz.func110 rfl rfl Tryz.ntmps110 nZ ?_
  repeat' (first|(refine yL ?_;first|refine a0A rfl ?_|(refine oEq ?_;refine bqA (c:=.bool false) rfl rfl rfl (λ _=>rfl) ?_)|(refine oNc ?_;refine a9A rfl rfl ?_)|(refine oF 0 ?_;refine a1A (a':=⟨b,0,none⟩) rfl rfl (λ _=>rfl) ?_)|(refine oF 1 ?_;refine a1A (a':=⟨b,1,none⟩) rfl rfl (λ _=>rfl) ?_)|(refine oLt 27 ?_;refine a6A (c:=kv) rfl (λ _=>rfl) rfl hS.hb rfl ?_)|(refine oLt 92 ?_;refine a6A (c:=lv) rfl (λ _=>rfl) rfl hS.hb rfl ?_)|refine yO ?_|(refine yC ?_ ?_<;>intro hc)|(refine yV ?_;first|(refine oC 148 ?_;refine a4A (f:=148) rfl rfl rfl rfl  (.tup2 (.val (.int .i64 (bsS (b2A p) k))) (.val (.bool (dkA (b2A p) k)))) (by intro u1 u2 w e hu1 hu2;(try obtain rfl:u1=_:=hu1);(try obtain rfl:u2=_:=hu2);exact bs_c _ _ _ _ (hS.hk.ext e).slI hn) ?_))|(refine yN hK ?_;clear hK K))|refine wG ?_|(refine yR ?_;intro K hK)|fail)
  all_goals exact diA rfl rfl rfl (Ext.refl _) (by rw [hb]) (by rw [hf])
theorem kind_none:avA (λ _=>false)=1:=by
 unfold avA;rw [ejA (p:=λ _=>false) 65536 (λ i _=>rfl),ejA (p:=bbA λ _=>false) 65536 (λ i _=>rfl)];decide
theorem vzA {w:World} {v:Value} {p:Nat→Bool} (h:NSet B A w v p) {k:Nat} (hk:k<65536):Fc Tryz.prog 76 #[v,.int .u16 k] w (Ret w (.pred (cnP A (blk p k) (avA (blk p k))))):=by
 have hf:∀ w',Ext w w'→_:=λ w' e=>y9A (h.ext e) hk
 cases hn:ne p k
 ·rw [hn] at hf
  have h1:avA (blk p k)=1:=by rw [inA hn];exact kind_none
  rw [h1,inA hn];refine Fc.of (args:=[_,_]) Tryz.func76 rfl rfl Tryz.ntmps76 nZ ?_
  repeat' (first|(refine yL ?_;first|refine a0A rfl ?_|(refine oAl ?_;refine c6A rfl (λ _=>rfl) ?_)|refine fnA (c:=.agg #[.int .u8 0,nilS,nilS,nilS]) rfl (λ _=>by kernel_rfl) ?_|(refine a2A (hK _ _ (ciA (φ:=cnP A (λ _=>false) 1) (w0:=w) rfl rfl rfl beA (λ v' w' e hv=>by obtain rfl:v'=_:=hv;exact Cn.zero) rfl (λ _=>rfl) (Ext.refl _) (λ w' e'=>?_)));clear hK K)|refine yO ?_|(refine yC ?_ ?_<;>intro hc)|(refine yV ?_;first|(refine oC 110 ?_;refine a4A (f:=110) rfl rfl rfl rfl  (.tup2 (.val (.int .i64 (cnt (ne p) k))) (.val (.bool false))) (by intro u1 u2 w e hu1 hu2;(try obtain rfl:u1=_:=hu1);(try obtain rfl:u2=_:=hu2);exact hf _ e) ?_))|(refine yN hK ?_;clear hK K))|refine wG ?_|(refine yR ?_;intro K hK)|fail)
  all_goals exact d4A rfl rfl rfl rfl rfl (by assumption)
 ·obtain ⟨i1,i2⟩:=vpA hk hn
  obtain ⟨i,hi⟩:∃ i,i=cnt (ne p) k:=⟨_,rfl⟩;rw [← hi] at i1 i2;rw [hn] at hf
  rcases h with ⟨rfl,rfl⟩|⟨b,kv,lv,rfl,hS,-⟩
  ·rw [j7A] at hn;cases hn
  obtain ⟨Q,q1,q2,q3⟩:=hS.hl;have hcn:=q3 i i1;rw [i2] at hcn;replace hcn:=hcn.mono (A':=A) (λ k _ h=>h.1);have hat:=gfA Q i oZ;rw [← hi] at hf;clear hi q3;refine Fc.of (args:=[_,_]) Tryz.func76 rfl rfl Tryz.ntmps76 nZ ?_
  repeat' (first|(refine yL ?_;first|refine a0A rfl ?_|(refine oAl ?_;refine c6A rfl (λ _=>rfl) ?_)|(refine oNc ?_;refine a9A rfl rfl ?_)|(refine oF 0 ?_;refine a1A (a':=⟨b,0,none⟩) rfl rfl (λ _=>rfl) ?_)|(refine oF 1 ?_;refine a1A (a':=⟨b,1,none⟩) rfl rfl (λ _=>rfl) ?_)|(refine oLt 27 ?_;refine a6A (c:=kv) rfl (λ _=>rfl) rfl hS.hb rfl ?_)|(refine oLt 92 ?_;refine a6A (c:=lv) rfl (λ _=>rfl) rfl hS.hb rfl ?_)|(refine oI ?_;refine c1A (s:=4) rfl _ rfl (λ _=>rfl) rfl (HasC.ownV q2) rfl i rfl i1 ?_;rw [hat])|(refine oLd ?_;refine auA (cs:=qcs _) rfl (λ _=>rfl) (λ _=>rfl) rfl ?_)|(refine a2A (hK _ _ (ciA (φ:=cnP A (blk p k) (avA (blk p k))) (w0:=w) rfl rfl rfl beA (λ v' w' e hv=>by obtain rfl:v'=_:=hv;exact hcn.ext e) rfl (λ _=>rfl) (Ext.refl _) (λ w' e'=>?_)));clear hK K)|refine yO ?_|(refine yC ?_ ?_<;>intro hc)|(refine yV ?_;first|(refine oC 110 ?_;refine a4A (f:=110) rfl rfl rfl rfl  (.tup2 (.val (.int .i64 i)) (.val (.bool true))) (by intro u1 u2 w e hu1 hu2;(try obtain rfl:u1=_:=hu1);(try obtain rfl:u2=_:=hu2);exact hf _ e) ?_))|(refine yN hK ?_;clear hK K))|refine wG ?_|(refine yR ?_;intro K hK)|fail)
  all_goals exact d4A rfl rfl rfl rfl rfl (by assumption)
end Go.Proofs.YtbokphkfojijoaaGreatDoor
end
section
namespace Go.Proofs.YtbokphkfojijoaaGreatDoor
open Go.LA Go.ArrP Go.RowKit
variable {A B:Nat→Prop}
theorem laA {α:Type} {d:α} {l:List α} {i j:Nat} {x:α} (h:i<l.length):(l.set i x).getD j d=if j=i then x else l.getD j d:=by
 rw [List.getD_eq_getElem?_getD,List.getD_eq_getElem?_getD,List.getElem?_set]
 by_cases e:j=i
 ·subst e;simp [h]
 ·simp [e,Ne.symm e]
theorem w0A {α:Type} {d:α} {l:List α} {i j:Nat} {x:α} (h:i≤l.length):(l.take i++[x]++l.drop i).getD j d=if j<i then l.getD j d else if j=i then x else l.getD (j-1) d:=by
 have hl:(l.take i).length=i:=by rw [List.length_take];omega
 by_cases h1:j<i
 ·rw [if_pos h1,List.append_assoc,fiA oZ,List.getD_eq_getElem?_getD,List.getD_eq_getElem?_getD,List.getElem?_take_of_lt h1]
 ·rw [if_neg h1]
  by_cases h2:j=i
  ·rw [if_pos h2,fiA (by rw [List.length_append,List.length_singleton];omega),e2A oZ,hl,h2,Nat.sub_self];rfl
  ·rw [if_neg h2,e2A (by rw [List.length_append,List.length_singleton];omega),List.length_append,List.length_singleton,hl,List.getD_eq_getElem?_getD,List.getD_eq_getElem?_getD,List.getElem?_drop]
   congr 2;omega
theorem muA {p:Nat→Bool} {k:Nat} {q:Nat→Bool} (h:∀ x,TOP≤x→p x=false) (hk:k<65536):∀ x,TOP≤x→upd p k q x=false:=λ x hx=>by
 unfold upd;rw [if_neg (by rw [epA] at hx;omega)];exact h x hx
theorem osA {a b:Qd} (h:qv a=qv b):a=b:=by
 obtain ⟨a1,a2,a3,a4⟩:=a;obtain ⟨b1,b2,b3,b4⟩:=b;unfold qv at h
 simpa using h
def Mut (A:Nat→Prop) (w:World) (b:Nat) (kv lv:Value) (p':Nat→Bool) (w':World):Prop:=∃ kv' lv',RS A w' b kv' lv' p'∧Fr (onw b kv lv) w w'∧LocR w kv kv'∧LocR w lv lv'
theorem RS.set {A:Nat→Prop} {w w':World} {b:Nat} {kv lv:Value} {p:Nat→Bool} (hS:RS A w b kv lv p) {k:Nat} (hk:k<65536) (hn:ne p k=true) {q:Nat→Bool} (hq:∀ i,65536≤i→q i=false) (hq0:0<cnt q 65536) {Q:List Qd} {qc:Qd} (q1:Q.length=nk p)
 (q3:∀ i,i<nk p→Cn (λ k=>A k∧kv.ownBlock≠some k) w (qv (Q.getD i q0)) (blk p (kp p i)) (avA (blk p (kp p i)))) (hc:Cn (λ j=>A j∧kv.ownBlock≠some j) w (qv qc) q (avA q))
 (hf:Fr (onw b kv lv) w w') (hb:w'.heap[b]?=some (.cells #[kv,lv] tS (0,0))) (hkk:OwnI 0 tK .u16 w' kv (b2A p)) (hl:Own 0 tC 4 w' lv (nk p) (bdA (Q.set (cnt (ne p) k) qc))):Mut A w b kv lv (upd p k q) w':=by
 have hkeys:=oaA p hq hq0 hn;have hnk:nk (upd p k q)=nk p:=by rw [← bpA,← bpA,hkeys]
 obtain ⟨i1,i2⟩:=vpA hk hn;refine ⟨kv,lv,hS.turned (Q':=Q.set (cnt (ne p) k) qc) hf hb (by rw [hkeys];exact hkk) (by rw [List.length_set,q1,hnk]) (by rw [hnk];exact hl) (muA hS.top hk) LocR.refl (λ j hj=>?_),hf,LocR.refl,LocR.refl⟩;rw [hnk] at hj;rw [yoA p hq hq0 hn,laA oZ]
 by_cases e:j=cnt (ne p) k
 ·rw [if_pos e,e,i2,klA p k hq];exact hc
 ·have hne:kp p j≠k:=λ h=>e (by rw [← h];exact (p6A oZ).symm)
  rw [if_neg e,h6A p q hne];exact q3 j hj
theorem RS.ins {A:Nat→Prop} {w w':World} {b:Nat} {kv lv kv' lv':Value} {p:Nat→Bool} (hS:RS A w b kv lv p) {k:Nat} (hk:k<65536) (hn:ne p k=false) {q:Nat→Bool} (hq:∀ i,65536≤i→q i=false) (hq0:0<cnt q 65536) {Q:List Qd} {qc:Qd} (q1:Q.length=nk p)
 (q3:∀ i,i<nk p→Cn (λ k=>A k∧kv.ownBlock≠some k) w (qv (Q.getD i q0)) (blk p (kp p i)) (avA (blk p (kp p i)))) (hc:Cn (λ j=>A j∧kv.ownBlock≠some j) w (qv qc) q (avA q))
 (hf:Fr (onw b kv lv) w w') (hb:w'.heap[b]?=some (.cells #[kv',lv'] tS (0,0))) (hkk:OwnI 0 tK .u16 w' kv' ((b2A p).take (cnt (ne p) k)++[(k:Int)]++(b2A p).drop (cnt (ne p) k)))
 (hl:Own 0 tC 4 w' lv' (nk p+1) (bdA (Q.take (cnt (ne p) k)++[qc]++Q.drop (cnt (ne p) k)))) (hk1:LocR w kv kv') (hl1:LocR w lv lv'):Mut A w b kv lv (upd p k q) w':=by
 have hkeys:=ivA p hk hq hq0 hn;have hnk:=r5A p hk hq hq0 hn;have hle:cnt (ne p) k≤nk p:=cnt_mono _ _ oZ;refine ⟨kv',lv',hS.turned (Q':=Q.take (cnt (ne p) k)++[qc]++Q.drop (cnt (ne p) k)) hf hb (by rw [hkeys];exact hkk) (by simp only [List.length_append,List.length_take,List.length_drop,List.length_singleton];omega) (by rw [hnk];exact hl) (muA hS.top hk) hk1 (λ j hj=>?_),hf,hk1,hl1⟩;rw [hnk] at hj;rw [xoA p hk hq hq0 hn hj,w0A oZ];have hne:∀ j,j<nk p→kp p j≠k:=λ j hj h=>by
  have:=(hrA hj).2.1;rw [h,hn] at this;cases this
 split
 ·rw [h6A p q (hne j oZ)];exact q3 j oZ
 ·split
  ·rw [klA p k hq];exact hc
  ·rw [h6A p q (hne _ oZ)];exact q3 _ oZ
theorem slot_ne {A:Nat→Prop} {w:World} {b:Nat} {kv lv:Value} {p:Nat→Bool} (hS:RS A w b kv lv p):kv.ownBlock≠some b∧lv.ownBlock≠some b∧∀ k,kv.ownBlock=some k→lv.ownBlock≠some k:=by
 obtain ⟨Q,h1,h2,h3⟩:=hS.hl;refine ⟨Own.apart hS.hk hS.hb dZ,Own.apart h2 hS.hb dZ,λ k hk=>?_⟩;obtain ⟨cur,hc⟩:=azA hS.hk hk;exact Own.apart h2 hc dZ
theorem ddA {base e s n:Nat} {w:World} {v:Value} {cs:List Value} (h:Own base e s w v n cs):v.cells=[v].toArray∧v.oneCell'=true:=by
 rcases h.2 with ⟨rfl,_⟩|⟨g,cap,cur,rfl,_⟩
 ·exact ⟨rfl,rfl⟩
 ·exact ⟨rfl,rfl⟩
theorem put_s {w:World} {b:Nat} {kv lv vc:Value} {p q:Nat→Bool} (hS:RS A w b kv lv p) {k:Nat} (hk:k<65536) (hc:Cn (λ j=>A j∧kv.ownBlock≠some j) w vc q (avA q)) (hq:∀ i,65536≤i→q i=false) (hq0:0<cnt q 65536) :
 Fc Tryz.prog 75 #[.pointer (some ⟨b,0,none⟩),.int .u16 k,vc] w (λ en w'=>en=.returned (.tuple #[])∧Mut A w b kv lv (upd p k q) w'):=by
 have hf:∀ w',Ext w w'→_:=λ w' e=>y9A (B:=TT) (.inr ⟨b,kv,lv,rfl,hS.ext e,λ _ _=>trivial⟩) hk
 obtain ⟨Q,q1,q2,q3⟩:=hS.hl;obtain ⟨qc,rfl,hqc⟩:=hc.qd;have nkl:=gqA p;obtain ⟨i,hi⟩:∃ i,i=cnt (ne p) k:=⟨_,rfl⟩;cases hn:ne p k
 ·have hle:i≤nk p:=by rw [hi];exact cnt_mono _ _ oZ
  have hfin:∀ w' kv' lv',_:=λ w' kv' lv'=>hS.ins (w':=w') (kv':=kv') (lv':=lv') hk hn hq hq0 q1 q3 hc
  rw [← hi] at hf hfin;rw [hn] at hf;have hsn:=slot_ne hS;have hkl:=bpA p;have hcq:bdA (Q.take i++[qc]++Q.drop i)=(bdA Q).take (i*4)++qcs qc++(bdA Q).drop (i*4):=by
   rw [dfA,dfA,h1A,h2A];rfl
  have hmap:((b2A p).map (Value.int .u16)).take (i*1)++[.int .u16 (k:Int)]++((b2A p).map (Value.int .u16)).drop (i*1)=((b2A p).take i++[(k:Int)]++(b2A p).drop i).map (Value.int .u16):=by
   rw [Nat.mul_one,List.map_append,List.map_append,List.map_take,List.map_drop];rfl
  have hlen:((b2A p).take i++[(k:Int)]++(b2A p).drop i).length=nk p+1:=by
   simp only [List.length_append,List.length_take,List.length_drop,List.length_singleton];omega
  have h1c:∀ c ∈ (b2A p).map (Value.int .u16),c.oneCell'=true:=λ c hc'=>by
   obtain ⟨y,_,rfl⟩:=List.mem_map.1 hc';rfl
  have h1q:∀ c ∈ bdA Q,c.oneCell'=true:=λ c hc'=>by
   obtain ⟨j,j1,j2⟩:=hzA Q c hc';obtain ⟨qd,e1,e2⟩:=(q3 j oZ).qd;have:Q.getD j q0=qd:=osA e1;exact e2 c (this▸j2)
  have hk0:=hS.hk;unfold OwnI at hk0;rw [hkl] at hk0;clear hi;refine Fc.of (args:=[_,_,_]) Tryz.func75 rfl rfl Tryz.ntmps75 nZ ?_
  repeat' (first|(refine yL ?_;first|refine yB ?_|(refine oBx ?_;refine ghA rfl rfl ?_;refine u2A (hK [] _ (awA 5 rfl (λ v5 w5 e5 h5=>?_)));clear hK K;obtain ⟨b5,hb5,rfl,h5⟩:=h5;have hS5:=hS.ext e5)|(refine oNc ?_;refine a9A rfl rfl ?_)|(refine oF 0 ?_;refine a1A (a':=⟨b,0,none⟩) rfl rfl (λ _=>rfl) ?_)|(refine oF 1 ?_;refine a1A (a':=⟨b,1,none⟩) rfl rfl (λ _=>rfl) ?_)|(refine oLt 27 ?_;refine a6A (c:=kv) rfl (λ _=>rfl) rfl hS5.hb rfl ?_)|(refine oLt 92 ?_;refine a6A (c:=lv) rfl (λ _=>rfl) rfl hS5.hb rfl ?_)|(refine oD 30 ?_;refine e6A rfl c8A rfl rfl ?_)|(refine oD 38 ?_;refine puA (base:=w5.heap.size) (s:=4) (Nat.le_refl _) rfl daA rfl rfl dZ ?_)|(refine oLd ?_;refine bwA (n:=4) rfl h5 rfl rfl (λ _=>rfl) (λ _=>rfl) ?_)|refine yO ?_|(refine yC ?_ ?_<;>intro hc)|(refine yV ?_;first|(refine oC 110 ?_;refine a4A (f:=110) rfl rfl rfl rfl  (.tup2 (.val (.int .i64 i)) (.val (.bool false))) (by intro u1 u2 w e hu1 hu2;(try obtain rfl:u1=_:=hu1);(try obtain rfl:u2=_:=hu2);exact hf _ (e5.trans e)) ?_))|(refine yN hK ?_;clear hK K))|(refine oCX ?_;first|refine anA (id:=4) [9,17,20,23] kZ kZ kZ (a7A ?_))|refine wG ?_|(refine yR ?_;intro K hK)|refine wPh ?_|fail)
  have lkv:∀ k,kv.ownBlock=some k→k<w.heap.size:=λ k h=>hS.lt (.inr (.inl h))
  have llv:∀ k,lv.ownBlock=some k→k<w.heap.size:=λ k h=>hS.lt (.inr (.inr h))
  have sz5:=e5.size;refine llA (v3:=undef) (f:=111) rfl rfl rfl rfl rfl (λ w v w'=>Own 0 tK 1 w' v (nk p+1) (((b2A p).map (Value.int .u16)).take (i*1)++[.int .u16 (k:Int)]++((b2A p).map (Value.int .u16)).drop (i*1))∧Fr (λ k=>kv.ownBlock=some k) w w'∧LocR w kv v) (λ u3 w1 e1 hu3=>?_) (λ kv' w1 w2 e1 hR=>⟨(38,.pred (i9A w5.heap.size tC 4 1 (qv qc).cells.toList))::_,λ t u _ hu=>mbA (λ u hu=>?_) bsA t u hu,a7A ?_⟩)
  ·exact vuA w1 0 _ kv u3 (nk p) i _ _ (hk0.ext (e5.trans e1)) hu3 hle (λ k h1 h2=>by have:=(Own.lt hu3 k h1).1;have:=lkv k h2;omega) h1c (λ c hc'=>by rw [List.mem_singleton] at hc';subst hc';rfl) oZ oZ
  ·exact hR.2.1.own hu (λ k h1 h2=>by have:=(Own.lt hu k h1).1;have:=lkv k h2;omega)
  obtain ⟨r1,r2,r3⟩:=hR;rw [hmap] at r1;have hb2:=r2.at (e1.block hS5.hb) (λ h=>hsn.1 h);have h52:=r2.at (e1.block h5) (λ h=>by have:=lkv _ h;omega);have q22:Own 0 tC 4 w2 lv (nk p) (bdA Q):=r2.own (q2.ext (e5.trans e1)) (λ k h1 h2=>hsn.2.2 k h2 h1);have sz2:=Nat.le_trans e1.size r2.size
  repeat' (first|(refine yL ?_;first|refine yB ?_|(refine oNc ?_;refine a9A rfl rfl ?_)|(refine oF 0 ?_;refine a1A (a':=⟨b,0,none⟩) rfl rfl (λ _=>rfl) ?_)|(refine oF 1 ?_;refine a1A (a':=⟨b,1,none⟩) rfl rfl (λ _=>rfl) ?_)|(refine oLt 27 ?_;refine a6A (c:=kv) rfl (λ _=>rfl) rfl hb2 rfl ?_)|(refine oLt 92 ?_;refine a6A (c:=lv) rfl (λ _=>rfl) rfl hb2 rfl ?_)|(refine oD 38 ?_;refine puA (base:=w5.heap.size) (s:=4) sz2 rfl daA rfl rfl dZ ?_)|(refine oLd ?_;refine bwA (n:=4) rfl h52 rfl rfl (λ _=>rfl) (λ _=>rfl) ?_)|refine yO ?_|(refine yC ?_ ?_<;>intro hc)|(refine yN hK ?_;clear hK K))|refine wG ?_|(refine yR ?_;intro K hK)|refine wPh ?_|fail)
  refine llA (v3:=undef) (f:=112) rfl rfl rfl rfl rfl (λ w v w'=>Own 0 tC 4 w' v (nk p+1) ((bdA Q).take (i*4)++(qv qc).cells.toList++(bdA Q).drop (i*4))∧Fr (λ k=>lv.ownBlock=some k) w w'∧LocR w lv v) (λ u3 w3 e3 hu3=>?_) (λ lv' w3 w4 e3 hR=>⟨_,λ t u _ hu=>bsA t u hu,a7A ?_⟩)
  ·exact vtA w3 0 _ lv u3 (nk p) i _ _ (q22.ext e3) hu3 hle (λ k h1 h2=>by have:=(Own.lt hu3 k h1).1;have:=llv k h2;omega) h1q hqc oZ oZ
  obtain ⟨s1,s2,s3⟩:=hR;have hcq':(bdA Q).take (i*4)++(qv qc).cells.toList++(bdA Q).drop (i*4)=bdA (Q.take i++[qc]++Q.drop i):=hcq.symm;rw [hcq'] at s1;have hb4:=s2.at (e3.block hb2) (λ h=>hsn.2.1 h);have r14:=s2.own (r1.ext e3) (λ k h1 h2=>by
   obtain ⟨cur,hcur⟩:=azA (r1.ext e3) h1;exact Own.apart (q22.ext e3) hcur dZ h2)
  obtain ⟨ck1,ck2⟩:=ddA r14;obtain ⟨cl1,cl2⟩:=ddA s1;have hF4:Fr (onw b kv lv) w w4:=(((Fr.of (e5.trans e1)).trans (r2.mono λ k h=>.inr (.inl h))).trans (Fr.of e3)).trans (s2.mono λ k h=>.inr (.inr h))
  repeat' (first|(refine yL ?_;first|refine yB ?_|(refine oNc ?_;refine a9A rfl rfl ?_)|(refine oF 0 ?_;refine a1A (a':=⟨b,0,none⟩) rfl rfl (λ _=>rfl) ?_)|(refine oF 1 ?_;refine a1A (a':=⟨b,1,none⟩) rfl rfl (λ _=>rfl) ?_)|(refine oLt 27 ?_;refine a6A (c:=kv) rfl (λ _=>rfl) rfl hb4 rfl ?_)|(refine oLt 92 ?_;refine a6A (c:=lv) rfl (λ _=>rfl) rfl hb4 rfl ?_)|refine yO ?_|(refine yC ?_ ?_<;>intro hc)|(refine yN hK ?_;clear hK K))|refine wG ?_|(refine yR ?_;intro K hK)|refine wPh ?_|fail)
  refine e4A (news:=[kv']) rfl rfl rfl hb4 ck1 (λ _=>rfl) nZ (λ u hu=>by rw [List.mem_singleton] at hu;subst hu;exact ck2) (λ w6 e6=>⟨_,λ t u hu=>bsA t u hu,a7A ?_⟩);have hb6:(w6.setRow b #[kv',lv]).heap[b]?=_:=setRow_heap w6 b _ _ _ _ (e6.block hb4);obtain ⟨w7,hw7⟩:∃ w7,w7=w6.setRow b #[kv',lv]:=⟨_,rfl⟩;have hF7:Fr (onw b kv lv) w w7:=hw7▸((hF4.trans (Fr.of e6)).setRow (.inl rfl) _);have r17:OwnI 0 tK .u16 w7 kv' ((b2A p).take i++[(k:Int)]++(b2A p).drop i):=by unfold OwnI;rw [hlen];exact hw7▸Own.setRow (r14.ext e6) _ (Own.apart (r14.ext e6) (e6.block hb4) dZ)
  have s17:Own 0 tC 4 w7 lv' (nk p+1) (bdA (Q.take i++[qc]++Q.drop i)):=hw7▸Own.setRow (s1.ext e6) _ (Own.apart (s1.ext e6) (e6.block hb4) dZ);rw [show (#[kv,lv].toList.take 0++[kv']++#[kv,lv].toList.drop (0+[kv'].length)).toArray=#[kv',lv] from rfl];rw [← hw7] at hb6 ⊢;clear hw7
  repeat' (first|(refine yL ?_;first|refine yB ?_|(refine oNc ?_;refine a9A rfl rfl ?_)|(refine oF 0 ?_;refine a1A (a':=⟨b,0,none⟩) rfl rfl (λ _=>rfl) ?_)|(refine oF 1 ?_;refine a1A (a':=⟨b,1,none⟩) rfl rfl (λ _=>rfl) ?_)|(refine oLt 27 ?_;refine a6A (c:=kv) rfl (λ _=>rfl) rfl hb6 rfl ?_)|(refine oLt 92 ?_;refine a6A (c:=lv) rfl (λ _=>rfl) rfl hb6 rfl ?_)|refine yO ?_|(refine yC ?_ ?_<;>intro hc)|(refine yN hK ?_;clear hK K))|refine wG ?_|(refine yR ?_;intro K hK)|refine wPh ?_|fail)
  refine e4A (news:=[lv']) rfl rfl rfl hb6 cl1 (λ _=>rfl) nZ (λ u hu=>by rw [List.mem_singleton] at hu;subst hu;exact cl2) (λ w8 e8=>⟨_,λ t u hu=>bsA t u hu,amA ?_⟩);have hb8:(w8.setRow b #[kv',lv']).heap[b]?=_:=setRow_heap w8 b _ _ _ _ (e8.block hb6);obtain ⟨w9,hw9⟩:∃ w9,w9=w8.setRow b #[kv',lv']:=⟨_,rfl⟩;have hF9:Fr (onw b kv lv) w w9:=hw9▸((hF7.trans (Fr.of e8)).setRow (.inl rfl) _);have r19:OwnI 0 tK .u16 w9 kv' ((b2A p).take i++[(k:Int)]++(b2A p).drop i):=hw9▸Own.setRow (r17.ext e8) _ (Own.apart (r17.ext e8) (e8.block hb6) dZ);have s19:Own 0 tC 4 w9 lv' (nk p+1) (bdA (Q.take i++[qc]++Q.drop i)):=hw9▸Own.setRow (s17.ext e8) _ (Own.apart (s17.ext e8) (e8.block hb6) dZ);have sz3:=Nat.le_trans sz2 e3.size;rw [show (#[kv',lv].toList.take 1++[lv']++#[kv',lv].toList.drop (1+[lv'].length)).toArray=#[kv',lv'] from rfl];rw [← hw9] at hb8 ⊢;clear hw9
  repeat' (first|(refine yL ?_;first|refine yB ?_|(refine oNc ?_;refine a9A rfl rfl ?_)|(refine oF 0 ?_;refine a1A (a':=⟨b,0,none⟩) rfl rfl (λ _=>rfl) ?_)|(refine oF 1 ?_;refine a1A (a':=⟨b,1,none⟩) rfl rfl (λ _=>rfl) ?_)|(refine oLt 27 ?_;refine a6A (c:=kv) rfl (λ _=>rfl) rfl hb8 rfl ?_)|(refine oLt 92 ?_;refine a6A (c:=lv) rfl (λ _=>rfl) rfl hb8 rfl ?_)|refine yO ?_|(refine yC ?_ ?_<;>intro hc)|(refine yN hK ?_;clear hK K))|refine wG ?_|(refine yR ?_;intro K hK)|refine wPh ?_|fail)
  refine bnA rfl (λ w2 e2=>⟨rfl,?_⟩) (.inl rfl);exact hfin w2 kv' lv' (hF9.trans (Fr.of e2)) (e2.block hb8) (r19.ext e2) (s19.ext e2) (r3.le (Nat.le_trans e5.size e1.size)) (s3.le oZ)
 ·obtain ⟨i1,i2⟩:=vpA hk hn
  have hfin:∀ w',_:=λ w'=>hS.set (w':=w') hk hn hq hq0 q1 q3 hc
  rw [← hi] at i1 hf hfin;rw [hn] at hf;have hset:=qgA Q i qc oZ
  rcases q2.2 with ⟨_,h0⟩|⟨gl,cap,cur,rfl,-,hg,hnc,hm,hsz,htake⟩
  ·omega
  have hsn:=slot_ne hS;have hsetN:=λ (w1:World) (hg1:w1.heap[gl]?=some (.cells cur tC (0,0)))=>Own.setN (e:=tC) (s:=4) (news:=qcs qc) q2.1 hg1 hnc hm hsz htake i1 rfl
  clear hi;refine Fc.of (args:=[_,_,_]) Tryz.func75 rfl rfl Tryz.ntmps75 nZ ?_
  repeat' (first|(refine yL ?_;first|refine a0A rfl ?_|(refine oBx ?_;refine u9A rfl rfl ?_)|(refine oNc ?_;refine a9A rfl rfl ?_)|(refine oF 0 ?_;refine a1A (a':=⟨b,0,none⟩) rfl rfl (λ _=>rfl) ?_)|(refine oF 1 ?_;refine a1A (a':=⟨b,1,none⟩) rfl rfl (λ _=>rfl) ?_)|(refine oLt 27 ?_;refine a6A (c:=kv) rfl (λ _=>rfl) rfl hS.hb rfl ?_)|(refine oLt 92 ?_;refine a6A (c:=.slice (some ⟨gl,0,none⟩) (nk p) cap) rfl (λ _=>rfl) rfl hS.hb rfl ?_)|(refine oI ?_;refine bjA (s:=4) rfl rfl (λ _=>rfl) rfl rfl oZ oZ ?_;rw [Int.toNat_natCast,Nat.zero_add])|(refine oLd ?_;refine pwA rfl (λ _=>rfl) (λ _=>rfl) rfl ?_)|(refine a2A (hK _ _ rfl (tqA (news:=qcs qc) rfl rfl rfl hg rfl (λ _=>rfl) (by rw [hsz];show i*4+4≤cap*4;omega) hqc (λ w1 e1=>?_)));clear hK K)|refine yO ?_|(refine yC ?_ ?_<;>intro hc)|(refine yV ?_;first|(refine oC 110 ?_;refine a4A (f:=110) rfl rfl rfl rfl  (.tup2 (.val (.int .i64 i)) (.val (.bool true))) (by intro u1 u2 w e hu1 hu2;(try obtain rfl:u1=_:=hu1);(try obtain rfl:u2=_:=hu2);exact hf _ e) ?_))|(refine yN hK ?_;clear hK K))|(refine oCX ?_;first|refine cjA 7 kZ kZ kZ (λ K hK=>?_))|refine wG ?_|(refine yR ?_;intro K hK)|fail)
  refine bnA rfl (λ w2 e2=>⟨rfl,?_⟩) (.inr rfl);have hS1:=hS.ext e1;have hne:b≠gl:=λ e=>hsn.2.1 (by rw [e];rfl)
  refine hfin w2 (((Fr.of e1).setRow (.inr (.inr rfl)) _).trans (Fr.of e2)) (e2.block (n2A _ hS1.hb hne)) (OwnI.ext (Own.setRow hS1.hk _ (Own.apart hS1.hk (e1.block hg) dZ)) e2) ?_
  rw [hset];exact (hsetN w1 (e1.block hg)).ext e2
end Go.Proofs.YtbokphkfojijoaaGreatDoor
end
section
namespace Go.Proofs.YtbokphkfojijoaaGreatDoor
open Go.LA Go.ArrP Go.RowKit
variable {A B:Nat→Prop}
theorem l4A {w:World} {v:Value} {p:Nat→Bool} (h:NSet B A w v p):∀ x,TOP≤x→p x=false:=by
 rcases h with ⟨rfl,rfl⟩|⟨b,kv,lv,rfl,hS,-⟩
 ·exact λ _ _=>rfl
 ·exact hS.top
structure Pts (A:Nat→Prop) (w:World) (v:Value) (p:Nat→Bool) (lv:Value) (Q:List Qd):Prop where
 len:Q.length=nk p
 own:Own 0 tC 4 w lv (nk p) (bdA Q)
 cn:∀ i,i<nk p→Cn A w (qv (Q.getD i q0)) (blk p (kp p i)) (avA (blk p (kp p i)))
 set:0<nk p→∃ b kv,v=.pointer (some ⟨b,0,none⟩)∧w.heap[b]?=some (.cells #[kv,lv] tS (0,0))∧OwnI 0 tK .u16 w kv (b2A p)
theorem Pts.ext {w w':World} {v:Value} {p:Nat→Bool} {lv:Value} {Q:List Qd} (h:Pts A w v p lv Q) (e:Ext w w'):Pts A w' v p lv Q :=
 ⟨h.len,h.own.ext e,λ i hi=>(h.cn i hi).ext e,λ h0=>by
  obtain ⟨b,kv,h1,h2,h3⟩:=h.set h0;exact ⟨b,kv,h1,e.block h2,h3.ext e⟩⟩
theorem Pts.at {w:World} {v:Value} {p:Nat→Bool} {lv:Value} {Q:List Qd} (h:Pts A w v p lv Q) {i:Nat} (hi:i<nk p):((bdA Q).drop (i*4)).take 4=qcs (Q.getD i q0)∧Cn A w (qv (Q.getD i q0)) (blk p (kp p i)) (avA (blk p (kp p i)))∧∀ u ∈ qcs (Q.getD i q0),u.oneCell'=true:=by
 refine ⟨gfA Q i (by have:=h.len;omega),h.cn i hi,?_⟩;obtain ⟨q,h1,h2⟩:=(h.cn i hi).qd;rw [osA h1];exact h2
theorem m5A {w:World} {v:Value} {p:Nat→Bool} (h:NSet B A w v p):∃ lv Q,Pts A w v p lv Q∧∀ w',Ext w w'→Fc Tryz.prog 58 #[v] w' (Ret w' (.val lv)):=by
 rcases h with ⟨rfl,rfl⟩|⟨b,kv,lv,rfl,hS,-⟩
 ·refine ⟨nilS,[],⟨by rw [g9A];rfl,by rw [g9A];exact Own.nil,λ i hi=>by rw [g9A] at hi;omega,λ hi=>by rw [g9A] at hi;omega⟩,λ w' e=>?_⟩
  refine Fc.of (args:=[_]) Tryz.func58 rfl rfl Tryz.ntmps58 nZ ?_
  repeat' (first|(refine yL ?_;first|refine a0A rfl ?_|(refine oEq ?_;refine bqA (c:=.bool true) rfl rfl rfl (λ _=>rfl) ?_)|refine yO ?_|(refine yC ?_ ?_<;>intro hc)|(refine yN hK ?_;clear hK K))|refine wG ?_|(refine yR ?_;intro K hK)|fail)
  exact afA rfl rfl (Ext.refl _) rfl
 ·obtain ⟨Q,q1,q2,q3⟩:=hS.hl
  refine ⟨lv,Q,⟨q1,q2,λ i hi=>(q3 i hi).mono λ k _ h=>h.1,λ _=>⟨b,kv,rfl,hS.hb,hS.hk⟩⟩,λ w' e=>?_⟩;replace hS:=hS.ext e;refine Fc.of (args:=[_]) Tryz.func58 rfl rfl Tryz.ntmps58 nZ ?_
  repeat' (first|(refine yL ?_;first|refine a0A rfl ?_|(refine oEq ?_;refine bqA (c:=.bool false) rfl rfl rfl (λ _=>rfl) ?_)|(refine oNc ?_;refine a9A rfl rfl ?_)|(refine oF 0 ?_;refine a1A (a':=⟨b,0,none⟩) rfl rfl (λ _=>rfl) ?_)|(refine oF 1 ?_;refine a1A (a':=⟨b,1,none⟩) rfl rfl (λ _=>rfl) ?_)|(refine oLt 27 ?_;refine a6A (c:=kv) rfl (λ _=>rfl) rfl hS.hb rfl ?_)|(refine oLt 92 ?_;refine a6A (c:=lv) rfl (λ _=>rfl) rfl hS.hb rfl ?_)|refine yO ?_|(refine yC ?_ ?_<;>intro hc)|(refine yN hK ?_;clear hK K))|refine wG ?_|(refine yR ?_;intro K hK)|fail)
  exact afA rfl rfl (Ext.refl _) rfl
theorem m9A {w:World} {v:Value} {p:Nat→Bool} (h:NSet B A w v p):Fc Tryz.prog 64 #[v] w (Ret w (.pred (b4A w.heap.size tK .u16 (b2A p)))):=by
 rcases h with ⟨rfl,rfl⟩|⟨b,kv,lv,rfl,hS,-⟩
 ·rw [maA]
  refine Fc.of (args:=[_]) Tryz.func64 rfl rfl Tryz.ntmps64 nZ ?_
  repeat' (first|(refine yL ?_;first|refine a0A rfl ?_|(refine oEq ?_;refine bqA (c:=.bool true) rfl rfl rfl (λ _=>rfl) ?_)|refine yO ?_|(refine yC ?_ ?_<;>intro hc)|(refine yN hK ?_;clear hK K))|refine wG ?_|(refine yR ?_;intro K hK)|fail)
  exact aiA rfl rfl (Ext.refl _) (λ v _ _ hv=>by obtain rfl:v=_:=hv;exact OwnI.nil)
 ·have hn:(b2A p).length≤65536:=by rw [bpA];exact gqA p
  refine Fc.of (args:=[_]) Tryz.func64 rfl rfl Tryz.ntmps64 nZ ?_
  repeat' (first|(refine yL ?_;first|refine a0A rfl ?_|(refine oEq ?_;refine bqA (c:=.bool false) rfl rfl rfl (λ _=>rfl) ?_)|(refine oNc ?_;refine a9A rfl rfl ?_)|(refine oF 0 ?_;refine a1A (a':=⟨b,0,none⟩) rfl rfl (λ _=>rfl) ?_)|(refine oF 1 ?_;refine a1A (a':=⟨b,1,none⟩) rfl rfl (λ _=>rfl) ?_)|(refine oLt 27 ?_;refine a6A (c:=kv) rfl (λ _=>rfl) rfl hS.hb rfl ?_)|(refine oLt 92 ?_;refine a6A (c:=lv) rfl (λ _=>rfl) rfl hS.hb rfl ?_)|refine yO ?_|(refine yC ?_ ?_<;>intro hc)|(refine yV ?_;first|(refine oC 99 ?_;refine a3A (f:=99) rfl rfl rfl  (.pred (b4A w.heap.size tK .u16 (b2A p))) (by intro u1 w e hu1;(try obtain rfl:u1=_:=hu1);exact (hgA _ _ _ (hS.hk.ext e).slI hn).mono (a8A e.size)) ?_))|(refine yN hK ?_;clear hK K))|refine wG ?_|(refine yR ?_;intro K hK)|fail)
  exact aiA rfl rfl (Ext.refl _) (λ _ _ _ hv=>hv)
theorem qbA {w:World} {v:Value} {p:Nat→Bool} (h:NSet B A w v p):Fc Tryz.prog 43 #[v] w (Ret w (.val (.int .i64 (cnt p TOP)))):=by
 obtain ⟨lv,Q,hP,hL⟩:=m5A h;have hnk:=gqA p;have hct:=cnt_le p TOP;have htop:=epA;refine Fc.of (args:=[_]) Tryz.func43 rfl rfl Tryz.ntmps43 nZ ?_
 repeat' (first|(refine yL ?_;first|refine a0A rfl ?_|(refine cnA ?_;refine akA rfl _ rfl rfl (HasC.ownV hP.own) ?_)|refine yO ?_|(refine yC ?_ ?_<;>intro hc)|(refine yV ?_;first|(refine oC 58 ?_;refine a3A (f:=58) rfl rfl rfl  (.val lv) (by intro u1 w e hu1;(try obtain rfl:u1=_:=hu1);exact hL _ e) ?_))|(refine yN hK ?_;clear hK K))|refine wG ?_|(refine yR ?_;intro K hK)|fail)
 refine brA (ι:=Nat) (λ i=>[(0,.val v),(3,.val (.int .i64 (cnt p (kp p i*65536)))),(7,.val lv),(8,.val (.int .i64 (nk p))),(9,.val (.int .i64 i))]) (λ i=>i≤nk p) (λ i=>nk p-i) 0 (Nat.zero_le _) (by rw [p7A];(repeat' (first|exact Sub.nil|(refine Sub.val rfl ?_ ?_;first|with_reducible rfl|(congr 1;omega))|refine Sub.same rfl ?_));done) ?_
 intro i hi;have hle:=cnt_mono p (m:=kp p i*65536) TOP (by have:=kp_le p i;omega)
 by_cases hil:i<nk p
 ·obtain ⟨hat,hcn,h1⟩:=hP.at hil
  have hkc:=zyA hil;have hb6:=cnt_le (blk p (kp p i)) 65536
  repeat' (first|(refine yL ?_;first|refine a0A rfl ?_|(refine oI ?_;refine c1A (s:=4) rfl _ rfl (λ _=>rfl) rfl (HasC.ownV hP.own) rfl i rfl oZ ?_;rw [hat])|(refine oLt 96 ?_;refine auA (cs:=qcs _) rfl (λ _=>rfl) (λ _=>rfl) rfl ?_)|(refine oD 5 ?_;refine a2A (hK _ _ (caA rfl rfl dZ (λ _=>rfl) (λ _=>rfl) (λ _=>rfl) rfl h1 (λ bx wx ex hbx hbc=>?_)));clear hK K;refine aeA kZ (λ K hK=>?_))|(refine oD 14 ?_;refine bwA (n:=4) rfl hbc rfl rfl (λ _=>rfl) (λ _=>rfl) ?_)|refine yO ?_|(refine yC ?_ ?_<;>intro hc)|(refine yV ?_;first|(refine oC 65 ?_;refine a3A (f:=65) rfl rfl rfl  (.val (.int .i64 (cnt (blk p (kp p i)) 65536))) (by intro u1 w e hu1;(try obtain rfl:u1=_:=hu1);exact gzA (hcn.ext (ex.trans e))) ?_))|(refine yN hK ?_;clear hK K))|refine wG ?_|(refine yR ?_;intro K hK)|fail)
  exact ljA ex (i+1) hil oZ (by rw [hkc];(repeat' (first|exact Sub.nil|(refine Sub.val rfl ?_ ?_;first|with_reducible rfl|(congr 1;omega))|refine Sub.same rfl ?_));done)
 ·obtain rfl:i=nk p:=oZ
  rw [ngA] at hle ⊢
  repeat' (first|(refine yL ?_;first|refine a0A rfl ?_|refine yO ?_|(refine yC ?_ ?_<;>intro hc)|(refine yN hK ?_;clear hK K))|refine wG ?_|(refine yR ?_;intro K hK)|fail)
  exact afA rfl rfl (Ext.refl _) rfl
end Go.Proofs.YtbokphkfojijoaaGreatDoor
end
section
namespace Go.Proofs.YtbokphkfojijoaaGreatDoor
open Go.LA Go.ArrP Go.RowKit
variable {A B:Nat→Prop}
theorem has_s {w:World} {v:Value} {p:Nat→Bool} (h:NSet B A w v p) {x:Nat} (hx:x<4294967296):Fc Tryz.prog 70 #[v,.int .u32 x] w (Ret w (.val (.bool (p x)))):=by
 have hb:blk p (x / 65536) (x % 65536)=p x:=by rw [cwA (Nat.mod_lt _ oZ)];congr 1;omega
 have e2:IntKind.u16.wrap (x:Int)=((x % 65536:Nat):Int):=by rw [IntKind.wrap_u16];omega
 have e1:(x:Int) / 65536=((x / 65536:Nat):Int):=oZ;have hx1:x / 65536<65536:=oZ;have hx2:x % 65536<65536:=Nat.mod_lt _ oZ;obtain ⟨k,hk⟩:∃ k,k=x / 65536:=⟨_,rfl⟩;obtain ⟨r,hr⟩:∃ r,r=x % 65536:=⟨_,rfl⟩;rw [← hk,← hr] at hb;rw [← hk] at e1 hx1;rw [← hr] at e2 hx2;clear hk hr;refine Fc.of (args:=[_,_]) Tryz.func70 rfl rfl Tryz.ntmps70 nZ ?_
 repeat' (first|(refine yL ?_;first|refine a0A rfl ?_|(refine oB .shr ?_;refine g2A rfl rfl rfl dZ dZ ?_;rw [show (2:Int) ^ Int.toNat 16=65536 by decide,e1])|(refine oD 11 ?_;refine eiA rfl rfl rfl rfl ?_;rw [e2])|refine yO ?_|(refine yC ?_ ?_<;>intro hc)|(refine yV ?_;first|(refine oC 76 ?_;refine a4A (f:=76) rfl rfl rfl rfl  (.pred (cnP A (blk p k) (avA (blk p k)))) (by intro u1 u2 w e hu1 hu2;(try obtain rfl:u1=_:=hu1);(try obtain rfl:u2=_:=hu2);exact vzA (h.ext e) hx1) ?_)|(refine oC 105 ?_;refine a4A (f:=105) rfl rfl rfl rfl  (.val (.bool (blk p k r))) (by intro u1 u2 w e hu1 hu2;(try obtain rfl:u1=_:=hu1);(try obtain rfl:u2=_:=hu2);exact icA hu1 hx2) ?_))|(refine yN hK ?_;clear hK K))|refine wG ?_|(refine yR ?_;intro K hK)|fail)
 exact afA rfl rfl (Ext.refl _) (by rw [hb])
theorem at_s {w:World} {v:Value} {p:Nat→Bool} (h:NSet B A w v p) {i:Nat} (hi:i<nk p):Fc Tryz.prog 97 #[v,.int .i64 i] w (Ret w (.tup2 (.pred (cnP A (blk p (kp p i)) (avA (blk p (kp p i))))) (.val (.bool true)))):=by
 obtain ⟨lv,Q,hP,hL⟩:=m5A h;have hnk:=gqA p;obtain ⟨b,kv,rfl,hb,hkk⟩:=hP.set oZ;obtain ⟨hat,hcn,h1⟩:=hP.at hi;refine Fc.of (args:=[_,_]) Tryz.func97 rfl rfl Tryz.ntmps97 nZ ?_
 repeat' (first|(refine yL ?_;first|refine a0A rfl ?_|(refine oAl ?_;refine c6A rfl (λ _=>rfl) ?_)|(refine cnA ?_;refine akA rfl _ rfl rfl (HasC.ownV hP.own) ?_)|(refine oNc ?_;refine a9A rfl rfl ?_)|(refine oF 0 ?_;refine a1A (a':=⟨b,0,none⟩) rfl rfl (λ _=>rfl) ?_)|(refine oF 1 ?_;refine a1A (a':=⟨b,1,none⟩) rfl rfl (λ _=>rfl) ?_)|(refine oLt 27 ?_;refine a6A (c:=kv) rfl (λ _=>rfl) rfl hb rfl ?_)|(refine oLt 92 ?_;refine a6A (c:=lv) rfl (λ _=>rfl) rfl hb rfl ?_)|(refine oI ?_;refine c1A (s:=4) rfl _ rfl (λ _=>rfl) rfl (HasC.ownV hP.own) rfl i rfl oZ ?_;rw [hat])|(refine oLt 96 ?_;refine auA (cs:=qcs _) rfl (λ _=>rfl) (λ _=>rfl) rfl ?_)|(refine a2A (hK _ _ (ciA (φ:=cnP A (blk p (kp p i)) (avA (blk p (kp p i)))) (w0:=w) rfl rfl rfl beA (λ v' w' e hv=>by obtain rfl:v'=_:=hv;exact hcn.ext e) rfl (λ _=>rfl) (Ext.refl _) (λ w' e'=>?_)));clear hK K;refine aeA kZ (λ K hK=>?_))|refine yO ?_|(refine yC ?_ ?_<;>intro hc)|(refine yV ?_;first|(refine oC 58 ?_;refine a3A (f:=58) rfl rfl rfl  (.val lv) (by intro u1 w e hu1;(try obtain rfl:u1=_:=hu1);exact hL _ e) ?_))|(refine yN hK ?_;clear hK K))|refine wG ?_|(refine yR ?_;intro K hK)|fail)
 all_goals exact ioA rfl rfl rfl rfl rfl rfl (by assumption)
theorem RS.self {A:Nat→Prop} {w:World} {b:Nat} {kv lv:Value} {p:Nat→Bool} (h:RS A w b kv lv p):RS (λ k=>A k∧kv.ownBlock≠some k) w b kv lv p:=h.mono λ k _ ha hb=>⟨ha,hb⟩
theorem d5B {w:World} {v:Value} {p:Nat→Bool} (h:NSet B A w v p) {B' A':Nat→Prop} (hB:Fsh B' w) (hA:∀ k,k<w.heap.size→A k→A' k):Fc Tryz.prog 74 #[v] w (Ret w (.pred (rsP B' A' p))):=by
 obtain ⟨lv,Q,hP,hL⟩:=m5A h;have htop:=l4A h;have hnk:=gqA p;have hq1:∀ c ∈ bdA Q,c.oneCell'=true:=λ c hc=>by
  obtain ⟨j,j1,j2⟩:=hzA Q c hc;exact (hP.at (by have:=hP.len;omega)).2.2 c j2
 refine Fc.of (args:=[_]) Tryz.func74 rfl rfl Tryz.ntmps74 nZ ?_
 repeat' (first|(refine yL ?_;first|refine a0A rfl ?_|refine yO ?_|(refine yC ?_ ?_<;>intro hc)|(refine yV ?_;first|(refine oC 64 ?_;refine a3A (f:=64) rfl rfl rfl  (.pred (b4A w.heap.size tK .u16 (b2A p))) (by intro u1 w e hu1;(try obtain rfl:u1=_:=hu1);exact (m9A (h.ext e)).mono (a8A e.size)) ?_)|(refine oC 99 ?_;refine a3A (f:=99) rfl rfl rfl  (.pred (b4A w.heap.size tK .u16 (b2A p))) (by intro u1 w e hu1;(try obtain rfl:u1=_:=hu1);exact (hgA _ _ _ (OwnI.slI hu1) (by rw [bpA];exact hnk)).mono (a8A e.size)) ?_)|(refine oC 58 ?_;refine a3A (f:=58) rfl rfl rfl  (.val lv) (by intro u1 w e hu1;(try obtain rfl:u1=_:=hu1);exact hL _ e) ?_)|(refine oC 109 ?_;refine a3A (f:=109) rfl rfl rfl  (.pred (i9A w.heap.size tC 4 (nk p) (bdA Q))) (by intro u1 w e hu1;(try obtain rfl:u1=_:=hu1);exact (t6A _ _ _ _ (hP.own.ext e).slC hq1 oZ).mono (lzA e.size)) ?_))|(refine yN hK ?_;clear hK K))|refine wG ?_|(refine yR ?_;intro K hK)|fail)
 refine a2A (hK _ _ (awA 8 rfl (λ v8 w8 e8 h8=>awA 5 rfl (λ v5 w5 e5 h5=>?_))));clear hK K;replace h8:Own w.heap.size tC 4 w5 v8 (nk p) (bdA Q):=Own.ext h8 e5;replace h5:OwnI w.heap.size tK .u16 w5 v5 (b2A p):=h5;obtain ⟨a8,c8,rfl⟩:=h8.slC.isSlice;obtain ⟨a5,c5,rfl⟩:=h5.slI.isSlice;refine aeA kZ (λ K hK=>dnA (c:=.agg #[.slice a5 (b2A p).length c5,.slice a8 (nk p) c8]) rfl rfl rfl (λ _=>by kernel_rfl) ?_)
 repeat' (first|(refine yL ?_;first|refine a0A rfl ?_|refine ghA rfl rfl ?_|refine yO ?_|(refine yC ?_ ?_<;>intro hc)|(refine yN hK ?_;clear hK K))|refine wG ?_|(refine yR ?_;intro K hK)|fail)
 have x5:=e8.trans e5;refine aiA rfl rfl x5 (λ v w' e hv=>?_);obtain ⟨b,hb,rfl,hh⟩:=hv;have ge5:=λ k hk=>(Own.lt h5 k hk).1
 have ge8:=λ k hk=>(Own.lt h8 k hk).1
 refine ⟨b,_,_,rfl,⟨hh,Own.base (h5.ext e) (Nat.zero_le _),htop,Q,hP.len,Own.base (h8.ext e) (Nat.zero_le _),λ i hi=>?_⟩,λ k hk=>hB k ?_⟩
 ·exact ((hP.cn i hi).mono λ k hk ha=>⟨hA k hk ha,λ h=>by have:=ge5 k h;omega⟩).ext (x5.trans e)
 ·have:=x5.size
  rcases hk with rfl|hk|hk
  ·omega
  ·exact ge5 k hk
  ·exact ge8 k hk
end Go.Proofs.YtbokphkfojijoaaGreatDoor
end
section
namespace Go.Proofs.YtbokphkfojijoaaGreatDoor
open Go.LA Go.ArrP Go.RowKit
variable {A B:Nat→Prop}
theorem woA (x:Nat) (hx:x<18446744073709551616):bits .and .u64 (x:Int) 65535=((x % 65536:Nat):Int):=by
 rw [o1A x 65535 hx dZ (x:=(x:Int)) (y:=65535) rfl rfl,show (65535:Nat)=2 ^ 16-1 from rfl,Nat.and_two_pow_sub_one_eq_mod]
theorem c0B {w:World} {v:Value} {p:Nat→Bool} (h:NSet B A w v p) {x:Nat} (hx:x<18446744073709551616):Fc Tryz.prog 72 #[v,.int .u64 x] w (Ret w (.val (.int .i64 (cnt p (min x TOP))))):=by
 obtain ⟨lv,Q,hP,hL⟩:=m5A h;have hlen:∀ w',Ext w w'→_:=λ w' e=>qbA (h.ext e)
 have hnk:=gqA p;have hct:=cnt_le p TOP;have htop:=epA
 by_cases hxt:4294967296≤x
 ·rw [show min x TOP=TOP by omega]
  refine Fc.of (args:=[_,_]) Tryz.func72 rfl rfl Tryz.ntmps72 nZ ?_
  repeat' (first|(refine yL ?_;first|refine a0A rfl ?_|refine yO ?_|(refine yC ?_ ?_<;>intro hc)|(refine yV ?_;first|(refine oC 43 ?_;refine a3A (f:=43) rfl rfl rfl  (.val (.int .i64 (cnt p TOP))) (by intro u1 w e hu1;(try obtain rfl:u1=_:=hu1);exact hlen _ e) ?_))|(refine yN hK ?_;clear hK K))|refine wG ?_|(refine yR ?_;intro K hK)|fail)
  exact afA rfl rfl (Ext.refl _) rfl
 ·rw [show min x TOP=x by omega]
  have hm:=woA x hx;have hdm:x=x / 65536*65536+x % 65536:=oZ;have hdm2:x / 65536*65536≤x∧x<(x / 65536+1)*65536:=oZ;have hr:=Nat.mod_lt x (show 0<65536 by omega);have e1:(x:Int) / 65536=((x / 65536:Nat):Int):=oZ;have hq:x / 65536<65536:=oZ;obtain ⟨X,hX⟩:∃ X,X=x / 65536:=⟨_,rfl⟩;obtain ⟨R,hR⟩:∃ R,R=x % 65536:=⟨_,rfl⟩;rw [← hX,← hR] at hdm;rw [← hX] at hdm2;rw [← hX] at e1 hq;rw [← hR] at hm hr;clear hX hR;refine Fc.of (args:=[_,_]) Tryz.func72 rfl rfl Tryz.ntmps72 nZ ?_
  repeat' (first|(refine yL ?_;first|refine a0A rfl ?_|(refine cnA ?_;refine akA rfl _ rfl rfl (HasC.ownV hP.own) ?_)|refine yO ?_|(refine yC ?_ ?_<;>intro hc)|(refine yV ?_;first|(refine oC 58 ?_;refine a3A (f:=58) rfl rfl rfl  (.val lv) (by intro u1 w e hu1;(try obtain rfl:u1=_:=hu1);exact hL _ e) ?_))|(refine yN hK ?_;clear hK K))|refine wG ?_|(refine yR ?_;intro K hK)|fail)
  refine brA (ι:=Nat) (λ i=>[(0,.val v),(1,.val (.int .u64 x)),(5,.val (.int .i64 (cnt p (min x (kp p i*65536))))),(14,.val lv),(15,.val (.int .i64 (nk p))),(16,.val (.int .i64 i))]) (λ i=>i≤nk p) (λ i=>nk p-i) 0 (Nat.zero_le _) (by rw [c3B];(repeat' (first|exact Sub.nil|(refine Sub.val rfl ?_ ?_;first|with_reducible rfl|(congr 1;omega))|refine Sub.same rfl ?_));done) ?_
  intro i hi
  by_cases hil:i<nk p
  ·obtain ⟨hat,hcn,h1⟩:=hP.at hil
   obtain ⟨b,kv,rfl,hb,hkv⟩:=hP.set oZ;obtain ⟨k1,k2,k3,k4⟩:=hrA hil;have hkl:=bpA p;have hown:=hP.own;have f1:=zaA (x:=x) (X:=X) hil hdm2.1;have f2:=zcA (x:=x) (R:=R) hil;have f3:=zbA (x:=x) (X:=X) hil hdm2.2;have b1:=cnt_le p (min x (kp p i*65536));have b2:=cnt_le (blk p (kp p i)) 65536;have b3:=cnt_le (blk p (kp p i)) R;have b4:min x (kp p i*65536)≤x:=Nat.min_le_left _ _;have hcl:∀ w',Ext w w'→_:=λ w' e=>gzA (hcn.ext e)
   have hcr:∀ w',Ext w w'→_:=λ w' e=>c2B (x:=R) (hcn.ext e) oZ
   obtain ⟨K0,hK0⟩:∃ K0,K0=kp p i:=⟨_,rfl⟩;obtain ⟨n0,hn0⟩:∃ n0,n0=cnt p (min x (kp p i*65536)):=⟨_,rfl⟩;obtain ⟨n1,hn1⟩:∃ n1,n1=cnt p (min x (kp p (i+1)*65536)):=⟨_,rfl⟩;obtain ⟨c1,hc1⟩:∃ c1,c1=cnt (blk p (kp p i)) 65536:=⟨_,rfl⟩;obtain ⟨c2,hc2⟩:∃ c2,c2=cnt (blk p (kp p i)) R:=⟨_,rfl⟩;rw [← hc1,← hn0,← hn1] at f1;rw [← hc2,← hn0,← hn1] at f2;rw [← hn0,← hn1] at f3;rw [← hn0] at b1 ⊢;rw [← hc1] at b2 hcl;rw [← hc2] at b3 hcr;rw [← hK0] at k1 k4 f1 f2 f3;clear hP k2 k3 hL hct hn0 hc1 hc2 hcn hlen h
   repeat' (first|(refine yL ?_;first|refine a0A rfl ?_|(refine oNc ?_;refine a9A rfl rfl ?_)|(refine oF 0 ?_;refine a1A (a':=⟨b,0,none⟩) rfl rfl (λ _=>rfl) ?_)|(refine oF 1 ?_;refine a1A (a':=⟨b,1,none⟩) rfl rfl (λ _=>rfl) ?_)|(refine oLt 27 ?_;refine a6A (c:=kv) rfl (λ _=>rfl) rfl hb rfl ?_)|(refine oLt 92 ?_;refine a6A (c:=lv) rfl (λ _=>rfl) rfl hb rfl ?_)|(refine oI ?_;refine c1A (s:=4) rfl _ rfl (λ _=>rfl) rfl (HasC.ownV hown) rfl i rfl oZ ?_;rw [hat])|(refine oLt 96 ?_;refine auA (cs:=qcs _) rfl (λ _=>rfl) (λ _=>rfl) rfl ?_)|(refine oD 7 ?_;refine a2A (hK _ _ (lnA rfl rfl rfl dZ dZ (λ _=>rfl) (λ _=>rfl) rfl (λ _=>rfl) (λ _=>rfl) rfl h1 (λ bx wx ex hbx hbc=>?_)));clear hK K;replace hb:=ex.block hb;replace hkv:=hkv.ext ex;refine aeA kZ (λ K hK=>?_))|(refine oD 26 ?_;refine acA rfl _ rfl (λ _=>rfl) rfl (HasI.ownV hkv) rfl oZ ?_;rw [k4])|(refine oD 46 ?_;refine clA (.inl rfl) rfl rfl rfl ?_;rw [hm])|(refine oB .shr ?_;refine g2A rfl rfl rfl dZ dZ ?_;rw [show (2:Int) ^ Int.toNat 16=65536 by decide,e1])|(refine oLt 96 ?_;refine bwA (n:=4) rfl hbc rfl rfl (λ _=>rfl) (λ _=>rfl) ?_)|refine yO ?_|(refine yC ?_ ?_<;>intro hc)|(refine yV ?_;first|(refine oC 65 ?_;refine a3A (f:=65) rfl rfl rfl  (.val (.int .i64 c1)) (by intro u1 w e hu1;(try obtain rfl:u1=_:=hu1);exact hcl _ (ex.trans e)) ?_)|(refine oC 107 ?_;refine a4A (f:=107) rfl rfl rfl rfl  (.val (.int .i64 c2)) (by intro u1 u2 w e hu1 hu2;(try obtain rfl:u1=_:=hu1);(try obtain rfl:u2=_:=hu2);exact hcr _ (ex.trans e)) ?_))|(refine yN hK ?_;clear hK K))|refine wG ?_|(refine yR ?_;intro K hK)|fail)
   ·exact ljA ex (i+1) hil oZ (by rw [← hn1,f1 oZ];(repeat' (first|exact Sub.nil|(refine Sub.val rfl ?_ ?_;first|with_reducible rfl|(congr 1;omega))|refine Sub.same rfl ?_));done)
   ·have e9:K0=X:=oZ
    have e8:=f2 (by rw [e9];exact hdm) hr;exact ljA ex (i+1) hil oZ (by rw [← hn1,e8];(repeat' (first|exact Sub.nil|(refine Sub.val rfl ?_ ?_;first|with_reducible rfl|(congr 1;omega))|refine Sub.same rfl ?_));done)
   ·exact ljA ex (i+1) hil oZ (by rw [← hn1,f3 oZ];(repeat' (first|exact Sub.nil|(refine Sub.val rfl ?_ ?_;first|with_reducible rfl|(congr 1;omega))|refine Sub.same rfl ?_));done)
  ·obtain rfl:i=nk p:=oZ
   rw [c1B p oZ]
   repeat' (first|(refine yL ?_;first|refine a0A rfl ?_|refine yO ?_|(refine yC ?_ ?_<;>intro hc)|(refine yN hK ?_;clear hK K))|refine wG ?_|(refine yR ?_;intro K hK)|fail)
   exact afA rfl rfl (Ext.refl _) rfl
end Go.Proofs.YtbokphkfojijoaaGreatDoor
end
