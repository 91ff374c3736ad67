import Derived.Laws.StructEq
import Derived.Test.YtbokphkfojijoaaGreatDoorJ11
import Derived.Test.YtbokphkfojijoaaGreatDoorJ13
set_option linter.unusedSimpArgs false
set_option linter.unusedVariables false
set_option maxRecDepth 3000
set_option maxHeartbeats 16000000
section
namespace Go.Proofs.YtbokphkfojijoaaGreatDoor
open Go.LA Go.ArrP Go.RowKit
theorem z1A {w:World} {ba bb na ca nb cb ga gb:Nat} {xs ys:List Value} (ha:Own ba 31 1 w (.slice (some ⟨ga,0,none⟩) na ca) na xs) (hb:Own bb 31 1 w (.slice (some ⟨gb,0,none⟩) nb cb) nb ys) (hcb:0<cb) (hne:ga≠gb) (o l' c':Nat) :
 (callFunc 149 #[.slice (some ⟨ga,0,none⟩) na ca,.slice (some ⟨gb,o,none⟩) l' c']).run Tryz.prog w=.ok (.value (.bool false)) w:=by
 rw [run_callFunc_extern Tryz.func149 kZ kZ kZ (e:=Extern.SlicesOverlaps.overlaps #[27,27] #[4]) kZ,fcA rfl (λ _=>rfl) dZ ha hb hcb hne];rfl
theorem tuA (w:World) (base bu:Nat) (v u:Value) (n i:Nat) (cs xs:List Value) (ho:Own base 31 1 w v n cs) (hu:Own bu 31 1 w u 1 xs) (hi:i≤n) 
 (hap:∀ k,u.ownBlock=some k→v.ownBlock≠some k) (h1c:∀ c ∈ cs,c.oneCell'=true) (h1:∀ c ∈ xs,c.oneCell'=true) (hn:n≤70368744177663) (hb:(n+1)*2≤140737488355328) :
 Fc Tryz.prog 111 #[v,.int .i64 i,u] w (λ en w'=>∃ v',en=.returned v'∧Own 0 31 1 w' v' (n+1) (cs.take (i*1)++xs++cs.drop (i*1))∧Fr (λ k=>v.ownBlock=some k) w w'∧LocR w v v'):=by
 have hs:=ho.slC;have hsu:=hu.slC;have hcl:=ho.1;have hxl:=hu.1
 by_cases hin:i=n
 ·refine Fc.of (args:=[_,_,_]) Tryz.func111 rfl rfl Tryz.ntmps111 nZ ?_
  subst hin
  repeat' (first|(refine yL ?_;first|refine a0A rfl ?_|(refine a3A (hK _ _ (anA rfl dZ c5A rfl ho rfl (HasC.val hsu) h1 (by unfold maxLen;omega) hb (λ v' w2 w3 he2 ho3 hg3 hl3=>?_)));clear hK K;dsimp only [vals];refine abA kZ (λ K hK=>?_))|refine yO ?_|(refine yC ?_ ?_<;>intro hc)|(refine yN hK ?_;clear hK K))|refine wG ?_|(refine yR ?_;intro K hK)|fail)
  refine cbA rfl (λ v5 w5 e5 h5=>?_);obtain rfl:v5=_:=h5;refine ⟨_,rfl,?_,?_,hl3.le he2.size⟩
  ·rw [List.take_of_length_le oZ,List.drop_of_length_le oZ,List.append_nil]
   exact ho3.ext e5
  ·exact Fr.grown (amA (aoA he2 hg3.grownBy) e5)
 ·have hlt:i<n:=oZ
  rcases ho.2 with ⟨_,h0⟩|⟨gb,cap,cur,rfl,hgb,hg,hnc,hm,hsz,htake⟩
  ·omega
  rcases hu.2 with ⟨_,h0⟩|⟨gu,capu,curu,rfl,hgub,hgu,hncu,hmu,hszu,htakeu⟩
  ·omega
  have hne:gu≠gb:=λ e=>hap gu rfl (by rw [e];rfl)
  have hst:∀ c ∈ cs.drop (i*1),c.oneCell'=true:=λ c hc=>h1c c (List.mem_of_mem_drop hc)
  by_cases hroom:n+1≤cap
  ·obtain ⟨zs,hzl,hmore⟩:=ho.more 1 hroom
   have hsl:=hmore.slC;have hsub:fbA (.slice (some ⟨gb,0,none⟩) (n+1) cap) (i+1) (n+1) 1=.slice (some ⟨gb,(i+1)*1,none⟩) (n+1-(i+1)) (cap-(i+1)):=lzA oZ;refine Fc.of (args:=[_,_,_]) Tryz.func111 rfl rfl Tryz.ntmps111 nZ ?_
   repeat' (first|(refine yL ?_;first|refine a0A rfl ?_|refine ohA rfl rfl rfl ?_|(refine gpA rfl _ rfl rfl rfl oZ oZ oZ (λ _=>rfl) ?_;rw [show ((n:Int)+((1:Nat):Int)).toNat=n+1 by omega])|(refine diA rfl _ rfl rfl (HasC.val hsl) rfl oZ oZ (by exact λ _=>rfl) ?_;rw [show ((i:Int)+((1:Nat):Int)).toNat=i+1 by omega])|refine s8A (f:=149) (c:=.bool false) rfl rfl rfl rfl (λ w2 e2=>by rw [hsub];exact z1A (hu.ext e2) (ho.ext e2) oZ hne _ _ _) ?_|(refine a3A (hK _ _ rfl (f8A (i+1) rfl (by intro q h;cases h;decide) c5A rfl rfl hmore (hsl.sub (Nat.le_of_lt oZ) (Nat.le_refl _)) oZ (by rw [n9A hlt hcl hzl];exact hst) (λ w2 w3 e2 ho3 hg3=>?_)));clear hK K;dsimp only [vals];have hu3:=((hu.ext e2).kept hg3 (.inr (λ q=>hne (by injection q))));refine abA kZ (λ K hK=>?_))|(refine a3A (hK _ _ (f8A i rfl (by intro q h;cases h;decide) c5A rfl rfl ho3 hu3.slC oZ (λ c hc=>h1 c (List.mem_of_mem_take hc)) (λ w4 w5 e4 ho5 hg5=>?_)));clear hK K;dsimp only [vals];refine abA kZ (λ K hK=>?_))|refine yO ?_|(refine yC ?_ ?_<;>intro hc)|(refine yN hK ?_;clear hK K))|(refine oCX ?_;first|refine dcA 8 kZ kZ dZ (λ K hK=>?_))|refine wG ?_|(refine yR ?_;intro K hK)|fail)
   refine cbA rfl (λ v6 w6 e6 h6=>?_);obtain rfl:v6=_:=h6;refine ⟨_,rfl,?_,?_,LocR.refl⟩
   ·have h7:=ho5.ext e6
    rw [i4A hlt hcl oZ hzl] at h7;exact h7.base (Nat.zero_le _)
   ·exact Fr.grown (amA (coA (aoA e2 hg3) (aoA e4 hg5)) e6)
  ·refine Fc.of (args:=[_,_,_]) Tryz.func111 rfl rfl Tryz.ntmps111 nZ ?_
   repeat' (first|(refine yL ?_;first|refine a0A rfl ?_|refine ohA rfl rfl rfl ?_|(refine gpA rfl _ rfl rfl rfl oZ oZ oZ (λ _=>rfl) ?_;rw [Int.toNat_natCast])|(refine a3A (hK _ _ (goA (kn:=n+1-i) rfl dZ c5A rfl rfl rfl (niA ho i hi).slC oZ oZ oZ dZ (by rw [show i+(n+1-i)=n+1 by omega];exact hb) oZ (λ v' w2 w3 zs e2 hzl hz1 ho3 e3=>?_)));clear hK K;rw [show i+(n+1-i)=n+1 by omega] at ho3;have x3:=e2.trans e3;have hs3:=hs.ext x3;dsimp only [vals];refine abA kZ (λ K hK=>?_))|(refine diA rfl _ rfl rfl (HasC.ownV ho3) rfl oZ oZ (by exact λ _=>rfl) ?_;rw [Int.toNat_natCast])|(refine a3A (hK _ _ (f8A i rfl (by intro q h;cases h;decide) c5A rfl rfl ho3 (hu.ext x3).slC oZ (λ c hc=>h1 c (List.mem_of_mem_take hc)) (λ w4 w5 e4 ho5 hg5=>?_)));clear hK K;have x5:=(x3.trans e4).grown hg5 (λ q hq=>Nat.le_trans e2.size (Own.lt ho3 q hq).1);have hs5:=hs.ext x5;dsimp only [vals];refine abA kZ (λ K hK=>?_))|(refine diA rfl _ rfl rfl (HasC.ownV ho5) rfl oZ oZ (by exact λ _=>rfl) ?_;rw [show ((i:Int)+((1:Nat):Int)).toNat=i+1 by omega])|(refine diA rfl _ rfl rfl (HasC.val hs5) rfl oZ oZ (by exact λ _=>rfl) ?_;rw [Int.toNat_natCast])|(refine a3A (hK _ _ rfl (f8A (i+1) rfl (by intro q h;cases h;decide) c5A rfl rfl ho5 (hs5.sub (Nat.le_of_lt hlt) (Nat.le_refl _)) oZ (by rw [List.take_of_length_le (by omega:cs.length≤n*1)];exact λ c hc=>hst c (List.mem_of_mem_take hc)) (λ w6 w7 e6 ho7 hg7=>?_)));clear hK K;dsimp only [vals];refine abA kZ (λ K hK=>?_))|refine yO ?_|(refine yC ?_ ?_<;>intro hc)|(refine yN hK ?_;clear hK K))|(refine oCX ?_;first|refine dcA 8 kZ kZ dZ (λ K hK=>?_))|refine wG ?_|(refine yR ?_;intro K hK)|fail)
   refine cbA rfl (λ v8 w8 e8 h8=>?_);obtain rfl:v8=_:=h8;refine ⟨_,rfl,?_,?_,.inr λ k hk=>Nat.le_trans e2.size (Own.lt ho7 k hk).1⟩
   ·have h9:=ho7.ext e8
    have ed:(cs.take (n*1)).drop (i*1)=cs.drop (i*1):=by rw [List.take_of_length_le oZ]
    rw [ed,jiA hlt (by rw [List.length_take];exact Nat.min_eq_left (by rw [hcl];exact Nat.mul_le_mul_right _ hi)) oZ hzl (by rw [List.length_drop,hcl,Nat.sub_mul])] at h9;exact Own.base h9 (Nat.zero_le _)
   ·exact Fr.grown (lhA _ (((x5.trans e6).grown hg7 (λ q hq=>Nat.le_trans e2.size (Own.lt ho3 q hq).1)).trans e8))
theorem d8A:El Tryz.prog 92 96 (.agg #[.int .u8 0,.slice none 0 0,.slice none 0 0,.slice none 0 0]) 4 80:=⟨rfl,rfl,rfl,by decide⟩
theorem z0A {w:World} {ba bb na ca nb cb ga gb:Nat} {xs ys:List Value} (ha:Own ba 96 4 w (.slice (some ⟨ga,0,none⟩) na ca) na xs) (hb:Own bb 96 4 w (.slice (some ⟨gb,0,none⟩) nb cb) nb ys) (hcb:0<cb) (hne:ga≠gb) (o l' c':Nat) :
 (callFunc 151 #[.slice (some ⟨ga,0,none⟩) na ca,.slice (some ⟨gb,o,none⟩) l' c']).run Tryz.prog w=.ok (.value (.bool false)) w:=by
 rw [run_callFunc_extern Tryz.func151 kZ kZ kZ (e:=Extern.SlicesOverlaps.overlaps #[92,92] #[4]) kZ,fcA rfl (λ _=>rfl) dZ ha hb hcb hne];rfl
theorem ttA (w:World) (base bu:Nat) (v u:Value) (n i:Nat) (cs xs:List Value) (ho:Own base 96 4 w v n cs) (hu:Own bu 96 4 w u 1 xs) (hi:i≤n) 
 (hap:∀ k,u.ownBlock=some k→v.ownBlock≠some k) (h1c:∀ c ∈ cs,c.oneCell'=true) (h1:∀ c ∈ xs,c.oneCell'=true) (hn:n≤70368744177663) (hb:(n+1)*80≤140737488355328) :
 Fc Tryz.prog 112 #[v,.int .i64 i,u] w (λ en w'=>∃ v',en=.returned v'∧Own 0 96 4 w' v' (n+1) (cs.take (i*4)++xs++cs.drop (i*4))∧Fr (λ k=>v.ownBlock=some k) w w'∧LocR w v v'):=by
 have hs:=ho.slC;have hsu:=hu.slC;have hcl:=ho.1;have hxl:=hu.1
 by_cases hin:i=n
 ·refine Fc.of (args:=[_,_,_]) Tryz.func112 rfl rfl Tryz.ntmps112 nZ ?_
  subst hin
  repeat' (first|(refine yL ?_;first|refine a0A rfl ?_|(refine a3A (hK _ _ (anA rfl dZ d8A rfl ho rfl (HasC.val hsu) h1 (by unfold maxLen;omega) hb (λ v' w2 w3 he2 ho3 hg3 hl3=>?_)));clear hK K;dsimp only [vals];refine abA kZ (λ K hK=>?_))|refine yO ?_|(refine yC ?_ ?_<;>intro hc)|(refine yN hK ?_;clear hK K))|refine wG ?_|(refine yR ?_;intro K hK)|fail)
  refine cbA rfl (λ v5 w5 e5 h5=>?_);obtain rfl:v5=_:=h5;refine ⟨_,rfl,?_,?_,hl3.le he2.size⟩
  ·rw [List.take_of_length_le oZ,List.drop_of_length_le oZ,List.append_nil]
   exact ho3.ext e5
  ·exact Fr.grown (amA (aoA he2 hg3.grownBy) e5)
 ·have hlt:i<n:=oZ
  rcases ho.2 with ⟨_,h0⟩|⟨gb,cap,cur,rfl,hgb,hg,hnc,hm,hsz,htake⟩
  ·omega
  rcases hu.2 with ⟨_,h0⟩|⟨gu,capu,curu,rfl,hgub,hgu,hncu,hmu,hszu,htakeu⟩
  ·omega
  have hne:gu≠gb:=λ e=>hap gu rfl (by rw [e];rfl)
  have hst:∀ c ∈ cs.drop (i*4),c.oneCell'=true:=λ c hc=>h1c c (List.mem_of_mem_drop hc)
  by_cases hroom:n+1≤cap
  ·obtain ⟨zs,hzl,hmore⟩:=ho.more 1 hroom
   have hsl:=hmore.slC;have hsub:fbA (.slice (some ⟨gb,0,none⟩) (n+1) cap) (i+1) (n+1) 4=.slice (some ⟨gb,(i+1)*4,none⟩) (n+1-(i+1)) (cap-(i+1)):=lzA oZ;refine Fc.of (args:=[_,_,_]) Tryz.func112 rfl rfl Tryz.ntmps112 nZ ?_
   repeat' (first|(refine yL ?_;first|refine a0A rfl ?_|refine ohA rfl rfl rfl ?_|(refine gpA rfl _ rfl rfl rfl oZ oZ oZ (λ _=>rfl) ?_;rw [show ((n:Int)+((1:Nat):Int)).toNat=n+1 by omega])|(refine diA rfl _ rfl rfl (HasC.val hsl) rfl oZ oZ (by exact λ _=>rfl) ?_;rw [show ((i:Int)+((1:Nat):Int)).toNat=i+1 by omega])|refine s8A (f:=151) (c:=.bool false) rfl rfl rfl rfl (λ w2 e2=>by rw [hsub];exact z0A (hu.ext e2) (ho.ext e2) oZ hne _ _ _) ?_|(refine a3A (hK _ _ rfl (f8A (i+1) rfl (by intro q h;cases h;decide) d8A rfl rfl hmore (hsl.sub (Nat.le_of_lt oZ) (Nat.le_refl _)) oZ (by rw [n9A hlt hcl hzl];exact hst) (λ w2 w3 e2 ho3 hg3=>?_)));clear hK K;dsimp only [vals];have hu3:=((hu.ext e2).kept hg3 (.inr (λ q=>hne (by injection q))));refine abA kZ (λ K hK=>?_))|(refine a3A (hK _ _ (f8A i rfl (by intro q h;cases h;decide) d8A rfl rfl ho3 hu3.slC oZ (λ c hc=>h1 c (List.mem_of_mem_take hc)) (λ w4 w5 e4 ho5 hg5=>?_)));clear hK K;dsimp only [vals];refine abA kZ (λ K hK=>?_))|refine yO ?_|(refine yC ?_ ?_<;>intro hc)|(refine yN hK ?_;clear hK K))|(refine oCX ?_;first|refine dcA 8 kZ kZ dZ (λ K hK=>?_))|refine wG ?_|(refine yR ?_;intro K hK)|fail)
   refine cbA rfl (λ v6 w6 e6 h6=>?_);obtain rfl:v6=_:=h6;refine ⟨_,rfl,?_,?_,LocR.refl⟩
   ·have h7:=ho5.ext e6
    rw [i4A hlt hcl oZ hzl] at h7;exact h7.base (Nat.zero_le _)
   ·exact Fr.grown (amA (coA (aoA e2 hg3) (aoA e4 hg5)) e6)
  ·refine Fc.of (args:=[_,_,_]) Tryz.func112 rfl rfl Tryz.ntmps112 nZ ?_
   repeat' (first|(refine yL ?_;first|refine a0A rfl ?_|refine ohA rfl rfl rfl ?_|(refine gpA rfl _ rfl rfl rfl oZ oZ oZ (λ _=>rfl) ?_;rw [Int.toNat_natCast])|(refine a3A (hK _ _ (goA (kn:=n+1-i) rfl dZ d8A rfl rfl rfl (niA ho i hi).slC oZ oZ oZ dZ (by rw [show i+(n+1-i)=n+1 by omega];exact hb) oZ (λ v' w2 w3 zs e2 hzl hz1 ho3 e3=>?_)));clear hK K;rw [show i+(n+1-i)=n+1 by omega] at ho3;have x3:=e2.trans e3;have hs3:=hs.ext x3;dsimp only [vals];refine abA kZ (λ K hK=>?_))|(refine diA rfl _ rfl rfl (HasC.ownV ho3) rfl oZ oZ (by exact λ _=>rfl) ?_;rw [Int.toNat_natCast])|(refine a3A (hK _ _ (f8A i rfl (by intro q h;cases h;decide) d8A rfl rfl ho3 (hu.ext x3).slC oZ (λ c hc=>h1 c (List.mem_of_mem_take hc)) (λ w4 w5 e4 ho5 hg5=>?_)));clear hK K;have x5:=(x3.trans e4).grown hg5 (λ q hq=>Nat.le_trans e2.size (Own.lt ho3 q hq).1);have hs5:=hs.ext x5;dsimp only [vals];refine abA kZ (λ K hK=>?_))|(refine diA rfl _ rfl rfl (HasC.ownV ho5) rfl oZ oZ (by exact λ _=>rfl) ?_;rw [show ((i:Int)+((1:Nat):Int)).toNat=i+1 by omega])|(refine diA rfl _ rfl rfl (HasC.val hs5) rfl oZ oZ (by exact λ _=>rfl) ?_;rw [Int.toNat_natCast])|(refine a3A (hK _ _ rfl (f8A (i+1) rfl (by intro q h;cases h;decide) d8A rfl rfl ho5 (hs5.sub (Nat.le_of_lt hlt) (Nat.le_refl _)) oZ (by rw [List.take_of_length_le (by omega:cs.length≤n*4)];exact λ c hc=>hst c (List.mem_of_mem_take hc)) (λ w6 w7 e6 ho7 hg7=>?_)));clear hK K;dsimp only [vals];refine abA kZ (λ K hK=>?_))|refine yO ?_|(refine yC ?_ ?_<;>intro hc)|(refine yN hK ?_;clear hK K))|(refine oCX ?_;first|refine dcA 8 kZ kZ dZ (λ K hK=>?_))|refine wG ?_|(refine yR ?_;intro K hK)|fail)
   refine cbA rfl (λ v8 w8 e8 h8=>?_);obtain rfl:v8=_:=h8;refine ⟨_,rfl,?_,?_,.inr λ k hk=>Nat.le_trans e2.size (Own.lt ho7 k hk).1⟩
   ·have h9:=ho7.ext e8
    have ed:(cs.take (n*4)).drop (i*4)=cs.drop (i*4):=by rw [List.take_of_length_le oZ]
    rw [ed,jiA hlt (by rw [List.length_take];exact Nat.min_eq_left (by rw [hcl];exact Nat.mul_le_mul_right _ hi)) oZ hzl (by rw [List.length_drop,hcl,Nat.sub_mul])] at h9;exact Own.base h9 (Nat.zero_le _)
   ·exact Fr.grown (lhA _ (((x5.trans e6).grown hg7 (λ q hq=>Nat.le_trans e2.size (Own.lt ho3 q hq).1)).trans e8))
abbrev tS:Nat:=102
abbrev tK:Nat:=31
abbrev Qd:=Int × Value × Value × Value
def qv (q:Qd):Value:=.agg #[.int .u8 q.1,q.2.1,q.2.2.1,q.2.2.2]
def qcs (q:Qd):List Value:=[.int .u8 q.1,q.2.1,q.2.2.1,q.2.2.2]
def q0:Qd:=(0,nilS,nilS,nilS)
def b5A:List Qd→List Value
 | []=>[]
 | q::r=>.int .u8 q.1::q.2.1::q.2.2.1::q.2.2.2::b5A r
theorem cwA:∀ a b,b5A (a++b)=b5A a++b5A b
 | [],b=>rfl
 | x::a,b=>by simp only [List.cons_append,b5A,cwA a b]
theorem fqA:∀ (a:List Qd) (j:Nat),j<a.length→((b5A a).drop (j*4)).take 4=qcs (a.getD j q0)
 | [],j,h=>by simp at h
 | x::a,0,_=>rfl
 | x::a,j+1,h=>by
   have ih:=fqA a j (by simpa using h);rw [show (j+1)*4=j*4+4 by omega];exact ih
theorem g8A:∀ (a:List Qd) (j:Nat),b5A (a.take j)=(b5A a).take (j*4)
 | [],j=>by simp [b5A]
 | x::a,0=>by simp [b5A]
 | x::a,j+1=>by
   rw [show (j+1)*4=j*4+1+1+1+1 by omega];simp only [List.take_succ_cons,b5A,g8A a j]
theorem g9A:∀ (a:List Qd) (j:Nat),b5A (a.drop j)=(b5A a).drop (j*4)
 | [],j=>by simp [b5A]
 | x::a,0=>by simp [b5A]
 | x::a,j+1=>by
   rw [show (j+1)*4=j*4+1+1+1+1 by omega];simp only [List.drop_succ_cons,b5A,g9A a j]
theorem oyA (a:List Qd) (j:Nat) (q:Qd) (h:j<a.length):b5A (a.set j q)=(b5A a).take (j*4)++qcs q++(b5A a).drop (j*4+4):=by
 rw [List.set_eq_take_append_cons_drop,if_pos h,cwA,g8A,show q::a.drop (j+1)=[q]++a.drop (j+1) from rfl,cwA,g9A,show (j+1)*4=j*4+4 by omega,List.append_assoc];rfl
theorem joA:∀ (a:List Qd),∀ u ∈ b5A a,∃ j,j<a.length∧u ∈ qcs (a.getD j q0)
 | [],u,h=>by cases h
 | x::a,u,h=>by
   have h':u ∈ qcs x++b5A a:=h
   rcases List.mem_append.1 h' with h1|h1
   ·exact ⟨0,by simp,h1⟩
   ·obtain ⟨j,h2,h3⟩:=joA a u h1
    exact ⟨j+1,by simpa using h2,h3⟩
theorem Cn.qd {A:Nat→Prop} {w:World} {v:Value} {p:Nat→Bool} {kk:Int} (h:Cn A w v p kk):∃ q:Qd,v=qv q∧(∀ u ∈ qcs q,u.oneCell'=true):=by
 obtain ⟨kd,va,vw,vr,rfl,-,-,-,-,-,-,h1⟩:=h.parts;exact ⟨(kd,va,vw,vr),rfl,h1⟩
theorem Cn.mono {A A':Nat→Prop} {w:World} {v:Value} {p:Nat→Bool} {kk:Int} (h:Cn A w v p kk) (hA:∀ k,k<w.heap.size→A k→A' k):Cn A' w v p kk:=by
 obtain ⟨hp,⟨h1,kd,va,h2,h3,h4⟩|h|h⟩:=h
 ·exact ⟨hp,.inl ⟨h1,kd,va,h2,h3,h4.1,λ b hb=>hA b (Own.lt h4.1 b hb).2 (h4.2 b hb)⟩⟩
 ·exact ⟨hp,.inr (.inl h)⟩
 ·exact ⟨hp,.inr (.inr h)⟩
def Plain (A R:Nat→Prop) (w:World):Prop:=∀ k,R k→∃ cur e j,w.heap[k]?=some (.cells cur e j)∧61≠e∧105≠e∧(A k→31≠e)
theorem Cn.fr {A R:Nat→Prop} {w w':World} {v:Value} {p:Nat→Bool} {kk:Int} (h:Cn A w v p kk) (hf:Fr R w w') (hR:Plain A R w):Cn A w' v p kk:=by
 obtain ⟨hp,⟨h1,kd,va,h2,h3,h4⟩|⟨h1,vw,h3,h4⟩|⟨h1,vr,h3,h4⟩⟩:=h
 ·refine ⟨hp,.inl ⟨h1,kd,va,h2,h3,hf.own h4.1 (λ k hk hr=>?_),h4.2⟩⟩
  obtain ⟨cur,e,j,hb,ne1,ne2,ne3⟩:=hR k hr;exact Own.apart h4.1 hb (ne3 (h4.2 k hk)) hk
 ·refine ⟨hp,.inr (.inl ⟨h1,vw,h3,hf.own h4 (λ k hk hr=>?_)⟩)⟩
  obtain ⟨cur,e,j,hb,ne1,ne2,ne3⟩:=hR k hr;exact Own.apart h4 hb ne1 hk
 ·refine ⟨hp,.inr (.inr ⟨h1,vr,h3,hf.own h4 (λ k hk hr=>?_)⟩)⟩
  obtain ⟨cur,e,j,hb,ne1,ne2,ne3⟩:=hR k hr;exact Own.apart h4 hb ne2 hk
structure RS (A:Nat→Prop) (w:World) (b:Nat) (kv lv:Value) (p:Nat→Bool):Prop where
 hb:w.heap[b]?=some (.cells #[kv,lv] tS (0,0))
 hk:OwnI 0 tK .u16 w kv (b7A p)
 top:∀ x,TOP≤x→p x=false
 hl:∃ Q:List Qd,Q.length=nk p∧Own 0 tC 4 w lv (nk p) (b5A Q)∧∀ i,i<nk p→Cn (λ k=>A k∧kv.ownBlock≠some k) w (qv (Q.getD i q0)) (blk p (kp p i)) (apA (blk p (kp p i)))
def onw (b:Nat) (kv lv:Value) (k:Nat):Prop:=k=b∨kv.ownBlock=some k∨lv.ownBlock=some k
theorem RS.ext {A:Nat→Prop} {w w':World} {b:Nat} {kv lv:Value} {p:Nat→Bool} (h:RS A w b kv lv p) (e:Ext w w'):RS A w' b kv lv p:=by
 obtain ⟨Q,h1,h2,h3⟩:=h.hl;exact ⟨e.block h.hb,h.hk.ext e,h.top,Q,h1,h2.ext e,λ i hi=>(h3 i hi).ext e⟩
theorem asA {base e s n:Nat} {w:World} {v:Value} {cs:List Value} (h:Own base e s w v n cs) {k:Nat} (hk:v.ownBlock=some k):∃ cur,w.heap[k]?=some (.cells cur e (0,0)):=by
 rcases h.2 with ⟨h1,h0⟩|⟨gb,cap,cur,rfl,hgb,hg,-⟩
 ·rw [h1] at hk;cases hk
 ·cases hk;exact ⟨cur,hg⟩
theorem RS.lt {A:Nat→Prop} {w:World} {b:Nat} {kv lv:Value} {p:Nat→Bool} (h:RS A w b kv lv p) {k:Nat} (hk:onw b kv lv k):k<w.heap.size:=by
 obtain ⟨Q,h1,h2,h3⟩:=h.hl
 rcases hk with rfl|hk|hk
 ·exact zsA h.hb
 ·exact (Own.lt h.hk k hk).2
 ·exact (Own.lt h2 k hk).2
theorem RS.plainA {A A':Nat→Prop} {w:World} {b:Nat} {kv lv:Value} {p:Nat→Bool} (h:RS A w b kv lv p) (hA:∀ k,kv.ownBlock=some k→¬ A' k):Plain A' (onw b kv lv) w:=by
 obtain ⟨Q,h1,h2,h3⟩:=h.hl;rintro k (rfl|hk|hk)
 ·exact ⟨_,_,_,h.hb,by decide,by decide,λ _=>by decide⟩
 ·obtain ⟨cur,hc⟩:=asA h.hk hk
  exact ⟨_,_,_,hc,by decide,by decide,λ ha=>absurd ha (hA k hk)⟩
 ·obtain ⟨cur,hc⟩:=asA h2 hk
  exact ⟨_,_,_,hc,by decide,by decide,λ _=>by decide⟩
theorem Plain.mono {A A' R:Nat→Prop} {w:World} (h:Plain A R w) (hA:∀ k,A' k→A k):Plain A' R w:=λ k hk=>by
 obtain ⟨cur,e,j,h1,h2,h3,h4⟩:=h k hk;exact ⟨cur,e,j,h1,h2,h3,λ ha=>h4 (hA k ha)⟩
theorem RS.mono {A A':Nat→Prop} {w:World} {b:Nat} {kv lv:Value} {p:Nat→Bool} (h:RS A w b kv lv p) (hA:∀ k,k<w.heap.size→A k→kv.ownBlock≠some k→A' k):RS A' w b kv lv p:=by
 obtain ⟨Q,h1,h2,h3⟩:=h.hl;exact ⟨h.hb,h.hk,h.top,Q,h1,h2,λ i hi=>(h3 i hi).mono λ k hk ha=>⟨hA k hk ha.1 ha.2,ha.2⟩⟩
theorem RS.fr {A R:Nat→Prop} {w w':World} {b:Nat} {kv lv:Value} {p:Nat→Bool} (h:RS A w b kv lv p) (hf:Fr R w w') (hR:Plain A R w) (hB:∀ k,onw b kv lv k→¬ R k):RS A w' b kv lv p:=by
 obtain ⟨Q,h1,h2,h3⟩:=h.hl;exact ⟨hf.at h.hb (hB b (.inl rfl)),hf.own h.hk (λ k hk=>hB k (.inr (.inl hk))),h.top,Q,h1,hf.own h2 (λ k hk=>hB k (.inr (.inr hk))),λ i hi=>(h3 i hi).fr hf (hR.mono λ k hk=>hk.1)⟩
def RSet (B A:Nat→Prop) (w:World) (v:Value) (p:Nat→Bool):Prop:=∃ b kv lv,v=.pointer (some ⟨b,0,none⟩)∧RS A w b kv lv p∧∀ k,onw b kv lv k→B k
theorem RSet.ext {B A:Nat→Prop} {w w':World} {v:Value} {p:Nat→Bool} (h:RSet B A w v p) (e:Ext w w'):RSet B A w' v p:=by
 obtain ⟨b,kv,lv,h1,h2,h3⟩:=h;exact ⟨b,kv,lv,h1,h2.ext e,h3⟩
def rsP (B A:Nat→Prop) (p:Nat→Bool):AV:=⟨λ v w=>RSet B A w v p,λ _ _ _ e h=>h.ext e⟩
def NSet (B A:Nat→Prop) (w:World) (v:Value) (p:Nat→Bool):Prop:=(v=.pointer none∧p=λ _=>false)∨RSet B A w v p
theorem NSet.ext {B A:Nat→Prop} {w w':World} {v:Value} {p:Nat→Bool} (h:NSet B A w v p) (e:Ext w w'):NSet B A w' v p:=h.imp id (λ h=>h.ext e)
theorem RSet.n {B A:Nat→Prop} {w:World} {v:Value} {p:Nat→Bool} (h:RSet B A w v p):NSet B A w v p:=.inr h
theorem g7A (k:Nat):ne (λ _=>false) k=false:=by
 cases h:ne (λ _=>false) k
 ·rfl
 ·obtain ⟨i,_,h2⟩:=ne_iff.1 h;cases h2
theorem fiA:nk (λ _=>false)=0:=dxA _ (λ i _=>g7A i)
theorem ldA:b7A (λ _=>false)=[]:=List.eq_nil_of_length_eq_zero (by rw [bfA,fiA])
theorem RS.turned {A:Nat→Prop} {w w':World} {b:Nat} {kv lv kv' lv':Value} {p p':Nat→Bool} {Q':List Qd} (hS:RS A w b kv lv p) (hf:Fr (onw b kv lv) w w') (hb:w'.heap[b]?=some (.cells #[kv',lv'] tS (0,0))) (hk:OwnI 0 tK .u16 w' kv' (b7A p'))
 (hn:Q'.length=nk p') (hl:Own 0 tC 4 w' lv' (nk p') (b5A Q')) (htop:∀ x,TOP≤x→p' x=false) (hloc:LocR w kv kv')
 (hC:∀ i,i<nk p'→Cn (λ k=>A k∧kv.ownBlock≠some k) w (qv (Q'.getD i q0)) (blk p' (kp p' i)) (apA (blk p' (kp p' i)))):RS A w' b kv' lv' p':=by
 refine ⟨hb,hk,htop,Q',hn,hl,λ i hi=>?_⟩;refine Cn.fr ((hC i hi).mono (A':=λ k=>A k∧kv'.ownBlock≠some k∧kv.ownBlock≠some k) λ k hlt ha=>⟨ha.1,λ h=>?_,ha.2⟩) hf (hS.plainA λ k h1 h2=>h2.2.2 h1) |>.mono λ k _ h=>⟨h.1,h.2.1⟩
 rcases hloc with h' | h'
 ·exact ha.2 (h'▸h)
 ·have:=h' k h;omega
theorem RS.new {A:Nat→Prop} {w:World} {b:Nat} (hb:w.heap[b]?=some (.cells #[nilS,nilS] tS (0,0))):RS A w b nilS nilS (λ _=>false) :=
 ⟨hb,by rw [ldA];exact OwnI.nil,λ _ _=>rfl,[],by rw [fiA];rfl,by rw [fiA];exact Own.nil,λ i hi=>by rw [fiA] at hi;omega⟩
end Go.Proofs.YtbokphkfojijoaaGreatDoor
end
section
namespace Go.Proofs.YtbokphkfojijoaaGreatDoor
open Go.LA Go.ArrP Go.RowKit
section
variable {P:Program} {l:List Oper} {N:Nn} {wb:World} {K:List Oper→Env→Prop} {rest:List Oper} {E:Env}
variable {d:Tmp} {ty t t':TypeId} {pos:String} {after:Array Edge} {g:Option (Nat × Bool)} {x y z:Operand} {k k':IntKind}
theorem oNc (h:LA P l wb K (⟨some d,.nilCheck x,ty,pos,after,g⟩::rest) E):LA P l wb K (⟨some d,.nilCheck x,ty,pos,after,g⟩::rest) E:=h
theorem oEq {op:BinOp} (h:LA P l wb K (⟨some d,.binOp op 37 x y t',ty,pos,after,g⟩::rest) E):LA P l wb K (⟨some d,.binOp op 37 x y t',ty,pos,after,g⟩::rest) E:=h
end
variable {A B:Nat→Prop}
theorem new_c (w:World) (hB:Fsh B w):Fc Tryz.prog 40 #[] w (Ret w (.pred (rsP B A (λ _=>false)))):=by
 refine Fc.of (args:=[]) Tryz.func40 rfl rfl Tryz.ntmps40 nZ ?_
 repeat' (first|(refine yL ?_;first|refine a0A rfl ?_|refine guA (c:=.agg #[nilS,nilS]) rfl (λ _=>by kernel_rfl) ?_|refine j3A rfl rfl ?_|refine yO ?_|(refine yC ?_ ?_<;>intro hc)|(refine yN hK ?_;clear hK K))|refine wG ?_|(refine yR ?_;intro K hK)|fail)
 refine aiA rfl rfl (Ext.refl _) (λ v w' e hv=>?_);obtain ⟨b,hb,rfl,hh⟩:=hv;exact ⟨b,nilS,nilS,rfl,RS.new hh,λ k hk=>by
  rcases hk with rfl|hk|hk
  ·exact hB _ hb
  ·cases hk
  ·cases hk⟩
theorem vsA {w:World} {v:Value} {p:Nat→Bool} (h:NSet B A w v p) {k:Nat} (hk:k<65536):Fc Tryz.prog 110 #[v,.int .u16 k] w (Ret w (.tup2 (.val (.int .i64 (cnt (ne p) k))) (.val (.bool (ne p k))))):=by
 rcases h with ⟨rfl,rfl⟩|⟨b,kv,lv,rfl,hS,-⟩
 ·rw [g7A,dxA k (λ i _=>g7A i)]
  refine Fc.of (args:=[_,_]) Tryz.func110 rfl rfl Tryz.ntmps110 nZ ?_
  repeat' (first|(refine yL ?_;first|refine a0A rfl ?_|(refine oEq ?_;refine bsA (c:=.bool true) rfl rfl rfl (λ _=>rfl) ?_)|refine yO ?_|(refine yC ?_ ?_<;>intro hc)|(refine yN hK ?_;clear hK K))|refine wG ?_|(refine yR ?_;intro K hK)|fail)
  all_goals exact htA rfl rfl rfl (Ext.refl _) rfl rfl
 ·have hn:(b7A p).length≤4611686018427387903:=by rw [bfA];have:=jdA p;omega
  have hb:bsS (b7A p) (k:Int)=cnt (ne p) k:=lmA (ne p) k oZ;have hf:hdA (b7A p) (k:Int)=ne p k:=by
   rw [gmA _ (ieA p)];exact cvA (ne p) hk
  refine Fc.of (args:=[_,_]) Tryz.func110 rfl rfl Tryz.ntmps110 nZ ?_
  repeat' (first|(refine yL ?_;first|refine a0A rfl ?_|(refine oEq ?_;refine bsA (c:=.bool false) rfl rfl rfl (λ _=>rfl) ?_)|(refine oNc ?_;refine a8A rfl rfl ?_)|(refine oF 0 ?_;refine a2A (a':=⟨b,0,none⟩) rfl rfl (λ _=>rfl) ?_)|(refine oF 1 ?_;refine a2A (a':=⟨b,1,none⟩) rfl rfl (λ _=>rfl) ?_)|(refine oLt 27 ?_;refine a7A (c:=kv) rfl (λ _=>rfl) rfl hS.hb rfl ?_)|(refine oLt 92 ?_;refine a7A (c:=lv) rfl (λ _=>rfl) rfl hS.hb rfl ?_)|refine yO ?_|(refine yC ?_ ?_<;>intro hc)|(refine yV ?_;first|(refine oC 148 ?_;refine a5A (f:=148) rfl rfl rfl rfl  (.tup2 (.val (.int .i64 (bsS (b7A p) k))) (.val (.bool (hdA (b7A p) k)))) (by intro u1 u2 w e hu1 hu2;(try obtain rfl:u1=_:=hu1);(try obtain rfl:u2=_:=hu2);exact bs_c _ _ _ _ (hS.hk.ext e).slI hn) ?_))|(refine yN hK ?_;clear hK K))|refine wG ?_|(refine yR ?_;intro K hK)|fail)
  all_goals exact htA rfl rfl rfl (Ext.refl _) (by rw [hb]) (by rw [hf])
theorem kind_none:apA (λ _=>false)=1:=by
 unfold apA;rw [dxA (p:=λ _=>false) 65536 (λ i _=>rfl),dxA (p:=arA λ _=>false) 65536 (λ i _=>rfl)];decide
theorem get_s {w:World} {v:Value} {p:Nat→Bool} (h:NSet B A w v p) {k:Nat} (hk:k<65536):Fc Tryz.prog 76 #[v,.int .u16 k] w (Ret w (.pred (cnP A (blk p k) (apA (blk p k))))):=by
 have hf:∀ w',Ext w w'→_:=λ w' e=>vsA (h.ext e) hk
 cases hn:ne p k
 ·rw [hn] at hf
  have h1:apA (blk p k)=1:=by rw [o5A hn];exact kind_none
  rw [h1,o5A hn];refine Fc.of (args:=[_,_]) Tryz.func76 rfl rfl Tryz.ntmps76 nZ ?_
  repeat' (first|(refine yL ?_;first|refine a0A rfl ?_|(refine oAl ?_;refine bmA rfl (λ _=>rfl) ?_)|refine guA (c:=.agg #[.int .u8 0,nilS,nilS,nilS]) rfl (λ _=>by kernel_rfl) ?_|(refine a3A (hK _ _ (c2A (φ:=cnP A (λ _=>false) 1) (w0:=w) rfl rfl rfl b2A (λ v' w' e hv=>by obtain rfl:v'=_:=hv;exact Cn.zero) rfl (λ _=>rfl) (Ext.refl _) (λ w' e'=>?_)));clear hK K)|refine yO ?_|(refine yC ?_ ?_<;>intro hc)|(refine yV ?_;first|(refine oC 110 ?_;refine a5A (f:=110) rfl rfl rfl rfl  (.tup2 (.val (.int .i64 (cnt (ne p) k))) (.val (.bool false))) (by intro u1 u2 w e hu1 hu2;(try obtain rfl:u1=_:=hu1);(try obtain rfl:u2=_:=hu2);exact hf _ e) ?_))|(refine yN hK ?_;clear hK K))|refine wG ?_|(refine yR ?_;intro K hK)|fail)
  all_goals exact cpA rfl rfl rfl rfl rfl (by assumption)
 ·obtain ⟨i1,i2⟩:=toA hk hn
  obtain ⟨i,hi⟩:∃ i,i=cnt (ne p) k:=⟨_,rfl⟩;rw [← hi] at i1 i2;rw [hn] at hf
  rcases h with ⟨rfl,rfl⟩|⟨b,kv,lv,rfl,hS,-⟩
  ·rw [g7A] at hn;cases hn
  obtain ⟨Q,q1,q2,q3⟩:=hS.hl;have hcn:=q3 i i1;rw [i2] at hcn;replace hcn:=hcn.mono (A':=A) (λ k _ h=>h.1);have hat:=fqA Q i oZ;rw [← hi] at hf;clear hi q3;refine Fc.of (args:=[_,_]) Tryz.func76 rfl rfl Tryz.ntmps76 nZ ?_
  repeat' (first|(refine yL ?_;first|refine a0A rfl ?_|(refine oAl ?_;refine bmA rfl (λ _=>rfl) ?_)|(refine oNc ?_;refine a8A rfl rfl ?_)|(refine oF 0 ?_;refine a2A (a':=⟨b,0,none⟩) rfl rfl (λ _=>rfl) ?_)|(refine oF 1 ?_;refine a2A (a':=⟨b,1,none⟩) rfl rfl (λ _=>rfl) ?_)|(refine oLt 27 ?_;refine a7A (c:=kv) rfl (λ _=>rfl) rfl hS.hb rfl ?_)|(refine oLt 92 ?_;refine a7A (c:=lv) rfl (λ _=>rfl) rfl hS.hb rfl ?_)|(refine oI ?_;refine c9A (s:=4) rfl _ rfl (λ _=>rfl) rfl (HasC.ownV q2) rfl i rfl i1 ?_;rw [hat])|(refine oLd ?_;refine atA (cs:=qcs _) rfl (λ _=>rfl) (λ _=>rfl) rfl ?_)|(refine a3A (hK _ _ (c2A (φ:=cnP A (blk p k) (apA (blk p k))) (w0:=w) rfl rfl rfl b2A (λ v' w' e hv=>by obtain rfl:v'=_:=hv;exact hcn.ext e) rfl (λ _=>rfl) (Ext.refl _) (λ w' e'=>?_)));clear hK K)|refine yO ?_|(refine yC ?_ ?_<;>intro hc)|(refine yV ?_;first|(refine oC 110 ?_;refine a5A (f:=110) rfl rfl rfl rfl  (.tup2 (.val (.int .i64 i)) (.val (.bool true))) (by intro u1 u2 w e hu1 hu2;(try obtain rfl:u1=_:=hu1);(try obtain rfl:u2=_:=hu2);exact hf _ e) ?_))|(refine yN hK ?_;clear hK K))|refine wG ?_|(refine yR ?_;intro K hK)|fail)
  all_goals exact cpA rfl rfl rfl rfl rfl (by assumption)
end Go.Proofs.YtbokphkfojijoaaGreatDoor
end
section
namespace Go.Proofs.YtbokphkfojijoaaGreatDoor
open Go.LA Go.ArrP Go.RowKit
variable {A B:Nat→Prop}
theorem tzA {α:Type} {d:α} {l:List α} {i j:Nat} {x:α} (h:i<l.length):(l.set i x).getD j d=if j=i then x else l.getD j d:=by
 rw [List.getD_eq_getElem?_getD,List.getD_eq_getElem?_getD,List.getElem?_set]
 by_cases e:j=i
 ·subst e;simp [h]
 ·simp [e,Ne.symm e]
theorem u0A {α:Type} {d:α} {l:List α} {i j:Nat} {x:α} (h:i≤l.length):(l.take i++[x]++l.drop i).getD j d=if j<i then l.getD j d else if j=i then x else l.getD (j-1) d:=by
 have hl:(l.take i).length=i:=by rw [List.length_take];omega
 by_cases h1:j<i
 ·rw [if_pos h1,List.append_assoc,exA oZ,List.getD_eq_getElem?_getD,List.getD_eq_getElem?_getD,List.getElem?_take_of_lt h1]
 ·rw [if_neg h1]
  by_cases h2:j=i
  ·rw [if_pos h2,exA (by rw [List.length_append,List.length_singleton];omega),dfA oZ,hl,h2,Nat.sub_self];rfl
  ·rw [if_neg h2,dfA (by rw [List.length_append,List.length_singleton];omega),List.length_append,List.length_singleton,hl,List.getD_eq_getElem?_getD,List.getD_eq_getElem?_getD,List.getElem?_drop]
   congr 2;omega
theorem lxA {p:Nat→Bool} {k:Nat} {q:Nat→Bool} (h:∀ x,TOP≤x→p x=false) (hk:k<65536):∀ x,TOP≤x→upd p k q x=false:=λ x hx=>by
 unfold upd;rw [if_neg (by rw [enA] at hx;omega)];exact h x hx
theorem ndA {a b:Qd} (h:qv a=qv b):a=b:=by
 obtain ⟨a1,a2,a3,a4⟩:=a;obtain ⟨b1,b2,b3,b4⟩:=b;unfold qv at h
 simpa using h
def Mut (A:Nat→Prop) (w:World) (b:Nat) (kv lv:Value) (p':Nat→Bool) (w':World):Prop:=∃ kv' lv',RS A w' b kv' lv' p'∧Fr (onw b kv lv) w w'∧LocR w kv kv'∧LocR w lv lv'
theorem RS.set {A:Nat→Prop} {w w':World} {b:Nat} {kv lv:Value} {p:Nat→Bool} (hS:RS A w b kv lv p) {k:Nat} (hk:k<65536) (hn:ne p k=true) {q:Nat→Bool} (hq:∀ i,65536≤i→q i=false) (hq0:0<cnt q 65536) {Q:List Qd} {qc:Qd} (q1:Q.length=nk p)
 (q3:∀ i,i<nk p→Cn (λ k=>A k∧kv.ownBlock≠some k) w (qv (Q.getD i q0)) (blk p (kp p i)) (apA (blk p (kp p i)))) (hc:Cn (λ j=>A j∧kv.ownBlock≠some j) w (qv qc) q (apA q))
 (hf:Fr (onw b kv lv) w w') (hb:w'.heap[b]?=some (.cells #[kv,lv] tS (0,0))) (hkk:OwnI 0 tK .u16 w' kv (b7A p)) (hl:Own 0 tC 4 w' lv (nk p) (b5A (Q.set (cnt (ne p) k) qc))):Mut A w b kv lv (upd p k q) w':=by
 have hkeys:=mwA p hq hq0 hn;have hnk:nk (upd p k q)=nk p:=by rw [← bfA,← bfA,hkeys]
 obtain ⟨i1,i2⟩:=toA hk hn;refine ⟨kv,lv,hS.turned (Q':=Q.set (cnt (ne p) k) qc) hf hb (by rw [hkeys];exact hkk) (by rw [List.length_set,q1,hnk]) (by rw [hnk];exact hl) (lxA hS.top hk) LocR.refl (λ j hj=>?_),hf,LocR.refl,LocR.refl⟩;rw [hnk] at hj;rw [w4A p hq hq0 hn,tzA oZ]
 by_cases e:j=cnt (ne p) k
 ·rw [if_pos e,e,i2,jwA p k hq];exact hc
 ·have hne:kp p j≠k:=λ h=>e (by rw [← h];exact (nrA oZ).symm)
  rw [if_neg e,gdA p q hne];exact q3 j hj
theorem RS.ins {A:Nat→Prop} {w w':World} {b:Nat} {kv lv kv' lv':Value} {p:Nat→Bool} (hS:RS A w b kv lv p) {k:Nat} (hk:k<65536) (hn:ne p k=false) {q:Nat→Bool} (hq:∀ i,65536≤i→q i=false) (hq0:0<cnt q 65536) {Q:List Qd} {qc:Qd} (q1:Q.length=nk p)
 (q3:∀ i,i<nk p→Cn (λ k=>A k∧kv.ownBlock≠some k) w (qv (Q.getD i q0)) (blk p (kp p i)) (apA (blk p (kp p i)))) (hc:Cn (λ j=>A j∧kv.ownBlock≠some j) w (qv qc) q (apA q))
 (hf:Fr (onw b kv lv) w w') (hb:w'.heap[b]?=some (.cells #[kv',lv'] tS (0,0))) (hkk:OwnI 0 tK .u16 w' kv' ((b7A p).take (cnt (ne p) k)++[(k:Int)]++(b7A p).drop (cnt (ne p) k)))
 (hl:Own 0 tC 4 w' lv' (nk p+1) (b5A (Q.take (cnt (ne p) k)++[qc]++Q.drop (cnt (ne p) k)))) (hk1:LocR w kv kv') (hl1:LocR w lv lv'):Mut A w b kv lv (upd p k q) w':=by
 have hkeys:=i1A p hk hq hq0 hn;have hnk:=pjA p hk hq hq0 hn;have hle:cnt (ne p) k≤nk p:=cnt_mono _ _ oZ;refine ⟨kv',lv',hS.turned (Q':=Q.take (cnt (ne p) k)++[qc]++Q.drop (cnt (ne p) k)) hf hb (by rw [hkeys];exact hkk) (by simp only [List.length_append,List.length_take,List.length_drop,List.length_singleton];omega) (by rw [hnk];exact hl) (lxA hS.top hk) hk1 (λ j hj=>?_),hf,hk1,hl1⟩;rw [hnk] at hj;rw [vbA p hk hq hq0 hn hj,u0A oZ];have hne:∀ j,j<nk p→kp p j≠k:=λ j hj h=>by
  have:=(gjA hj).2.1;rw [h,hn] at this;cases this
 split
 ·rw [gdA p q (hne j oZ)];exact q3 j oZ
 ·split
  ·rw [jwA p k hq];exact hc
  ·rw [gdA p q (hne _ oZ)];exact q3 _ oZ
theorem slot_ne {A:Nat→Prop} {w:World} {b:Nat} {kv lv:Value} {p:Nat→Bool} (hS:RS A w b kv lv p):kv.ownBlock≠some b∧lv.ownBlock≠some b∧∀ k,kv.ownBlock=some k→lv.ownBlock≠some k:=by
 obtain ⟨Q,h1,h2,h3⟩:=hS.hl;refine ⟨Own.apart hS.hk hS.hb dZ,Own.apart h2 hS.hb dZ,λ k hk=>?_⟩;obtain ⟨cur,hc⟩:=asA hS.hk hk;exact Own.apart h2 hc dZ
theorem etA {base e s n:Nat} {w:World} {v:Value} {cs:List Value} (h:Own base e s w v n cs):v.cells=[v].toArray∧v.oneCell'=true:=by
 rcases h.2 with ⟨rfl,_⟩|⟨g,cap,cur,rfl,_⟩
 ·exact ⟨rfl,rfl⟩
 ·exact ⟨rfl,rfl⟩
theorem put_s {w:World} {b:Nat} {kv lv vc:Value} {p q:Nat→Bool} (hS:RS A w b kv lv p) {k:Nat} (hk:k<65536) (hc:Cn (λ j=>A j∧kv.ownBlock≠some j) w vc q (apA q)) (hq:∀ i,65536≤i→q i=false) (hq0:0<cnt q 65536) :
 Fc Tryz.prog 75 #[.pointer (some ⟨b,0,none⟩),.int .u16 k,vc] w (λ en w'=>en=.returned (.tuple #[])∧Mut A w b kv lv (upd p k q) w'):=by
 have hf:∀ w',Ext w w'→_:=λ w' e=>vsA (B:=TT) (.inr ⟨b,kv,lv,rfl,hS.ext e,λ _ _=>trivial⟩) hk
 obtain ⟨Q,q1,q2,q3⟩:=hS.hl;obtain ⟨qc,rfl,hqc⟩:=hc.qd;have nkl:=jdA p;obtain ⟨i,hi⟩:∃ i,i=cnt (ne p) k:=⟨_,rfl⟩;cases hn:ne p k
 ·have hle:i≤nk p:=by rw [hi];exact cnt_mono _ _ oZ
  have hfin:∀ w' kv' lv',_:=λ w' kv' lv'=>hS.ins (w':=w') (kv':=kv') (lv':=lv') hk hn hq hq0 q1 q3 hc
  rw [← hi] at hf hfin;rw [hn] at hf;have hsn:=slot_ne hS;have hkl:=bfA p;have hcq:b5A (Q.take i++[qc]++Q.drop i)=(b5A Q).take (i*4)++qcs qc++(b5A Q).drop (i*4):=by
   rw [cwA,cwA,g8A,g9A];rfl
  have hmap:((b7A p).map (Value.int .u16)).take (i*1)++[.int .u16 (k:Int)]++((b7A p).map (Value.int .u16)).drop (i*1)=((b7A p).take i++[(k:Int)]++(b7A p).drop i).map (Value.int .u16):=by
   rw [Nat.mul_one,List.map_append,List.map_append,List.map_take,List.map_drop];rfl
  have hlen:((b7A p).take i++[(k:Int)]++(b7A p).drop i).length=nk p+1:=by
   simp only [List.length_append,List.length_take,List.length_drop,List.length_singleton];omega
  have h1c:∀ c ∈ (b7A p).map (Value.int .u16),c.oneCell'=true:=λ c hc'=>by
   obtain ⟨y,_,rfl⟩:=List.mem_map.1 hc';rfl
  have h1q:∀ c ∈ b5A Q,c.oneCell'=true:=λ c hc'=>by
   obtain ⟨j,j1,j2⟩:=joA Q c hc';obtain ⟨qd,e1,e2⟩:=(q3 j oZ).qd;have:Q.getD j q0=qd:=ndA e1;exact e2 c (this▸j2)
  have hk0:=hS.hk;unfold OwnI at hk0;rw [hkl] at hk0;clear hi;refine Fc.of (args:=[_,_,_]) Tryz.func75 rfl rfl Tryz.ntmps75 nZ ?_
  repeat' (first|(refine yL ?_;first|refine yB ?_|(refine oBx ?_;refine j3A rfl rfl ?_;refine s5A (hK [] _ (awA 5 rfl (λ v5 w5 e5 h5=>?_)));clear hK K;obtain ⟨b5,hb5,rfl,h5⟩:=h5;have hS5:=hS.ext e5)|(refine oNc ?_;refine a8A rfl rfl ?_)|(refine oF 0 ?_;refine a2A (a':=⟨b,0,none⟩) rfl rfl (λ _=>rfl) ?_)|(refine oF 1 ?_;refine a2A (a':=⟨b,1,none⟩) rfl rfl (λ _=>rfl) ?_)|(refine oLt 27 ?_;refine a7A (c:=kv) rfl (λ _=>rfl) rfl hS5.hb rfl ?_)|(refine oLt 92 ?_;refine a7A (c:=lv) rfl (λ _=>rfl) rfl hS5.hb rfl ?_)|(refine oD 30 ?_;refine e7A rfl c5A rfl rfl ?_)|(refine oD 38 ?_;refine grA (base:=w5.heap.size) (s:=4) (Nat.le_refl _) rfl d8A rfl rfl dZ ?_)|(refine oLd ?_;refine brA (n:=4) rfl h5 rfl rfl (λ _=>rfl) (λ _=>rfl) ?_)|refine yO ?_|(refine yC ?_ ?_<;>intro hc)|(refine yV ?_;first|(refine oC 110 ?_;refine a5A (f:=110) rfl rfl rfl rfl  (.tup2 (.val (.int .i64 i)) (.val (.bool false))) (by intro u1 u2 w e hu1 hu2;(try obtain rfl:u1=_:=hu1);(try obtain rfl:u2=_:=hu2);exact hf _ (e5.trans e)) ?_))|(refine yN hK ?_;clear hK K))|(refine oCX ?_;first|refine b4A (id:=4) [9,17,20,23] kZ kZ kZ (a9A ?_))|refine wG ?_|(refine yR ?_;intro K hK)|refine wPh ?_|fail)
  have lkv:∀ k,kv.ownBlock=some k→k<w.heap.size:=λ k h=>hS.lt (.inr (.inl h))
  have llv:∀ k,lv.ownBlock=some k→k<w.heap.size:=λ k h=>hS.lt (.inr (.inr h))
  have sz5:=e5.size;refine kpA (v3:=undef) (f:=111) rfl rfl rfl rfl rfl (λ w v w'=>Own 0 tK 1 w' v (nk p+1) (((b7A p).map (Value.int .u16)).take (i*1)++[.int .u16 (k:Int)]++((b7A p).map (Value.int .u16)).drop (i*1))∧Fr (λ k=>kv.ownBlock=some k) w w'∧LocR w kv v) (λ u3 w1 e1 hu3=>?_) (λ kv' w1 w2 e1 hR=>⟨(38,.pred (j6A w5.heap.size tC 4 1 (qv qc).cells.toList))::_,λ t u _ hu=>ifA (λ u hu=>?_) bkA t u hu,a9A ?_⟩)
  ·exact tuA w1 0 _ kv u3 (nk p) i _ _ (hk0.ext (e5.trans e1)) hu3 hle (λ k h1 h2=>by have:=(Own.lt hu3 k h1).1;have:=lkv k h2;omega) h1c (λ c hc'=>by rw [List.mem_singleton] at hc';subst hc';rfl) oZ oZ
  ·exact hR.2.1.own hu (λ k h1 h2=>by have:=(Own.lt hu k h1).1;have:=lkv k h2;omega)
  obtain ⟨r1,r2,r3⟩:=hR;rw [hmap] at r1;have hb2:=r2.at (e1.block hS5.hb) (λ h=>hsn.1 h);have h52:=r2.at (e1.block h5) (λ h=>by have:=lkv _ h;omega);have q22:Own 0 tC 4 w2 lv (nk p) (b5A Q):=r2.own (q2.ext (e5.trans e1)) (λ k h1 h2=>hsn.2.2 k h2 h1);have sz2:=Nat.le_trans e1.size r2.size
  repeat' (first|(refine yL ?_;first|refine yB ?_|(refine oNc ?_;refine a8A rfl rfl ?_)|(refine oF 0 ?_;refine a2A (a':=⟨b,0,none⟩) rfl rfl (λ _=>rfl) ?_)|(refine oF 1 ?_;refine a2A (a':=⟨b,1,none⟩) rfl rfl (λ _=>rfl) ?_)|(refine oLt 27 ?_;refine a7A (c:=kv) rfl (λ _=>rfl) rfl hb2 rfl ?_)|(refine oLt 92 ?_;refine a7A (c:=lv) rfl (λ _=>rfl) rfl hb2 rfl ?_)|(refine oD 38 ?_;refine grA (base:=w5.heap.size) (s:=4) sz2 rfl d8A rfl rfl dZ ?_)|(refine oLd ?_;refine brA (n:=4) rfl h52 rfl rfl (λ _=>rfl) (λ _=>rfl) ?_)|refine yO ?_|(refine yC ?_ ?_<;>intro hc)|(refine yN hK ?_;clear hK K))|refine wG ?_|(refine yR ?_;intro K hK)|refine wPh ?_|fail)
  refine kpA (v3:=undef) (f:=112) rfl rfl rfl rfl rfl (λ w v w'=>Own 0 tC 4 w' v (nk p+1) ((b5A Q).take (i*4)++(qv qc).cells.toList++(b5A Q).drop (i*4))∧Fr (λ k=>lv.ownBlock=some k) w w'∧LocR w lv v) (λ u3 w3 e3 hu3=>?_) (λ lv' w3 w4 e3 hR=>⟨_,λ t u _ hu=>bkA t u hu,a9A ?_⟩)
  ·exact ttA w3 0 _ lv u3 (nk p) i _ _ (q22.ext e3) hu3 hle (λ k h1 h2=>by have:=(Own.lt hu3 k h1).1;have:=llv k h2;omega) h1q hqc oZ oZ
  obtain ⟨s1,s2,s3⟩:=hR;have hcq':(b5A Q).take (i*4)++(qv qc).cells.toList++(b5A Q).drop (i*4)=b5A (Q.take i++[qc]++Q.drop i):=hcq.symm;rw [hcq'] at s1;have hb4:=s2.at (e3.block hb2) (λ h=>hsn.2.1 h);have r14:=s2.own (r1.ext e3) (λ k h1 h2=>by
   obtain ⟨cur,hcur⟩:=asA (r1.ext e3) h1;exact Own.apart (q22.ext e3) hcur dZ h2)
  obtain ⟨ck1,ck2⟩:=etA r14;obtain ⟨cl1,cl2⟩:=etA s1;have hF4:Fr (onw b kv lv) w w4:=(((Fr.of (e5.trans e1)).trans (r2.mono λ k h=>.inr (.inl h))).trans (Fr.of e3)).trans (s2.mono λ k h=>.inr (.inr h))
  repeat' (first|(refine yL ?_;first|refine yB ?_|(refine oNc ?_;refine a8A rfl rfl ?_)|(refine oF 0 ?_;refine a2A (a':=⟨b,0,none⟩) rfl rfl (λ _=>rfl) ?_)|(refine oF 1 ?_;refine a2A (a':=⟨b,1,none⟩) rfl rfl (λ _=>rfl) ?_)|(refine oLt 27 ?_;refine a7A (c:=kv) rfl (λ _=>rfl) rfl hb4 rfl ?_)|(refine oLt 92 ?_;refine a7A (c:=lv) rfl (λ _=>rfl) rfl hb4 rfl ?_)|refine yO ?_|(refine yC ?_ ?_<;>intro hc)|(refine yN hK ?_;clear hK K))|refine wG ?_|(refine yR ?_;intro K hK)|refine wPh ?_|fail)
  refine eoA (news:=[kv']) rfl rfl rfl hb4 ck1 (λ _=>rfl) nZ (λ u hu=>by rw [List.mem_singleton] at hu;subst hu;exact ck2) (λ w6 e6=>⟨_,λ t u hu=>bkA t u hu,a9A ?_⟩);have hb6:(w6.setRow b #[kv',lv]).heap[b]?=_:=setRow_heap w6 b _ _ _ _ (e6.block hb4);obtain ⟨w7,hw7⟩:∃ w7,w7=w6.setRow b #[kv',lv]:=⟨_,rfl⟩;have hF7:Fr (onw b kv lv) w w7:=hw7▸((hF4.trans (Fr.of e6)).setRow (.inl rfl) _);have r17:OwnI 0 tK .u16 w7 kv' ((b7A p).take i++[(k:Int)]++(b7A p).drop i):=by unfold OwnI;rw [hlen];exact hw7▸Own.setRow (r14.ext e6) _ (Own.apart (r14.ext e6) (e6.block hb4) dZ)
  have s17:Own 0 tC 4 w7 lv' (nk p+1) (b5A (Q.take i++[qc]++Q.drop i)):=hw7▸Own.setRow (s1.ext e6) _ (Own.apart (s1.ext e6) (e6.block hb4) dZ);rw [show (#[kv,lv].toList.take 0++[kv']++#[kv,lv].toList.drop (0+[kv'].length)).toArray=#[kv',lv] from rfl];rw [← hw7] at hb6 ⊢;clear hw7
  repeat' (first|(refine yL ?_;first|refine yB ?_|(refine oNc ?_;refine a8A rfl rfl ?_)|(refine oF 0 ?_;refine a2A (a':=⟨b,0,none⟩) rfl rfl (λ _=>rfl) ?_)|(refine oF 1 ?_;refine a2A (a':=⟨b,1,none⟩) rfl rfl (λ _=>rfl) ?_)|(refine oLt 27 ?_;refine a7A (c:=kv) rfl (λ _=>rfl) rfl hb6 rfl ?_)|(refine oLt 92 ?_;refine a7A (c:=lv) rfl (λ _=>rfl) rfl hb6 rfl ?_)|refine yO ?_|(refine yC ?_ ?_<;>intro hc)|(refine yN hK ?_;clear hK K))|refine wG ?_|(refine yR ?_;intro K hK)|refine wPh ?_|fail)
  refine eoA (news:=[lv']) rfl rfl rfl hb6 cl1 (λ _=>rfl) nZ (λ u hu=>by rw [List.mem_singleton] at hu;subst hu;exact cl2) (λ w8 e8=>⟨_,λ t u hu=>bkA t u hu,b3A ?_⟩);have hb8:(w8.setRow b #[kv',lv']).heap[b]?=_:=setRow_heap w8 b _ _ _ _ (e8.block hb6);obtain ⟨w9,hw9⟩:∃ w9,w9=w8.setRow b #[kv',lv']:=⟨_,rfl⟩;have hF9:Fr (onw b kv lv) w w9:=hw9▸((hF7.trans (Fr.of e8)).setRow (.inl rfl) _);have r19:OwnI 0 tK .u16 w9 kv' ((b7A p).take i++[(k:Int)]++(b7A p).drop i):=hw9▸Own.setRow (r17.ext e8) _ (Own.apart (r17.ext e8) (e8.block hb6) dZ);have s19:Own 0 tC 4 w9 lv' (nk p+1) (b5A (Q.take i++[qc]++Q.drop i)):=hw9▸Own.setRow (s17.ext e8) _ (Own.apart (s17.ext e8) (e8.block hb6) dZ);have sz3:=Nat.le_trans sz2 e3.size;rw [show (#[kv',lv].toList.take 1++[lv']++#[kv',lv].toList.drop (1+[lv'].length)).toArray=#[kv',lv'] from rfl];rw [← hw9] at hb8 ⊢;clear hw9
  repeat' (first|(refine yL ?_;first|refine yB ?_|(refine oNc ?_;refine a8A rfl rfl ?_)|(refine oF 0 ?_;refine a2A (a':=⟨b,0,none⟩) rfl rfl (λ _=>rfl) ?_)|(refine oF 1 ?_;refine a2A (a':=⟨b,1,none⟩) rfl rfl (λ _=>rfl) ?_)|(refine oLt 27 ?_;refine a7A (c:=kv) rfl (λ _=>rfl) rfl hb8 rfl ?_)|(refine oLt 92 ?_;refine a7A (c:=lv) rfl (λ _=>rfl) rfl hb8 rfl ?_)|refine yO ?_|(refine yC ?_ ?_<;>intro hc)|(refine yN hK ?_;clear hK K))|refine wG ?_|(refine yR ?_;intro K hK)|refine wPh ?_|fail)
  refine clA rfl (λ w2 e2=>⟨rfl,?_⟩) (.inl rfl);exact hfin w2 kv' lv' (hF9.trans (Fr.of e2)) (e2.block hb8) (r19.ext e2) (s19.ext e2) (r3.le (Nat.le_trans e5.size e1.size)) (s3.le oZ)
 ·obtain ⟨i1,i2⟩:=toA hk hn
  have hfin:∀ w',_:=λ w'=>hS.set (w':=w') hk hn hq hq0 q1 q3 hc
  rw [← hi] at i1 hf hfin;rw [hn] at hf;have hset:=oyA Q i qc oZ
  rcases q2.2 with ⟨_,h0⟩|⟨gl,cap,cur,rfl,-,hg,hnc,hm,hsz,htake⟩
  ·omega
  have hsn:=slot_ne hS;have hsetN:=λ (w1:World) (hg1:w1.heap[gl]?=some (.cells cur tC (0,0)))=>Own.setN (e:=tC) (s:=4) (news:=qcs qc) q2.1 hg1 hnc hm hsz htake i1 rfl
  clear hi;refine Fc.of (args:=[_,_,_]) Tryz.func75 rfl rfl Tryz.ntmps75 nZ ?_
  repeat' (first|(refine yL ?_;first|refine a0A rfl ?_|(refine oBx ?_;refine scA rfl rfl ?_)|(refine oNc ?_;refine a8A rfl rfl ?_)|(refine oF 0 ?_;refine a2A (a':=⟨b,0,none⟩) rfl rfl (λ _=>rfl) ?_)|(refine oF 1 ?_;refine a2A (a':=⟨b,1,none⟩) rfl rfl (λ _=>rfl) ?_)|(refine oLt 27 ?_;refine a7A (c:=kv) rfl (λ _=>rfl) rfl hS.hb rfl ?_)|(refine oLt 92 ?_;refine a7A (c:=.slice (some ⟨gl,0,none⟩) (nk p) cap) rfl (λ _=>rfl) rfl hS.hb rfl ?_)|(refine oI ?_;refine biA (s:=4) rfl rfl (λ _=>rfl) rfl rfl oZ oZ ?_;rw [Int.toNat_natCast,Nat.zero_add])|(refine oLd ?_;refine odA rfl (λ _=>rfl) (λ _=>rfl) rfl ?_)|(refine a3A (hK _ _ rfl (rxA (news:=qcs qc) rfl rfl rfl hg rfl (λ _=>rfl) (by rw [hsz];show i*4+4≤cap*4;omega) hqc (λ w1 e1=>?_)));clear hK K)|refine yO ?_|(refine yC ?_ ?_<;>intro hc)|(refine yV ?_;first|(refine oC 110 ?_;refine a5A (f:=110) rfl rfl rfl rfl  (.tup2 (.val (.int .i64 i)) (.val (.bool true))) (by intro u1 u2 w e hu1 hu2;(try obtain rfl:u1=_:=hu1);(try obtain rfl:u2=_:=hu2);exact hf _ e) ?_))|(refine yN hK ?_;clear hK K))|(refine oCX ?_;first|refine c3A 7 kZ kZ kZ (λ K hK=>?_))|refine wG ?_|(refine yR ?_;intro K hK)|fail)
  refine clA rfl (λ w2 e2=>⟨rfl,?_⟩) (.inr rfl);have hS1:=hS.ext e1;have hne:b≠gl:=λ e=>hsn.2.1 (by rw [e];rfl)
  refine hfin w2 (((Fr.of e1).setRow (.inr (.inr rfl)) _).trans (Fr.of e2)) (e2.block (m3A _ hS1.hb hne)) (OwnI.ext (Own.setRow hS1.hk _ (Own.apart hS1.hk (e1.block hg) dZ)) e2) ?_
  rw [hset];exact (hsetN w1 (e1.block hg)).ext e2
end Go.Proofs.YtbokphkfojijoaaGreatDoor
end
section
namespace Go.Proofs.YtbokphkfojijoaaGreatDoor
open Go.LA Go.ArrP Go.RowKit
variable {A B:Nat→Prop}
structure Pts (A:Nat→Prop) (w:World) (v:Value) (p:Nat→Bool) (lv:Value) (Q:List Qd):Prop where
 len:Q.length=nk p
 own:Own 0 tC 4 w lv (nk p) (b5A Q)
 cn:∀ i,i<nk p→Cn A w (qv (Q.getD i q0)) (blk p (kp p i)) (apA (blk p (kp p i)))
 set:0<nk p→∃ b kv,v=.pointer (some ⟨b,0,none⟩)∧w.heap[b]?=some (.cells #[kv,lv] tS (0,0))∧OwnI 0 tK .u16 w kv (b7A p)
theorem Pts.ext {w w':World} {v:Value} {p:Nat→Bool} {lv:Value} {Q:List Qd} (h:Pts A w v p lv Q) (e:Ext w w'):Pts A w' v p lv Q :=
 ⟨h.len,h.own.ext e,λ i hi=>(h.cn i hi).ext e,λ h0=>by
  obtain ⟨b,kv,h1,h2,h3⟩:=h.set h0;exact ⟨b,kv,h1,e.block h2,h3.ext e⟩⟩
theorem Pts.at {w:World} {v:Value} {p:Nat→Bool} {lv:Value} {Q:List Qd} (h:Pts A w v p lv Q) {i:Nat} (hi:i<nk p):((b5A Q).drop (i*4)).take 4=qcs (Q.getD i q0)∧Cn A w (qv (Q.getD i q0)) (blk p (kp p i)) (apA (blk p (kp p i)))∧∀ u ∈ qcs (Q.getD i q0),u.oneCell'=true:=by
 refine ⟨fqA Q i (by have:=h.len;omega),h.cn i hi,?_⟩;obtain ⟨q,h1,h2⟩:=(h.cn i hi).qd;rw [ndA h1];exact h2
theorem qjA {w:World} {v:Value} {p:Nat→Bool} (h:NSet B A w v p):∃ lv Q,Pts A w v p lv Q∧∀ w',Ext w w'→Fc Tryz.prog 58 #[v] w' (Ret w' (.val lv)):=by
 rcases h with ⟨rfl,rfl⟩|⟨b,kv,lv,rfl,hS,-⟩
 ·refine ⟨nilS,[],⟨by rw [fiA];rfl,by rw [fiA];exact Own.nil,λ i hi=>by rw [fiA] at hi;omega,λ hi=>by rw [fiA] at hi;omega⟩,λ w' e=>?_⟩
  refine Fc.of (args:=[_]) Tryz.func58 rfl rfl Tryz.ntmps58 nZ ?_
  repeat' (first|(refine yL ?_;first|refine a0A rfl ?_|(refine oEq ?_;refine bsA (c:=.bool true) rfl rfl rfl (λ _=>rfl) ?_)|refine yO ?_|(refine yC ?_ ?_<;>intro hc)|(refine yN hK ?_;clear hK K))|refine wG ?_|(refine yR ?_;intro K hK)|fail)
  exact ajA rfl rfl (Ext.refl _) rfl
 ·obtain ⟨Q,q1,q2,q3⟩:=hS.hl
  refine ⟨lv,Q,⟨q1,q2,λ i hi=>(q3 i hi).mono λ k _ h=>h.1,λ _=>⟨b,kv,rfl,hS.hb,hS.hk⟩⟩,λ w' e=>?_⟩;replace hS:=hS.ext e;refine Fc.of (args:=[_]) Tryz.func58 rfl rfl Tryz.ntmps58 nZ ?_
  repeat' (first|(refine yL ?_;first|refine a0A rfl ?_|(refine oEq ?_;refine bsA (c:=.bool false) rfl rfl rfl (λ _=>rfl) ?_)|(refine oNc ?_;refine a8A rfl rfl ?_)|(refine oF 0 ?_;refine a2A (a':=⟨b,0,none⟩) rfl rfl (λ _=>rfl) ?_)|(refine oF 1 ?_;refine a2A (a':=⟨b,1,none⟩) rfl rfl (λ _=>rfl) ?_)|(refine oLt 27 ?_;refine a7A (c:=kv) rfl (λ _=>rfl) rfl hS.hb rfl ?_)|(refine oLt 92 ?_;refine a7A (c:=lv) rfl (λ _=>rfl) rfl hS.hb rfl ?_)|refine yO ?_|(refine yC ?_ ?_<;>intro hc)|(refine yN hK ?_;clear hK K))|refine wG ?_|(refine yR ?_;intro K hK)|fail)
  exact ajA rfl rfl (Ext.refl _) rfl
theorem vqA {w:World} {v:Value} {p:Nat→Bool} (h:NSet B A w v p):Fc Tryz.prog 64 #[v] w (Ret w (.pred (axA w.heap.size tK .u16 (b7A p)))):=by
 rcases h with ⟨rfl,rfl⟩|⟨b,kv,lv,rfl,hS,-⟩
 ·rw [ldA]
  refine Fc.of (args:=[_]) Tryz.func64 rfl rfl Tryz.ntmps64 nZ ?_
  repeat' (first|(refine yL ?_;first|refine a0A rfl ?_|(refine oEq ?_;refine bsA (c:=.bool true) rfl rfl rfl (λ _=>rfl) ?_)|refine yO ?_|(refine yC ?_ ?_<;>intro hc)|(refine yN hK ?_;clear hK K))|refine wG ?_|(refine yR ?_;intro K hK)|fail)
  exact aiA rfl rfl (Ext.refl _) (λ v _ _ hv=>by obtain rfl:v=_:=hv;exact OwnI.nil)
 ·have hn:(b7A p).length≤65536:=by rw [bfA];exact jdA p
  refine Fc.of (args:=[_]) Tryz.func64 rfl rfl Tryz.ntmps64 nZ ?_
  repeat' (first|(refine yL ?_;first|refine a0A rfl ?_|(refine oEq ?_;refine bsA (c:=.bool false) rfl rfl rfl (λ _=>rfl) ?_)|(refine oNc ?_;refine a8A rfl rfl ?_)|(refine oF 0 ?_;refine a2A (a':=⟨b,0,none⟩) rfl rfl (λ _=>rfl) ?_)|(refine oF 1 ?_;refine a2A (a':=⟨b,1,none⟩) rfl rfl (λ _=>rfl) ?_)|(refine oLt 27 ?_;refine a7A (c:=kv) rfl (λ _=>rfl) rfl hS.hb rfl ?_)|(refine oLt 92 ?_;refine a7A (c:=lv) rfl (λ _=>rfl) rfl hS.hb rfl ?_)|refine yO ?_|(refine yC ?_ ?_<;>intro hc)|(refine yV ?_;first|(refine oC 99 ?_;refine a1A (f:=99) rfl rfl rfl  (.pred (axA w.heap.size tK .u16 (b7A p))) (by intro u1 w e hu1;(try obtain rfl:u1=_:=hu1);exact (inA _ _ _ (hS.hk.ext e).slI hn).mono (a6A e.size)) ?_))|(refine yN hK ?_;clear hK K))|refine wG ?_|(refine yR ?_;intro K hK)|fail)
  exact aiA rfl rfl (Ext.refl _) (λ _ _ _ hv=>hv)
theorem len_s {w:World} {v:Value} {p:Nat→Bool} (h:NSet B A w v p):Fc Tryz.prog 43 #[v] w (Ret w (.val (.int .i64 (cnt p TOP)))):=by
 obtain ⟨lv,Q,hP,hL⟩:=qjA h;have hnk:=jdA p;have hct:=cnt_le p TOP;have htop:=enA;refine Fc.of (args:=[_]) Tryz.func43 rfl rfl Tryz.ntmps43 nZ ?_
 repeat' (first|(refine yL ?_;first|refine a0A rfl ?_|(refine d3A ?_;refine azA rfl _ rfl rfl (HasC.ownV hP.own) ?_)|refine yO ?_|(refine yC ?_ ?_<;>intro hc)|(refine yV ?_;first|(refine oC 58 ?_;refine a1A (f:=58) rfl rfl rfl  (.val lv) (by intro u1 w e hu1;(try obtain rfl:u1=_:=hu1);exact hL _ e) ?_))|(refine yN hK ?_;clear hK K))|refine wG ?_|(refine yR ?_;intro K hK)|fail)
 refine ciA (ι:=Nat) (λ i=>[(0,.val v),(3,.val (.int .i64 (cnt p (kp p i*65536)))),(7,.val lv),(8,.val (.int .i64 (nk p))),(9,.val (.int .i64 i))]) (λ i=>i≤nk p) (λ i=>nk p-i) 0 (Nat.zero_le _) (by rw [trA];(repeat' (first|exact Sub.nil|(refine Sub.val rfl ?_ ?_;first|with_reducible rfl|(congr 1;omega))|refine Sub.same rfl ?_));done) ?_
 intro i hi;have hle:=cnt_mono p (m:=kp p i*65536) TOP (by have:=kp_le p i;omega)
 by_cases hil:i<nk p
 ·obtain ⟨hat,hcn,h1⟩:=hP.at hil
  have hkc:=x6A hil;have hb6:=cnt_le (blk p (kp p i)) 65536
  repeat' (first|(refine yL ?_;first|refine a0A rfl ?_|(refine oI ?_;refine c9A (s:=4) rfl _ rfl (λ _=>rfl) rfl (HasC.ownV hP.own) rfl i rfl oZ ?_;rw [hat])|(refine oLt 96 ?_;refine atA (cs:=qcs _) rfl (λ _=>rfl) (λ _=>rfl) rfl ?_)|(refine oD 5 ?_;refine a3A (hK _ _ (crA rfl rfl dZ (λ _=>rfl) (λ _=>rfl) (λ _=>rfl) rfl h1 (λ bx wx ex hbx hbc=>?_)));clear hK K;refine abA kZ (λ K hK=>?_))|(refine oD 14 ?_;refine brA (n:=4) rfl hbc rfl rfl (λ _=>rfl) (λ _=>rfl) ?_)|refine yO ?_|(refine yC ?_ ?_<;>intro hc)|(refine yV ?_;first|(refine oC 65 ?_;refine a1A (f:=65) rfl rfl rfl  (.val (.int .i64 (cnt (blk p (kp p i)) 65536))) (by intro u1 w e hu1;(try obtain rfl:u1=_:=hu1);exact idA (hcn.ext (ex.trans e))) ?_))|(refine yN hK ?_;clear hK K))|refine wG ?_|(refine yR ?_;intro K hK)|fail)
  exact xzA ex (i+1) hil oZ (by rw [hkc];(repeat' (first|exact Sub.nil|(refine Sub.val rfl ?_ ?_;first|with_reducible rfl|(congr 1;omega))|refine Sub.same rfl ?_));done)
 ·obtain rfl:i=nk p:=oZ
  rw [qoA] at hle ⊢
  repeat' (first|(refine yL ?_;first|refine a0A rfl ?_|refine yO ?_|(refine yC ?_ ?_<;>intro hc)|(refine yN hK ?_;clear hK K))|refine wG ?_|(refine yR ?_;intro K hK)|fail)
  exact ajA rfl rfl (Ext.refl _) rfl
end Go.Proofs.YtbokphkfojijoaaGreatDoor
end
section
namespace Go.Proofs.YtbokphkfojijoaaGreatDoor
open Go.LA Go.ArrP Go.RowKit
variable {A B:Nat→Prop}
theorem at_s {w:World} {v:Value} {p:Nat→Bool} (h:NSet B A w v p) {i:Nat} (hi:i<nk p):Fc Tryz.prog 97 #[v,.int .i64 i] w (Ret w (.tup2 (.pred (cnP A (blk p (kp p i)) (apA (blk p (kp p i))))) (.val (.bool true)))):=by
 obtain ⟨lv,Q,hP,hL⟩:=qjA h;have hnk:=jdA p;obtain ⟨b,kv,rfl,hb,hkk⟩:=hP.set oZ;obtain ⟨hat,hcn,h1⟩:=hP.at hi;refine Fc.of (args:=[_,_]) Tryz.func97 rfl rfl Tryz.ntmps97 nZ ?_
 repeat' (first|(refine yL ?_;first|refine a0A rfl ?_|(refine oAl ?_;refine bmA rfl (λ _=>rfl) ?_)|(refine d3A ?_;refine azA rfl _ rfl rfl (HasC.ownV hP.own) ?_)|(refine oNc ?_;refine a8A rfl rfl ?_)|(refine oF 0 ?_;refine a2A (a':=⟨b,0,none⟩) rfl rfl (λ _=>rfl) ?_)|(refine oF 1 ?_;refine a2A (a':=⟨b,1,none⟩) rfl rfl (λ _=>rfl) ?_)|(refine oLt 27 ?_;refine a7A (c:=kv) rfl (λ _=>rfl) rfl hb rfl ?_)|(refine oLt 92 ?_;refine a7A (c:=lv) rfl (λ _=>rfl) rfl hb rfl ?_)|(refine oI ?_;refine c9A (s:=4) rfl _ rfl (λ _=>rfl) rfl (HasC.ownV hP.own) rfl i rfl oZ ?_;rw [hat])|(refine oLt 96 ?_;refine atA (cs:=qcs _) rfl (λ _=>rfl) (λ _=>rfl) rfl ?_)|(refine a3A (hK _ _ (c2A (φ:=cnP A (blk p (kp p i)) (apA (blk p (kp p i)))) (w0:=w) rfl rfl rfl b2A (λ v' w' e hv=>by obtain rfl:v'=_:=hv;exact hcn.ext e) rfl (λ _=>rfl) (Ext.refl _) (λ w' e'=>?_)));clear hK K;refine abA kZ (λ K hK=>?_))|refine yO ?_|(refine yC ?_ ?_<;>intro hc)|(refine yV ?_;first|(refine oC 58 ?_;refine a1A (f:=58) rfl rfl rfl  (.val lv) (by intro u1 w e hu1;(try obtain rfl:u1=_:=hu1);exact hL _ e) ?_))|(refine yN hK ?_;clear hK K))|refine wG ?_|(refine yR ?_;intro K hK)|fail)
 all_goals exact huA rfl rfl rfl rfl rfl rfl (by assumption)
theorem RS.self {A:Nat→Prop} {w:World} {b:Nat} {kv lv:Value} {p:Nat→Bool} (h:RS A w b kv lv p):RS (λ k=>A k∧kv.ownBlock≠some k) w b kv lv p:=h.mono λ k _ ha hb=>⟨ha,hb⟩
end Go.Proofs.YtbokphkfojijoaaGreatDoor
end
section
namespace Go.Proofs.YtbokphkfojijoaaGreatDoor
open Go.LA Go.ArrP Go.RowKit
variable {A B:Nat→Prop}
def rng (p:Nat→Bool) (lo hi y:Nat):Bool:=p y || (decide (lo≤y) && decide (y<hi))
theorem k2A (p:Nat→Bool) {lo hi:Nat} (h:hi≤lo):rng p lo hi=p:=by
 funext y;unfold rng
 by_cases h1:lo≤y
 ·rw [decide_eq_false (show ¬ y<hi by omega),Bool.and_false,Bool.or_false]
 ·rw [decide_eq_false h1,Bool.false_and,Bool.or_false]
theorem w3A (p:Nat→Bool) {lo0 lo e k:Nat} (h0:lo0≤lo) (h1:lo<e) (hk1:k*65536≤lo) (hk2:e≤(k+1)*65536) {a c:Int} (ha:a=(lo:Int)-(k:Int)*65536) (hc:c=(e:Int)-(k:Int)*65536) :
 upd (rng p lo0 lo) k (two (λ x y=>x || y) (blk (rng p lo0 lo) k) (flp (λ _=>false) a c))=rng p lo0 e:=by
 funext y
 have hdm:=Nat.div_add_mod y 65536;have hml:=Nat.mod_lt y (show 0<65536 by decide);unfold upd
 by_cases hy:y / 65536=k
 ·rw [if_pos hy]
  have hyy:k*65536+y % 65536=y:=by rw [← hy,Nat.mul_comm];exact hdm
  have h2:blk (rng p lo0 lo) k (y % 65536)=rng p lo0 lo y:=by rw [cyA hml,hyy]
  have h3:flp (λ _=>false) a c (y % 65536)=(decide (lo≤y) && decide (y<e)):=by
   unfold flp two h2A doA;rw [decide_eq_true hml,Bool.and_true];have e1:decide (a≤((y % 65536:Nat):Int))=decide (lo≤y):=decide_eq_decide.2 oZ;have e2:decide (((y % 65536:Nat):Int)<c)=decide (y<e):=decide_eq_decide.2 oZ;rw [e1,e2];cases decide (lo≤y) <;> cases decide (y<e) <;> rfl
  show (blk (rng p lo0 lo) k (y % 65536) || flp (λ _=>false) a c (y % 65536))=_
  rw [h2,h3];unfold rng;rw [Bool.or_assoc];congr 1;rw [Bool.eq_iff_iff];simp only [Bool.or_eq_true,Bool.and_eq_true,decide_eq_true_eq];omega
 ·rw [if_neg hy]
  unfold rng;congr 1;rw [Bool.eq_iff_iff];simp only [Bool.and_eq_true,decide_eq_true_eq];have hks:=fjA k;omega
theorem xcA {p:Nat→Bool} {lo hi:Int} {i:Nat} (h1:lo≤(i:Int)) (h2:(i:Int)<hi) (h3:i<65536):flp p lo hi i=!p i:=by
 unfold flp two h2A doA;rw [decide_eq_true h1,decide_eq_true h2,decide_eq_true h3];cases p i <;> rfl
theorem xjA {q:Nat→Bool} {r n:Nat} (h:r<n) (hr:q r=true):0<cnt q n:=by
 have h1:cnt q (r+1)=cnt q r+1:=by simp only [cnt,hr,if_true]
 have h2:=cnt_mono q (m:=r+1) n h;omega
theorem RS.fsh {w:World} {b:Nat} {kv lv:Value} {p:Nat→Bool} (h:RS A w b kv lv p) (hA:Fsh A w):Fsh (λ k=>A k∧kv.ownBlock≠some k) w:=λ k hk=>⟨hA k hk,λ hb=>by have:=h.lt (.inr (.inl hb));omega⟩
theorem RS.nset {w:World} {b:Nat} {kv lv:Value} {p:Nat→Bool} (h:RS A w b kv lv p):NSet TT (λ k=>A k∧kv.ownBlock≠some k) w (.pointer (some ⟨b,0,none⟩)) p:=.inr ⟨b,kv,lv,rfl,h.self,λ _ _=>trivial⟩
theorem Mut.from {w w1 w':World} {b:Nat} {kv lv:Value} {p':Nat→Bool} (e:Ext w w1) (h:Mut A w1 b kv lv p' w'):Mut A w b kv lv p' w':=by
 obtain ⟨kv',lv',h1,h2,h3,h4⟩:=h;exact ⟨kv',lv',h1,(Fr.of e).trans h2,h3.le e.size,h4.le e.size⟩
theorem Mut.ext {w w1 w':World} {b:Nat} {kv lv:Value} {p':Nat→Bool} (h:Mut A w b kv lv p' w1) (e:Ext w1 w'):Mut A w b kv lv p' w':=by
 obtain ⟨kv',lv',h1,h2,h3,h4⟩:=h;exact ⟨kv',lv',h1.ext e,h2.trans (Fr.of e),h3,h4⟩
theorem iaA {w:World} {b:Nat} {kv lv kv' lv':Value} {base:Nat} (hb:∀ k,onw b kv lv k→base≤k) (hs:base≤w.heap.size) (h1:LocR w kv kv') (h2:LocR w lv lv') (k:Nat) (hk:onw b kv' lv' k):base≤k:=by
 rcases hk with rfl|hk|hk
 ·exact hb _ (.inl rfl)
 ·exact h1.ge (λ k hk=>hb k (.inr (.inl hk))) hs k hk
 ·exact h2.ge (λ k hk=>hb k (.inr (.inr hk))) hs k hk
theorem Mut.then {w w1 w':World} {b:Nat} {kv lv kv1 lv1:Value} {p':Nat→Bool} (hf:Fr (onw b kv lv) w w1) (h1:LocR w kv kv1) (h2:LocR w lv lv1) (h:Mut A w1 b kv1 lv1 p' w'):Mut A w b kv lv p' w':=by
 obtain ⟨kv',lv',g1,g2,g3,g4⟩:=h;refine ⟨kv',lv',g1,⟨g2.os.trans hf.os,g2.tape.trans hf.tape,g2.output.trans hf.output,Nat.le_trans hf.size g2.size,λ k hk hn=>?_⟩,h1.trans g3 hf.size,h2.trans g4 hf.size⟩;rw [g2.block k (Nat.lt_of_lt_of_le hk hf.size) (λ h=>hn ?_),hf.block k hk hn]
 rcases h with h|h|h
 ·exact .inl h
 ·rcases h1 with h1|h1
  ·exact .inr (.inl (h1▸h))
  ·have:=h1 k h;omega
 ·rcases h2 with h2|h2
  ·exact .inr (.inr (h2▸h))
  ·have:=h2 k h;omega
theorem p3A {w0 w:World} {b:Nat} {kv lv:Value} {p:Nat→Bool} (h0:Ext w0 w) (hT:Tab w0) (hB:∀ k,onw b kv lv k→w0.heap.size≤k) (hS:RS A w b kv lv p) (hA:Fsh A w) {lo hi:Nat} (hlo:lo<18446744073709551616) (hhi:hi<18446744073709551616) :
 Fc Tryz.prog 33 #[.pointer (some ⟨b,0,none⟩),.int .u64 lo,.int .u64 hi] w (λ en w'=>en=.returned (.tuple #[])∧Mut A w b kv lv (rng p lo (min hi TOP)) w'):=by
 have htop:=enA;obtain ⟨H,hH⟩:∃ H,H=min hi TOP:=⟨_,rfl⟩;have hH2:min (hi:Int) 4294967296=(H:Int):=oZ;have hH3:H≤4294967296:=oZ;rw [← hH];clear hH htop;refine Fc.of (args:=[_,_,_]) Tryz.func33 rfl rfl Tryz.ntmps33 nZ ?_
 repeat' (first|(refine yL ?_;first|refine a0A rfl ?_|(refine djA rfl rfl rfl ?_;rw [hH2])|refine yO ?_|(refine yC ?_ ?_<;>intro hc)|(refine yN hK ?_;clear hK K))|refine wG ?_|(refine yR ?_;intro K hK)|fail)
 refine aaA (ι:=Nat) (λ i=>[(0,.val (.pointer (some ⟨b,0,none⟩))),(1,.val (.int .u64 i)),(2,.val (.int .u64 H))]) (λ i w'=>lo≤i∧(i=lo∨i≤H)∧Mut A w b kv lv (rng p lo i) w') (λ i=>H-i)
  (λ w2 e2=>⟨lo,⟨Nat.le_refl _,.inl rfl,by rw [k2A p (Nat.le_refl _)];exact ⟨kv,lv,hS.ext e2,Fr.of e2,LocR.refl,LocR.refl⟩⟩,sZ⟩) ?_
 rintro i w1 ⟨hi0,hi1,kv1,lv1,hS1,hF1,hl1,hl2⟩;have hB1:=iaA hB h0.size hl1 hl2;have h01:Ext w0 w1:=Fr.ext h0 hF1 hB;have hA1:Fsh A w1:=λ k hk=>hA k (Nat.le_trans hF1.size hk)
 have hF:=hS1.fsh hA1;have hT1:=hT.ext h01
 by_cases hlt:i<H
 ·obtain ⟨k,hk⟩:∃ k,k=i / 65536:=⟨_,rfl⟩
  obtain ⟨e0,he0⟩:∃ e0,e0=min H ((k+1)*65536):=⟨_,rfl⟩;have hks:=fjA k;have k1:k*65536≤i:=oZ;have k2:i<k*65536+65536:=oZ;have k3:k<65536:=oZ;have e1:(i:Int) / 65536=(k:Int):=oZ;have e3:IntKind.u64.wrap ((((i:Int) / 65536)+1)*65536)=((k*65536+65536:Nat):Int):=by rw [e1,ctA .u64 _ fZ];omega
  have e4:IntKind.u64.wrap ((k:Int)*65536)=((k*65536:Nat):Int):=by rw [ctA .u64 _ fZ];omega
  have e5:min (H:Int) ((k*65536+65536:Nat):Int)=(e0:Int):=oZ;have hup:=w3A p (lo0:=lo) (lo:=i) (e:=e0) (k:=k) hi0 oZ k1 oZ (a:=(i:Int)-((k*65536:Nat):Int)) (c:=(e0:Int)-((k*65536:Nat):Int)) oZ oZ;obtain ⟨g,hg⟩:∃ g,g=flp (λ _=>false) ((i:Int)-((k*65536:Nat):Int)) ((e0:Int)-((k*65536:Nat):Int)):=⟨_,rfl⟩;obtain ⟨q,hq⟩:∃ q,q=two (λ x y=>x || y) (blk (rng p lo i) k) g:=⟨_,rfl⟩;rw [← hg,← hq] at hup;have f1:∀ w',Ext w1 w'→∀ u,Cn (λ k=>A k∧kv1.ownBlock≠some k) w' u (λ _=>false) 1→Fc Tryz.prog 78 #[u,.int .i64 ((i:Int)-((k*65536:Nat):Int)),.int .i64 ((e0:Int)-((k*65536:Nat):Int))] w' (Ret w' (.pred (cnP (λ k=>A k∧kv1.ownBlock≠some k) g (apA g)))) :=
   λ w' e u hu=>by rw [hg];exact zhA hu (hT1.ext e) (hF.ext e) _ _ oZ oZ
  have f2:∀ w',Ext w1 w'→∀ u v,Cn (λ k=>A k∧kv1.ownBlock≠some k) w' u (blk (rng p lo i) k) (apA (blk (rng p lo i) k))→Cn (λ k=>A k∧kv1.ownBlock≠some k) w' v g (apA g)→Fc Tryz.prog 77 #[u,v] w' (Ret w' (.pred (cnP (λ k=>A k∧kv1.ownBlock≠some k) q (apA q)))) :=
   λ w' e u v hu hv=>by rw [hq];exact cor_c hu hv (hT1.ext e) (hF.ext e)
  have hq1:∀ i,65536≤i→q i=false:=λ j hj=>by
   rw [hq,hg];unfold two flp two h2A doA;rw [epA oZ,decide_eq_false (show ¬ j<65536 by omega),Bool.and_false];rfl
  have hq2:0<cnt q 65536:=by
   refine xjA (r:=i-k*65536) oZ ?_
   rw [hq,hg];unfold two;rw [xcA oZ oZ oZ];simp
  have f3:∀ w',Ext w1 w'→∀ u,Cn (λ k=>A k∧kv1.ownBlock≠some k) w' u q (apA q)→_:=λ w' (e:Ext w1 w') u hu=>put_s (hS1.ext e) (vc:=u) k3 hu hq1 hq2
  rw [hup] at f3;clear hg hup hq hq1 hq2
  repeat' (first|(refine yL ?_;first|refine a0A rfl ?_|(refine oEq ?_;refine bsA (c:=.bool true) rfl rfl rfl (λ _=>rfl) ?_)|(refine oB .shr ?_;refine j0A rfl rfl rfl dZ dZ ?_;rw [show (2:Int) ^ Int.toNat 16=65536 by decide])|(refine oD 23 ?_;refine gqA rfl rfl rfl dZ dZ ?_;rw [show (2:Int) ^ Int.toNat 16=65536 by decide,e3])|(refine oD 30 ?_;refine gqA rfl rfl rfl dZ dZ ?_;rw [show (2:Int) ^ Int.toNat 16=65536 by decide,e1,e4])|(refine oD 27 ?_;rw [e1];refine ogA (n:=(k:Int)) rfl rfl rfl rfl fZ ?_)|(refine djA rfl rfl rfl ?_;rw [e5])|(refine oAl ?_;refine a3A (hK _ _ (jgA rfl dZ (λ _=>rfl) (λ b9 w9 x9 hb9 h9=>?_)));clear hK K;have c9:Cn (λ k=>A k∧kv1.ownBlock≠some k) w9 (.agg #[.int .u8 0,nilS,nilS,nilS]) (λ _=>false) 1:=Cn.zero;refine abA kZ (λ K hK=>?_))|(refine oLd ?_;refine brA (n:=4) rfl h9 rfl rfl (λ _=>rfl) (λ _=>rfl) ?_)|(refine oC 75 ?_;refine a3A (hK _ _ rfl (awA 46 rfl (λ v17 w17 e17 h17=>dyA rfl dZ rfl rfl rfl rfl (λ v w'=>v=.tuple #[]∧Mut A w b kv lv (rng p lo e0) w') (λ w8 e8=>(f3 _ (x9.trans (e17.trans e8)) _ (Cn.ext h17 e8)).mono λ en w' h=>⟨_,h.1,rfl,(h.2.from (x9.trans (e17.trans e8))).then hF1 hl1 hl2⟩) (λ v w2 hm=>?_))));clear hK K;obtain ⟨rfl,hm⟩:=hm)|refine yO ?_|(refine yC ?_ ?_<;>intro hc)|(refine yV ?_;first|(refine oC 76 ?_;refine a5A (f:=76) rfl rfl rfl rfl  (.pred (cnP (λ k=>A k∧kv1.ownBlock≠some k) (blk (rng p lo i) k) (apA (blk (rng p lo i) k)))) (by intro u1 u2 w e hu1 hu2;(try obtain rfl:u1=_:=hu1);(try obtain rfl:u2=_:=hu2);exact get_s (hS1.ext (x9.trans e)).nset k3) ?_)|(refine oC 78 ?_;refine bcA (f:=78) rfl rfl rfl rfl rfl  (.pred (cnP (λ k=>A k∧kv1.ownBlock≠some k) g (apA g))) (by intro u1 u2 u3 w e hu1 hu2 hu3;(try obtain rfl:u1=_:=hu1);(try obtain rfl:u2=_:=hu2);(try obtain rfl:u3=_:=hu3);exact f1 _ (x9.trans e) _ (c9.ext e)) ?_)|(refine oC 77 ?_;refine a5A (f:=77) rfl rfl rfl rfl  (.pred (cnP (λ k=>A k∧kv1.ownBlock≠some k) q (apA q))) (by intro u1 u2 w e hu1 hu2;(try obtain rfl:u1=_:=hu1);(try obtain rfl:u2=_:=hu2);exact f2 _ (x9.trans e) _ _ hu1 hu2) ?_))|(refine yN hK ?_;clear hK K))|(refine oCX ?_;first|refine c3A 16 kZ kZ kZ (λ K hK=>?_))|refine wG ?_|(refine yR ?_;intro K hK)|fail)
  exact a4A e0 (λ w5 e5=>⟨by omega,by omega,hm.ext e5⟩) oZ sZ
 ·have hmut:Mut A w b kv lv (rng p lo H) w1:=by
   by_cases e:i=H
   ·exact e▸⟨kv1,lv1,hS1,hF1,hl1,hl2⟩
   ·have:i=lo:=oZ
    rw [show rng p lo H=rng p lo i by rw [k2A p (show H≤lo by omega),k2A p (show i≤lo by omega)]];exact ⟨kv1,lv1,hS1,hF1,hl1,hl2⟩
  repeat' (first|(refine yL ?_;first|refine a0A rfl ?_|(refine oEq ?_;refine bsA (c:=.bool true) rfl rfl rfl (λ _=>rfl) ?_)|refine yO ?_|(refine yC ?_ ?_<;>intro hc)|(refine yN hK ?_;clear hK K))|refine wG ?_|(refine yR ?_;intro K hK)|fail)
  exact clA rfl (λ w5 e5=>⟨rfl,hmut.ext e5⟩) (.inl rfl)
end Go.Proofs.YtbokphkfojijoaaGreatDoor
end
section
namespace Go.Proofs.YtbokphkfojijoaaGreatDoor
open Go.LA Go.ArrP Go.RowKit
variable {A B:Nat→Prop}
noncomputable def spU (xs:List Sp) (y:Nat):Bool:=xs.any (λ x=>decide (x.1.toNat≤y) && decide (y<min x.2.toNat TOP))
theorem w7A (xs ys:List Sp) (y:Nat):spU (xs++ys) y=(spU xs y || spU ys y):=List.any_append
theorem ijA {xs:List Sp} {i:Nat} (h:i<xs.length):xs.getD i (0,0) ∈ xs:=by
 rw [List.getD_eq_getElem?_getD,List.getElem?_eq_getElem h];exact List.getElem_mem h
theorem olA {xs:List Sp} {i:Nat} (h:i<xs.length):xs.take (i+1)=xs.take i++[xs.getD i (0,0)]:=by
 rw [List.getD_eq_getElem?_getD,List.getElem?_eq_getElem h,List.take_add_one,List.getElem?_eq_getElem h];rfl
theorem suA {xs:List Sp} {i:Nat} (h:i<xs.length):rng (spU (xs.take i)) (xs.getD i (0,0)).1.toNat (min (xs.getD i (0,0)).2.toNat TOP)=spU (xs.take (i+1)):=by
 funext y
 rw [olA h,w7A];unfold rng;congr 1;unfold spU;rw [List.any_cons,List.any_nil,Bool.or_false]
def U64 (xs:List Sp):Prop:=∀ x ∈ xs,0≤x.1∧x.1<18446744073709551616∧0≤x.2∧x.2<18446744073709551616
theorem w6A {w:World} {v:Value} {xs:List Sp} (h:SlP .u64 w v xs) (hx:U64 xs) (hT:Tab w) (hB:Fsh B w) (hA:Fsh A w):Fc Tryz.prog 42 #[v] w (Ret w (.pred (rsP B A (spU xs)))):=by
 have hlen:=h.len;refine Fc.of (args:=[_]) Tryz.func42 rfl rfl Tryz.ntmps42 nZ ?_
 repeat' (first|(refine yL ?_;first|refine a0A rfl ?_|(refine d3A ?_;refine bjA rfl _ rfl rfl (HasP.val h) ?_)|refine yO ?_|(refine yC ?_ ?_<;>intro hc)|(refine yV ?_;first|(refine oC 40 ?_;refine faA (f:=40) rfl rfl  (.pred (rsP (λ k=>w.heap.size≤k) A (λ _=>false))) (by intro w e;exact new_c _ (λ k hk=>Nat.le_trans e.size hk)) ?_))|(refine yN hK ?_;clear hK K))|refine wG ?_|(refine yR ?_;intro K hK)|fail)
 refine bwA 3 rfl (λ v3 w3 e3 h3=>?_);obtain ⟨b,kv3,lv3,rfl,hS3,hB3⟩:=h3
 refine aaA (ι:=Nat) (λ i=>[(3,.val (.pointer (some ⟨b,0,none⟩))),(7,.val v),(8,.val (.int .i64 xs.length)),(9,.val (.int .i64 i))]) (λ i w'=>i≤xs.length∧Ext w w'∧∃ kv lv,RS A w' b kv lv (spU (xs.take i))∧∀ k,onw b kv lv k→w.heap.size≤k) (λ i=>xs.length-i)
  (λ w2 e2=>⟨0,⟨Nat.zero_le _,e3.trans e2,kv3,lv3,hS3.ext e2,hB3⟩,sZ⟩) ?_
 rintro i w1 ⟨hi,he,kv,lv,hS,hB1⟩;have h1:=h.ext he
 by_cases hil:i<xs.length
 ·obtain ⟨u1,u2,u3,u4⟩:=hx _ (ijA hil)
  have hsu:=suA hil;obtain ⟨lo,hlo⟩:∃ lo:Nat,(xs.getD i (0,0)).1=(lo:Int):=⟨(xs.getD i (0,0)).1.toNat,by omega⟩;obtain ⟨hi',hhi⟩:∃ hi:Nat,(xs.getD i (0,0)).2=(hi:Int):=⟨(xs.getD i (0,0)).2.toNat,by omega⟩;rw [hlo,hhi,Int.toNat_natCast,Int.toNat_natCast] at hsu;rw [hlo] at u1 u2;rw [hhi] at u3 u4
  repeat' (first|(refine yL ?_;first|refine a0A rfl ?_|(refine oI ?_;refine baA rfl _ rfl (λ _=>rfl) rfl (HasP.val h1) rfl hil ?_;rw [hlo,hhi])|(refine oLt 68 ?_;refine atA (cs:=[.int .u64 lo,.int .u64 hi']) rfl (λ _=>rfl) (λ _=>rfl) rfl ?_)|(refine oD 5 ?_;refine a3A (hK _ _ (crA rfl rfl dZ (λ _=>rfl) (λ _=>rfl) (λ _=>rfl) rfl (by intro u hu;simp [Value.cells] at hu;rcases hu with rfl|rfl <;> rfl) (λ bx wx ex hbx hbc=>?_)));clear hK K;refine abA kZ (λ K hK=>?_))|(refine oF 0 ?_;refine a2A (a':=⟨bx,0,none⟩) rfl rfl (λ _=>rfl) ?_)|(refine oF 1 ?_;refine a2A (a':=⟨bx,1,none⟩) rfl rfl (λ _=>rfl) ?_)|(refine oLt 61 ?_;refine a7A rfl (λ _=>rfl) rfl hbc rfl ?_)|(refine oC 33 ?_;refine a3A (hK _ _ (dyA rfl dZ rfl rfl rfl rfl (λ v w'=>v=.tuple #[]∧∃ wz,Ext w1 wz∧Mut A wz b kv lv (spU (xs.take (i+1))) w') (λ w8 e8=>(p3A (he.trans (ex.trans e8)) hT hB1 (hS.ext (ex.trans e8)) (hA.ext (he.trans (ex.trans e8))) oZ oZ).mono λ en w' h=>⟨_,h.1,rfl,_,ex.trans e8,hsu▸h.2⟩) (λ v w2 hm=>?_)));clear hK K;obtain ⟨rfl,wz,ez,hm⟩:=hm)|refine yO ?_|(refine yC ?_ ?_<;>intro hc)|(refine yN hK ?_;clear hK K))|refine wG ?_|(refine yR ?_;intro K hK)|fail)
  obtain ⟨kv',lv',hS',hF',l1,l2⟩:=hm;have x2:=he.trans ez;exact a4A (i+1) (λ w5 e5=>⟨hil,(Fr.ext x2 hF' hB1).trans e5,kv',lv',hS'.ext e5,iaA hB1 x2.size l1 l2⟩) oZ sZ
 ·obtain rfl:i=xs.length:=oZ
  rw [List.take_length] at hS
  repeat' (first|(refine yL ?_;first|refine a0A rfl ?_|refine yO ?_|(refine yC ?_ ?_<;>intro hc)|(refine yN hK ?_;clear hK K))|refine wG ?_|(refine yR ?_;intro K hK)|fail)
  exact aiA rfl rfl he (λ u w5 e5 hu=>by obtain rfl:u=_:=hu;exact ⟨b,kv,lv,rfl,hS.ext e5,λ k hk=>hB k (hB1 k hk)⟩)
end Go.Proofs.YtbokphkfojijoaaGreatDoor
end
section
namespace Go.Proofs.YtbokphkfojijoaaGreatDoor
open Go.LA Go.ArrP Go.RowKit
theorem yqA {a b:List Sp} (hl:a.length=b.length) (h:∀ k,k<a.length→(a.getD k (0,0)).1=(b.getD k (0,0)).1∧(a.getD k (0,0)).2=(b.getD k (0,0)).2):a=b :=
 List.ext_getElem hl λ i h1 h2=>by
  obtain ⟨e1,e2⟩:=h i h1;have g1:a.getD i (0,0)=a[i]:=by simp [List.getD,h1]
  have g2:b.getD i (0,0)=b[i]:=by simp [List.getD,h2]
  rw [g1,g2] at e1 e2;exact Prod.ext e1 e2
theorem xfA (f m f' m':Int) (w:World):(Op.equalIn 10000 68 (spV .u64 (f,m)) (spV .u64 (f',m'))).run Tryz.prog w=.ok (decide (f=f') && decide (m=m')) w:=by
 unfold spV;rw [run_equalIn_agg w 9999 68 _ _ kZ kZ];have hp:∀ (f m:Int) (w:World),(part 61 #[.int .u64 f,.int .u64 m] 0).run Tryz.prog w=.ok (.int .u64 f) w:=λ f m w=>by kernel_rfl
 have hq:∀ (f m:Int) (w:World),(part 61 #[.int .u64 f,.int .u64 m] 1).run Tryz.prog w=.ok (.int .u64 m) w:=λ f m w=>by kernel_rfl
 have he:∀ (a b:Int) (w:World),(Op.equalIn 9999 61 (.int .u64 a) (.int .u64 b)).run Tryz.prog w=.ok (a == b) w:=λ a b w=>run_equalIn_int w 9998 _ _ _ a b (by kernel_rfl:Tryz.prog.underlying 61=some (.int .u64))
 simp only [Program.fieldsOf,Tryz.underlying68];simp only [Op.eqFields,Sem.run_bind,Sem.run_ite,hp,hq,he,Result.andThen_ok,Sem.run_pure]
 by_cases h1:f=f' <;> by_cases h2:m=m' <;> simp [h1,h2]
theorem vnA (f m f' m':Int) (x y:Operand) (w:World):(do eqGuard .neq 68 x y (spV .u64 (f,m)) (spV .u64 (f',m'));binOp .neq 68 (spV .u64 (f,m)) (spV .u64 (f',m')):Sem Value).run Tryz.prog w=.ok (.bool (!(decide (f=f') && decide (m=m')))) w:=by
 have h:=xfA f m f' m' w;unfold spV at h ⊢;rw [Sem.run_bind,run_eqGuard_agg w _ _ _ _ _ _ kZ];simp only [Result.andThen_ok,run_neq_struct,h]
theorem whA (w:World) (v u:Value) (a b:List Sp) (h:SlP .u64 w v a) (h':SlP .u64 w u b):Fc Tryz.prog 16 #[v,u] w (Ret w (.val (.bool (decide (a=b))))):=by
 have hl:=h.len;have hl':=h'.len;refine Fc.of (args:=[_,_]) Tryz.func16 rfl rfl Tryz.ntmps16 nZ ?_
 by_cases hlen:a.length=b.length
 ·skip
  repeat' (first|(refine yL ?_;first|refine a0A rfl ?_|(refine oI ?_;refine baA rfl _ rfl (λ _=>rfl) rfl (by first|exact HasP.val (by assumption)|exact HasP.own|exact HasP.ownV (by assumption)) rfl oZ ?_)|(refine oLt 68 ?_;refine atA rfl (λ _=>rfl) (λ _=>rfl) rfl ?_)|(refine d3A ?_;refine bjA rfl _ rfl rfl (by first|exact HasP.val (by assumption)|exact HasP.own|exact HasP.ownV (by assumption)) ?_)|refine yO ?_|(refine yC ?_ ?_<;>intro hc)|(refine yN hK ?_;clear hK K))|refine wG ?_|(refine yR ?_;intro K hK)|fail)
  refine ciA (ι:=Nat) (λ k=>[(0,.val v),(1,.val u),(5,.val (.int .i64 k))]) (λ k=>k≤a.length∧∀ i,i<k→(a.getD i (0,0)).1=(b.getD i (0,0)).1∧(a.getD i (0,0)).2=(b.getD i (0,0)).2) (λ k=>a.length-k) 0 ⟨Nat.zero_le _,λ i h1=>by omega⟩ sZ ?_
  rintro k ⟨hk,hin⟩
  by_cases hkl:k<a.length
  ·by_cases he:(a.getD k (0,0)).1=(b.getD k (0,0)).1∧(a.getD k (0,0)).2=(b.getD k (0,0)).2
   ·have hb:(!(decide ((a.getD k (0,0)).1=(b.getD k (0,0)).1) && decide ((a.getD k (0,0)).2=(b.getD k (0,0)).2)))=false:=by rw [decide_eq_true he.1,decide_eq_true he.2];rfl
    repeat' (first|(refine yL ?_;first|refine a0A rfl ?_|(refine bsA (c:=.bool false) rfl rfl rfl (λ w=>(vnA (a.getD k (0,0)).1 (a.getD k (0,0)).2 (b.getD k (0,0)).1 (b.getD k (0,0)).2 _ _ w).trans (by rw [hb])) ?_)|(refine oI ?_;refine baA rfl _ rfl (λ _=>rfl) rfl (by first|exact HasP.val (by assumption)|exact HasP.own|exact HasP.ownV (by assumption)) rfl oZ ?_)|(refine oLt 68 ?_;refine atA rfl (λ _=>rfl) (λ _=>rfl) rfl ?_)|(refine d3A ?_;refine bjA rfl _ rfl rfl (by first|exact HasP.val (by assumption)|exact HasP.own|exact HasP.ownV (by assumption)) ?_)|refine yO ?_|(refine yC ?_ ?_<;>intro hc)|(refine yN hK ?_;clear hK K))|refine wG ?_|(refine yR ?_;intro K hK)|fail)
    refine czA (k+1) ⟨hkl,λ i h1=>?_⟩ oZ sZ
    by_cases e:i=k
    ·subst e;exact he
    ·exact hin i oZ
   ·have hb:(!(decide ((a.getD k (0,0)).1=(b.getD k (0,0)).1) && decide ((a.getD k (0,0)).2=(b.getD k (0,0)).2)))=true:=by
     by_cases h1:(a.getD k (0,0)).1=(b.getD k (0,0)).1
     ·rw [decide_eq_true h1,decide_eq_false (λ h2=>he ⟨h1,h2⟩)];rfl
     ·rw [decide_eq_false h1];rfl
    have hne:a≠b:=λ e=>he (by rw [e];exact ⟨rfl,rfl⟩)
    repeat' (first|(refine yL ?_;first|refine a0A rfl ?_|(refine bsA (c:=.bool true) rfl rfl rfl (λ w=>(vnA (a.getD k (0,0)).1 (a.getD k (0,0)).2 (b.getD k (0,0)).1 (b.getD k (0,0)).2 _ _ w).trans (by rw [hb])) ?_)|(refine oI ?_;refine baA rfl _ rfl (λ _=>rfl) rfl (by first|exact HasP.val (by assumption)|exact HasP.own|exact HasP.ownV (by assumption)) rfl oZ ?_)|(refine oLt 68 ?_;refine atA rfl (λ _=>rfl) (λ _=>rfl) rfl ?_)|(refine d3A ?_;refine bjA rfl _ rfl rfl (by first|exact HasP.val (by assumption)|exact HasP.own|exact HasP.ownV (by assumption)) ?_)|refine yO ?_|(refine yC ?_ ?_<;>intro hc)|(refine yN hK ?_;clear hK K))|refine wG ?_|(refine yR ?_;intro K hK)|fail)
    exact ajA rfl rfl (Ext.refl _) (by rw [decide_eq_false hne])
  ·obtain rfl:k=a.length:=oZ
   have:a=b:=yqA hlen hin
   repeat' (first|(refine yL ?_;first|refine a0A rfl ?_|(refine oI ?_;refine baA rfl _ rfl (λ _=>rfl) rfl (by first|exact HasP.val (by assumption)|exact HasP.own|exact HasP.ownV (by assumption)) rfl oZ ?_)|(refine oLt 68 ?_;refine atA rfl (λ _=>rfl) (λ _=>rfl) rfl ?_)|(refine d3A ?_;refine bjA rfl _ rfl rfl (by first|exact HasP.val (by assumption)|exact HasP.own|exact HasP.ownV (by assumption)) ?_)|refine yO ?_|(refine yC ?_ ?_<;>intro hc)|(refine yN hK ?_;clear hK K))|refine wG ?_|(refine yR ?_;intro K hK)|fail)
   exact ajA rfl rfl (Ext.refl _) (by rw [decide_eq_true this])
 ·have hne:a≠b:=λ e=>hlen (by rw [e])
  repeat' (first|(refine yL ?_;first|refine a0A rfl ?_|(refine oI ?_;refine baA rfl _ rfl (λ _=>rfl) rfl (by first|exact HasP.val (by assumption)|exact HasP.own|exact HasP.ownV (by assumption)) rfl oZ ?_)|(refine oLt 68 ?_;refine atA rfl (λ _=>rfl) (λ _=>rfl) rfl ?_)|(refine d3A ?_;refine bjA rfl _ rfl rfl (by first|exact HasP.val (by assumption)|exact HasP.own|exact HasP.ownV (by assumption)) ?_)|refine yO ?_|(refine yC ?_ ?_<;>intro hc)|(refine yN hK ?_;clear hK K))|refine wG ?_|(refine yR ?_;intro K hK)|fail)
  exact ajA rfl rfl (Ext.refl _) (by rw [decide_eq_false hne])
end Go.Proofs.YtbokphkfojijoaaGreatDoor
end
