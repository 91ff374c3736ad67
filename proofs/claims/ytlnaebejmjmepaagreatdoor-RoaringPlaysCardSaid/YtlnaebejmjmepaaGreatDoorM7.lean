import Derived.Test.YtlnaebejmjmepaaGreatDoorProg
import Derived.Laws.Bits64b
import Derived.Test.YtlnaebejmjmepaaGreatDoorM3
import Derived.Test.YtlnaebejmjmepaaGreatDoorM4
set_option linter.unusedSimpArgs false
set_option linter.unusedVariables false
set_option maxRecDepth 3000
set_option maxHeartbeats 16000000
section
namespace Go.Proofs.YtlnaebejmjmepaaGreatDoor
open Go.LA Go.ArrP Go.RowKit
theorem ziA (a:Nat) (ha:a<9223372036854775808):bits .and .i64 (a:Int) 127=((a % 128:Nat):Int):=by
 have h1:(BitVec.ofInt 64 (a:Int)).toNat=a:=by
  rw [BitVec.ofInt_natCast,BitVec.toNat_ofNat];exact Nat.mod_eq_of_lt oZ
 have h2:(BitVec.ofInt 64 (127:Int)).toNat=127:=dZ;have h3:a &&& 127=a % 128:=Nat.and_two_pow_sub_one_eq_mod a 7;show IntKind.i64.wrap ((BitVec.ofInt 64 (a:Int) &&& BitVec.ofInt 64 (127:Int)).toNat:Int)=_;rw [BitVec.toNat_and,h1,h2,h3,IntKind.wrap_i64];omega
theorem lyA (a b:Nat) (ha:a<18446744073709551616) (hb:b<18446744073709551616) {x y:Int} (hx:x=(a:Int)) (hy:y=(b:Int)):bits .and .u64 x y=((a &&& b:Nat):Int):=by
 subst hx hy;exact bits_and_u64_nat a b ha hb
theorem b4B (w:World) (n:Nat) (hn:n<18446744073709551616):Fc Tryz.prog 166 #[.int .u64 n] w (Ret w (.val (.int .i64 (fbA n)))):=by
 obtain ⟨n2,hn2⟩:∃ n2,n2=y1 6148914691236517205 n:=⟨_,rfl⟩;obtain ⟨n3,hn3⟩:∃ n3,n3=y2 3689348814741910323 n2:=⟨_,rfl⟩;obtain ⟨z,hz⟩:∃ z,z=y3 1085102592571150095 n3:=⟨_,rfl⟩;have ho:=owA n hn (z:=z) (by rw [hz,hn3,hn2]);obtain ⟨o1,o2,o3,o4,o5⟩:=ho;have l1:n / 2 &&& 6148914691236517205≤6148914691236517205:=Nat.and_le_right;have l2:n &&& 6148914691236517205≤6148914691236517205:=Nat.and_le_right;have l3:n2 / 4 &&& 3689348814741910323≤3689348814741910323:=Nat.and_le_right;have l4:n2 &&& 3689348814741910323≤3689348814741910323:=Nat.and_le_right;have d2:n2=(n / 2 &&& 6148914691236517205)+(n &&& 6148914691236517205):=hn2;have d3:n3=(n2 / 4 &&& 3689348814741910323)+(n2 &&& 3689348814741910323):=hn3;have d4:z=(n3 / 16+n3) &&& 1085102592571150095:=hz;have e5:bits .and .u64 ((n:Int) / 2) 6148914691236517205=((n / 2 &&& 6148914691236517205:Nat):Int):=lyA _ _ oZ oZ oZ rfl;have e7:bits .and .u64 (n:Int) 6148914691236517205=((n &&& 6148914691236517205:Nat):Int):=lyA _ _ oZ oZ rfl rfl;have e11:bits .and .u64 ((n2:Int) / 4) 3689348814741910323=((n2 / 4 &&& 3689348814741910323:Nat):Int):=lyA _ _ oZ oZ oZ rfl;have e13:bits .and .u64 (n2:Int) 3689348814741910323=((n2 &&& 3689348814741910323:Nat):Int):=lyA _ _ oZ oZ rfl rfl;have e19:bits .and .u64 ((n3:Int) / 16+(n3:Int)) 1085102592571150095=(z:Int):=by rw [d4];exact lyA _ _ oZ oZ oZ rfl
 have s8:((n / 2 &&& 6148914691236517205:Nat):Int)+((n &&& 6148914691236517205:Nat):Int)=(n2:Int):=oZ;have s14:((n2 / 4 &&& 3689348814741910323:Nat):Int)+((n2 &&& 3689348814741910323:Nat):Int)=(n3:Int):=oZ;obtain ⟨u,hu⟩:∃ u,u=z+z / 256:=⟨_,rfl⟩;rw [← hu] at o2 o3 o4 o5;obtain ⟨t,ht⟩:∃ t,t=u+u / 65536:=⟨_,rfl⟩;rw [← ht] at o3 o4 o5;obtain ⟨r,hr⟩:∃ r,r=t+t / 4294967296:=⟨_,rfl⟩;rw [← hr] at o4 o5;have s23:(z:Int)+(z:Int) / 256=(u:Int):=oZ;have s27:(u:Int)+(u:Int) / 65536=(t:Int):=oZ;have s31:(t:Int)+(t:Int) / 4294967296=(r:Int):=oZ;have e34:=ziA r o4;rw [o5] at e34;refine Fc.of (args:=[_]) Tryz.func166 rfl rfl Tryz.ntmps166 nZ ?_
 repeat' (first|(refine yL ?_;first|refine a0A rfl ?_|(show LA _ _ _ _ (⟨some 5,.binOp .and _ _ _ _,_,_,_,_⟩::_) _;refine clA (.inl rfl) rfl rfl rfl ?_;rw [e5])|(show LA _ _ _ _ (⟨some 7,.binOp .and _ _ _ _,_,_,_,_⟩::_) _;refine clA (.inl rfl) rfl rfl rfl ?_;rw [e7])|(show LA _ _ _ _ (⟨some 11,.binOp .and _ _ _ _,_,_,_,_⟩::_) _;refine clA (.inl rfl) rfl rfl rfl ?_;rw [e11])|(show LA _ _ _ _ (⟨some 13,.binOp .and _ _ _ _,_,_,_,_⟩::_) _;refine clA (.inl rfl) rfl rfl rfl ?_;rw [e13])|(show LA _ _ _ _ (⟨some 19,.binOp .and _ _ _ _,_,_,_,_⟩::_) _;refine clA (.inl rfl) rfl rfl rfl ?_;rw [e19])|(show LA _ _ _ _ (⟨some 34,.binOp .and _ _ _ _,_,_,_,_⟩::_) _;refine clA (.inl rfl) rfl rfl rfl ?_;rw [e34])|(show LA _ _ _ _ (⟨some 8,.binOp .add _ _ _ _,_,_,_,_⟩::_) _;refine beA rfl rfl rfl (by rw [s8];dsimp only [fits];omega) ?_;rw [s8])|(show LA _ _ _ _ (⟨some 14,.binOp .add _ _ _ _,_,_,_,_⟩::_) _;refine beA rfl rfl rfl (by rw [s14];dsimp only [fits];omega) ?_;rw [s14])|(show LA _ _ _ _ (⟨some 23,.binOp .add _ _ _ _,_,_,_,_⟩::_) _;refine beA rfl rfl rfl (by rw [s23];dsimp only [fits];omega) ?_;rw [s23])|(show LA _ _ _ _ (⟨some 27,.binOp .add _ _ _ _,_,_,_,_⟩::_) _;refine beA rfl rfl rfl (by rw [s27];dsimp only [fits];omega) ?_;rw [s27])|(show LA _ _ _ _ (⟨some 31,.binOp .add _ _ _ _,_,_,_,_⟩::_) _;refine beA rfl rfl rfl (by rw [s31];dsimp only [fits];omega) ?_;rw [s31])|refine yO ?_|(refine yC ?_ ?_<;>intro hc)|(refine yN hK ?_;clear hK K))|refine wG ?_|(refine yR ?_;intro K hK)|fail)
 all_goals exact a9A rfl rfl (Ext.refl _) rfl
def Tab (w:World):Prop:=∀ j,j<64→w.cell? ⟨0,j,none⟩=some (.int .u8 (Lib.deBruijn64tab.getD j 0))
theorem Tab.ext {w w':World} (h:Tab w) (e:Ext w w'):Tab w':=λ j hj=>e.cell (h j hj)
theorem tz_e3 (p:Nat):IntKind.u64.wrap ((p:Int)*285870213051353865) / 288230376151711744=((p*285870213051353865 % 18446744073709551616 / 288230376151711744:Nat):Int):=by
 rw [IntKind.wrap_u64];omega
theorem tz_c (w:World) (n:Nat) (hn:n<18446744073709551616) (hT:Tab w):Fc Tryz.prog 115 #[.int .u64 n] w (Ret w (.val (.int .i64 (Lib.ctz 64 n)))):=by
 by_cases h0:n=0
 ·subst h0
  refine Fc.of (args:=[_]) Tryz.func115 rfl rfl Tryz.ntmps115 nZ ?_
  repeat' (first|(refine yL ?_;first|refine a0A rfl ?_|refine yO ?_|(refine yC ?_ ?_<;>intro hc)|(refine yN hK ?_;clear hK K))|refine wG ?_|(refine yR ?_;intro K hK)|fail)
  exact a9A rfl rfl (Ext.refl _) rfl
 ·obtain ⟨hlow,hk⟩:=Lib.lowest_bit 64 n h0 hn
  obtain ⟨hi,htab⟩:=Lib.deBruijn64_at _ hk;have hcell:=hT _ hi;rw [htab] at hcell;obtain ⟨p,hp⟩:∃ p,p=2 ^ Lib.ctz 64 n:=⟨_,rfl⟩;rw [← hp] at hlow hi htab hcell;have e1:IntKind.u64.wrap (-(n:Int))=((18446744073709551616-n:Nat):Int):=by rw [IntKind.wrap_u64];omega
  have e2:bits .and .u64 (n:Int) (IntKind.u64.wrap (-(n:Int)))=(p:Int):=by rw [e1,bits_and_u64_nat n _ hn oZ];exact congrArg _ hlow
  have e3:IntKind.u64.wrap ((p:Int)*285870213051353865) / 288230376151711744=((p*285870213051353865 % 18446744073709551616 / 288230376151711744:Nat):Int):=by
   exact tz_e3 p
  obtain ⟨q,hq⟩:∃ q,q=p*285870213051353865 % 18446744073709551616 / 288230376151711744:=⟨_,rfl⟩;rw [← hq] at hcell e3 hi;refine Fc.of (args:=[_]) Tryz.func115 rfl rfl Tryz.ntmps115 nZ ?_
  repeat' (first|(refine yL ?_;first|refine a0A rfl ?_|refine c3B rfl rfl ?_|(show LA _ _ _ _ (⟨some 8,.binOp .and _ _ _ _,_,_,_,_⟩::_) _;refine clA (.inl rfl) rfl rfl rfl ?_;rw [e2])|(show LA _ _ _ _ (⟨some 9,.binOp .mul _ _ _ _,_,_,_,_⟩::_) _;refine sjA rfl rfl rfl ?_)|(show LA _ _ _ _ (⟨some 10,.binOp .shr _ _ _ _,_,_,_,_⟩::_) _;refine f0A rfl rfl rfl oZ (by dsimp only [IntKind.bits];omega) ?_;dsimp only [Int.reduceToNat,Int.reducePow];rw [e3])|refine dvA (n:=64) (s:=1) rfl rfl (λ _=>rfl) rfl rfl q rfl hi ?_|refine kyA rfl (λ _=>rfl) rfl (by rw [show 0+q*1=q by omega];exact hcell) ?_|refine yO ?_|(refine yC ?_ ?_<;>intro hc)|(refine yN hK ?_;clear hK K))|refine wG ?_|(refine yR ?_;intro K hK)|fail)
  all_goals exact a9A rfl rfl (Ext.refl _) rfl
theorem n2A:El Tryz.prog 29 39 (.int .u64 0) 1 8:=⟨rfl,rfl,rfl,by decide⟩
theorem ibA {w:World} {x:Int} {n:Nat} (hx:x=(n:Int)) (hn:n<18446744073709551616):Fc Tryz.prog 166 #[.int .u64 x] w (Ret w (.val (.int .i64 (fbA n)))):=by
 subst hx;exact b4B w n hn
theorem q8A (n:Nat):fbA n≤64:=cnt_le _ _
theorem peA (w:World) (v:Value) (ws:List Int) (h:SlI .u64 w v ws) (hl:Lw ws) (hn:ws.length≤17592186044416):Fc Tryz.prog 116 #[v] w (Ret w (.val (.int .i64 (cnt (cdA ws) (64*ws.length))))):=by
 refine Fc.of (args:=[_]) Tryz.func116 rfl rfl Tryz.ntmps116 nZ ?_
 repeat' (first|(refine yL ?_;first|refine a0A rfl ?_|refine yO ?_|(refine yC ?_ ?_<;>intro hc)|(refine yN hK ?_;clear hK K))|refine wG ?_|(refine yR ?_;intro K hK)|fail)
 refine b5A (ι:=Nat) (λ k=>[(0,.val v),(3,.val (.int .i64 (cnt (cdA ws) (64*k)))),(6,.val v),(7,.val (.int .i64 ws.length)),(8,.val (.int .i64 k))]) (λ k=>k≤ws.length) (λ k=>ws.length-k) 0 oZ sZ ?_
 intro k hk;have hs:=o3A ws k;have hc:=cnt_le (cdA ws) (64*k);have hp:=q8A (wd ws k);obtain ⟨e1,e2⟩:=hl.at k
 by_cases hkl:k<ws.length
 ·skip
  repeat' (first|(refine yL ?_;first|refine a0A rfl ?_|refine yO ?_|(refine yC ?_ ?_<;>intro hc)|(refine yV ?_;first|(refine oC 166 ?_;refine a2A (f:=166) rfl rfl rfl  (.val (.int .i64 (fbA (wd ws k)))) (by intro u1 w e hu1;(try obtain rfl:u1=_:=hu1);exact ibA e1 e2) ?_))|(refine yN hK ?_;clear hK K))|refine wG ?_|(refine yR ?_;intro K hK)|fail)
  refine bpA (k+1) ?_ ?_ sZ
  ·omega
  ·omega
 ·obtain rfl:k=ws.length:=oZ
  repeat' (first|(refine yL ?_;first|refine a0A rfl ?_|refine yO ?_|(refine yC ?_ ?_<;>intro hc)|(refine yN hK ?_;clear hK K))|refine wG ?_|(refine yR ?_;intro K hK)|fail)
  exact a9A rfl rfl (Ext.refl _) rfl
theorem or64 (a b:Nat) (ha:a<18446744073709551616) (hb:b<18446744073709551616):bits .or .u64 (a:Int) (b:Int)=((a ||| b:Nat):Int):=by
 have hx:a ||| b<2 ^ 64:=Nat.or_lt_two_pow oZ oZ
 have h1:(BitVec.ofInt 64 (a:Int)).toNat=a:=by
  rw [BitVec.ofInt_natCast,BitVec.toNat_ofNat];exact Nat.mod_eq_of_lt oZ
 have h2:(BitVec.ofInt 64 (b:Int)).toNat=b:=by
  rw [BitVec.ofInt_natCast,BitVec.toNat_ofNat];exact Nat.mod_eq_of_lt oZ
 show IntKind.u64.wrap ((BitVec.ofInt 64 (a:Int) ||| BitVec.ofInt 64 (b:Int)).toNat:Int)=_
 rw [BitVec.toNat_or,h1,h2,IntKind.wrap_u64];omega
theorem a9B (w:World) (v:Value) (xs:List Int) (h:SlI .u16 w v xs) (hl:Low xs):Fc Tryz.prog 41 #[v] w (Ret w (.pred (bnA w.heap.size 39 .u64 (wordsOf (buA xs))))):=by
 have hlen:=h.len;refine Fc.of (args:=[_]) Tryz.func41 rfl rfl Tryz.ntmps41 nZ ?_
 repeat' (first|(refine yL ?_;first|refine a0A rfl ?_|refine kxA (n:=1024) rfl n2A rfl rfl dZ dZ ?_|refine yO ?_|(refine yC ?_ ?_<;>intro hc)|(refine yN hK ?_;clear hK K))|refine wG ?_|(refine yR ?_;intro K hK)|fail)
 refine e4A 3 rfl (λ v3 w3 e3 h3=>?_);have h3:OwnI w.heap.size 39 .u64 w3 v3 (List.replicate 1024 0):=h3
 refine agA (ι:=Nat × List Int) (λ i=>[(3,.val v3),(7,.val v),(8,.val (.int .i64 xs.length)),(9,.val (.int .i64 i.1))]) (λ i w'=>Ext w w'∧i.1≤xs.length∧i.2.length=1024∧Lw i.2∧(∀ j,j<65536→cdA i.2 j=buA (xs.take i.1) j)∧OwnI w.heap.size 39 .u64 w' v3 i.2)
  (λ i=>xs.length-i.1) (λ w2 e2=>⟨(0,List.replicate 1024 0),⟨e3.trans e2,Nat.zero_le _,List.length_replicate,muA _,λ j _=>by rw [l7A];simp [buA],h3.ext e2⟩,sZ⟩) ?_
 rintro ⟨k,ws⟩ w1 ⟨he,hk,hwl,hlw,hbit,ho⟩;dsimp only at hk hwl hlw hbit ho ⊢;have h1:=h.ext he
 by_cases hkl:k<xs.length
 ·have hx:0≤xs.getD k 0∧xs.getD k 0<65536:=by rw [awA hkl];exact hl _ (List.getElem_mem hkl)
  obtain ⟨x,hxx⟩:=Int.eq_ofNat_of_zero_le hx.1;obtain ⟨gb,cap,cur,rfl,hgb,hgc,hgn,hgm,hgs,hgt⟩:=ho.row oZ;have hra:=q2A hgt (i:=0+x / 64*1) oZ;obtain ⟨e1,e2⟩:=hlw.at (x / 64);have hp:(2:Nat) ^ (x % 64)<18446744073709551616:=by
   have:(2:Nat) ^ (x % 64)<2 ^ 64:=Nat.pow_lt_pow_right dZ oZ;omega
  have ex:xs.getD k 0=(x:Int):=hxx;have hsh:IntKind.u64.wrap (1*2 ^ (xs.getD k 0 % 64).toNat)=((2 ^ (x % 64):Nat):Int):=by
   rw [show (xs.getD k 0 % 64).toNat=x % 64 by omega,IntKind.wrap_u64,Int.one_mul];obtain ⟨p,hpd⟩:∃ p,p=2 ^ (x % 64):=⟨_,rfl⟩;have h2:((2:Int) ^ (x % 64))=(p:Int):=by rw [hpd];simp
   rw [h2];rw [← hpd] at hp ⊢;omega
  have hor:bits .or .u64 (ws.getD (0+x / 64*1) 0) ((2 ^ (x % 64):Nat):Int)=((wd ws (x / 64) ||| 2 ^ (x % 64):Nat):Int):=by
   rw [show 0+x / 64*1=x / 64 by omega,e1];exact or64 _ _ e2 hp
  have hor64:wd ws (x / 64) ||| 2 ^ (x % 64)<18446744073709551616:=Nat.or_lt_two_pow (n:=64) oZ oZ
  repeat' (first|(refine yL ?_;first|refine a0A rfl ?_|(refine d2A (s:=1) rfl rfl (λ _=>rfl) rfl rfl oZ oZ ?_;rw [show (xs.getD k 0 / 64).toNat=x / 64 by omega])|refine a5A rfl (λ _=>rfl) rfl hgc hra ?_|(show LA _ _ _ _ (⟨_,.binOp .shl _ _ _ _,_,_,_,_⟩::_) _;refine hhA rfl rfl rfl oZ (by dsimp only [IntKind.bits];omega) ?_;rw [hsh])|(refine clA (.inr (.inl rfl)) rfl rfl rfl ?_;rw [hor])|(refine a4A (hK _ _ (d1A (o:=0+x / 64*1) rfl rfl rfl hgc (λ _=>rfl) oZ rfl rfl (λ w4 e4=>?_)));clear hK K;dsimp only [vals];refine aiA kZ (λ K hK=>?_))|refine yO ?_|(refine yC ?_ ?_<;>intro hc)|(refine yN hK ?_;clear hK K))|refine wG ?_|(refine yR ?_;intro K hK)|fail)
  refine a6A (k+1,ws.set (0+x / 64*1) ((wd ws (x / 64) ||| 2 ^ (x % 64):Nat):Int)) (λ w5 e5=>⟨((he.trans e4).setRow hgb _).trans e5,?_,?_,?_,?_,?_⟩) ?_ sZ
  ·dsimp only;omega
  ·dsimp only;simp [hwl]
  ·exact hlw.set _ hor64
  ·intro j hj
   dsimp only;rw [show 0+x / 64*1=x / 64 by omega,x2A oZ,hbit j hj,List.take_succ_eq_append_getElem hkl];simp only [buA,List.mem_append,List.mem_singleton,← awA hkl,ex]
   by_cases hm:(j:Int) ∈ xs.take k
   ·simp [hm]
   ·by_cases e:j=x
    ·subst e;simp
    ·rw [decide_eq_false hm,decide_eq_false e,decide_eq_false (λ h=>by rcases h with h|h;exact hm h;omega)];rfl
  ·have hh:=OwnI.set hgb (e4.block hgc) hgn hgm hgs hgt (0+x / 64*1) oZ ((wd ws (x / 64) ||| 2 ^ (x % 64):Nat):Int)
   dsimp only;exact OwnI.ext hh e5
  ·dsimp only;omega
 ·obtain rfl:k=xs.length:=oZ
  repeat' (first|(refine yL ?_;first|refine a0A rfl ?_|refine yO ?_|(refine yC ?_ ?_<;>intro hc)|(refine yN hK ?_;clear hK K))|refine wG ?_|(refine yR ?_;intro K hK)|fail)
  refine ajA rfl rfl he (λ u w2 e2 hu=>?_);obtain rfl:u=_:=hu;rw [List.take_length] at hbit;have hh:=ho.ext e2;rwa [jrA hlw hwl,byA hbit] at hh
theorem haA:El Tryz.prog 22 40 (.int .u16 0) 1 2:=⟨rfl,rfl,rfl,by decide⟩
theorem wyA (w:World) (v:Value) (ws:List Int) (h:SlI .u64 w v ws) (hl:Lw ws) (hT:Tab w):Fc Tryz.prog 79 #[v] w (Ret w (.pred (bnA w.heap.size 40 .u16 (adA (cdA ws) (64*min ws.length 1024))))):=by
 have hlen:=h.len;refine Fc.of (args:=[_]) Tryz.func79 rfl rfl Tryz.ntmps79 nZ ?_
 repeat' (first|(refine yL ?_;first|refine a0A rfl ?_|refine cwA rfl rfl rfl ?_|refine yO ?_|(refine yC ?_ ?_<;>intro hc)|(refine yN hK ?_;clear hK K))|refine wG ?_|(refine yR ?_;intro K hK)|fail)
 refine agA (ι:=Nat × Value) (λ i=>[(0,.val v),(3,.val i.2),(8,.val (.int .i64 (min (ws.length:Int) 1024))),(9,.val (.int .i64 i.1))]) (λ i w'=>Ext w w'∧i.1≤min ws.length 1024∧OwnI w.heap.size 40 .u16 w' i.2 (adA (cdA ws) (64*i.1)))
  (λ i=>min ws.length 1024-i.1) (λ w2 e2=>⟨(0,.slice none 0 0),⟨e2,Nat.zero_le _,OwnI.nil⟩,sZ⟩) ?_
 rintro ⟨k,so⟩ w1 ⟨he,hk,ho⟩;dsimp only at hk ho ⊢;have h1:=h.ext he;have hT1:=hT.ext he
 by_cases hkl:k<min ws.length 1024
 ·obtain ⟨e1,e2⟩:=hl.at k
  repeat' (first|(refine yL ?_;first|refine a0A rfl ?_|refine yO ?_|(refine yC ?_ ?_<;>intro hc)|(refine yN hK ?_;clear hK K))|refine wG ?_|(refine yR ?_;intro K hK)|fail)
  refine agA (ι:=Nat × Nat × Value) (λ i=>[(0,.val v),(3,.val i.2.2),(4,.val (.int .i64 k)),(5,.val (.int .u64 i.2.1)),(8,.val (.int .i64 (min (ws.length:Int) 1024))),(9,.val (.int .i64 k))])
   (λ i w'=>Ext w w'∧i.1≤64∧i.2.1<18446744073709551616∧(∀ j,i.2.1.testBit j=(decide (i.1≤j) && (wd ws k).testBit j))∧OwnI w.heap.size 40 .u16 w' i.2.2 (adA (cdA ws) (64*k+i.1)))
   (λ i=>64-i.1) (λ w2 e2'=>⟨(0,wd ws k,so),⟨he.trans e2',Nat.zero_le _,e2,λ j=>by simp,ho.ext e2'⟩,?_⟩) ?_
  ·dsimp only;rw [← e1];exact sZ
  rintro ⟨t,x,sq⟩ w2 ⟨he2,ht,hx,hb,ho2⟩;dsimp only at ht hx hb ho2 ⊢;have hT2:=hT.ext he2;have hwb:∀ j,j<64→cdA ws (64*k+j)=(wd ws k).testBit j:=λ j hj=>by
   unfold cdA;rw [show (64*k+j) / 64=k by omega,show (64*k+j) % 64=j by omega]
  have hll:=baA (cdA ws) (64*k+t);have hcl:=cnt_le (cdA ws) (64*k+t)
  by_cases h0:x=0
  ·subst h0
   have hsk:adA (cdA ws) (64*(k+1))=adA (cdA ws) (64*k+t):=by
    refine dgA _ _ oZ λ i g1 g2=>?_
    have:=hb (i-64*k);rw [Nat.zero_testBit,decide_eq_true oZ,Bool.true_and] at this;have h2:=hwb (i-64*k) oZ;rw [show 64*k+(i-64*k)=i by omega] at h2;rw [h2,← this]
   repeat' (first|(refine yL ?_;first|refine a0A rfl ?_|refine yO ?_|(refine yC ?_ ?_<;>intro hc)|(refine yN hK ?_;clear hK K))|refine wG ?_|(refine yR ?_;intro K hK)|fail)
   refine a6A (k+1,sq) (λ w5 e5=>⟨he2.trans e5,?_,?_⟩) ?_ sZ
   ·dsimp only;omega
   ·dsimp only;rw [hsk];exact ho2.ext e5
   ·dsimp only;omega
  ·obtain ⟨m,-,hc64⟩:=igA h0 hx
   have lb:=qxA h0 hx;obtain ⟨c,hc⟩:∃ c,c=Lib.ctz 64 x:=⟨_,rfl⟩;rw [← hc] at hc64 lb;have hct:t≤c∧(wd ws k).testBit c=true:=by
    have:=(lb 0).1.1;rw [hb] at this;simpa using this
   have hsk:adA (cdA ws) (64*k+c)=adA (cdA ws) (64*k+t):=by
    refine dgA _ _ oZ λ i g1 g2=>?_
    have h3:=(lb (i-64*k)).1.2 oZ;rw [hb,decide_eq_true oZ,Bool.true_and] at h3;have h2:=hwb (i-64*k) oZ;rw [show 64*k+(i-64*k)=i by omega] at h2;rw [h2,h3]
   have hnx:adA (cdA ws) (64*k+(c+1))=adA (cdA ws) (64*k+t)++[((64*k+c:Nat):Int)]:=by
    rw [← Nat.add_assoc,adA,hsk,hwb c hc64,hct.2];rfl
   have hxa:bits .and .u64 (x:Int) ((x:Int)-1)=((x &&& (x-1):Nat):Int):=lyA _ _ hx oZ rfl oZ;have hx1:x &&& (x-1)<18446744073709551616:=Nat.lt_of_le_of_lt Nat.and_le_left hx
   repeat' (first|(refine yL ?_;first|refine a0A rfl ?_|(refine oC 115 ?_;refine a2A (f:=115) rfl rfl rfl  (.val (.int .i64 c)) (by intro u1 w e hu1;(try obtain rfl:u1=_:=hu1);exact (hc▸tz_c _ x hx (hT2.ext e))) ?_)|refine hiA rfl haA rfl rfl ?_|(refine a4A (hK _ _ (duA rfl dZ haA rfl ho2 rfl oZ oZ he2 (λ v' w' he' ho'=>?_)));clear hK K;dsimp only [vals];refine aiA kZ (λ K hK=>?_))|(refine clA (.inl rfl) rfl rfl rfl ?_;rw [hxa])|refine yO ?_|(refine yC ?_ ?_<;>intro hc)|(refine yN hK ?_;clear hK K))|refine wG ?_|(refine yR ?_;intro K hK)|fail)
   refine a6A (c+1,x &&& (x-1),v') (λ w5 e5=>⟨he'.trans e5,?_,hx1,λ j=>?_,?_⟩) ?_ sZ
   ·dsimp only;omega
   ·dsimp only
    rw [(lb j).2,hb]
    by_cases hj:j<c
    ·have h3:=(lb j).1.2 hj
     rw [hb] at h3;rw [h3,decide_eq_false (show ¬ c+1≤j by omega)];simp
    ·by_cases e:j=c
     ·subst e;rw [decide_eq_false (show ¬ j+1≤j by omega)];simp
     ·rw [decide_eq_true (by omega:t≤j),decide_eq_true (by omega:c+1≤j),decide_eq_true (show j≠c from e)];simp
   ·dsimp only;rw [hnx]
    have h9:=ho'.ext e5;rwa [show (64*(k:Int)+(c:Int))=((64*k+c:Nat):Int) by omega] at h9
   ·dsimp only;omega
 ·obtain rfl:k=min ws.length 1024:=oZ
  repeat' (first|(refine yL ?_;first|refine a0A rfl ?_|refine yO ?_|(refine yC ?_ ?_<;>intro hc)|(refine yN hK ?_;clear hK K))|refine wG ?_|(refine yR ?_;intro K hK)|fail)
  refine ajA rfl rfl he (λ u w2 e2 hu=>?_);obtain rfl:u=_:=hu;exact ho.ext e2
theorem wwA (w:World) (v:Value) (ws:List Int) (x:Int) (h:SlI .u64 w v ws) (hl:Lw ws) (hn:ws.length≤17592186044416) (hx:-9223372036854775808≤x∧x<9223372036854775808):Fc Tryz.prog 164 #[v,.int .i64 x] w (Ret w (.val (.int .i64 (cnt (cdA ws) (min (max x 0) (64*ws.length:Int)).toNat)))):=by
 obtain ⟨r,hr⟩:∃ r:Nat,min (max x 0) (64*ws.length:Int)=r:=⟨(min (max x 0) (64*ws.length:Int)).toNat,by omega⟩;have hrl:r≤64*ws.length:=oZ;have hq:r / 64≤ws.length:=oZ;have hcp:=o5A ws (r / 64) (r % 64) oZ;rw [show 64*(r / 64)+r % 64=r by omega] at hcp;have hc1:=cnt_le (cdA ws) r;obtain ⟨e1,e2⟩:=hl.at (r / 64);have htk:(ws.take (r / 64)).length=r / 64:=by rw [List.length_take];omega
 have hct:cnt (cdA (ws.take (r / 64))) (64*(ws.take (r / 64)).length)=cnt (cdA ws) (64*(r / 64)):=by
  rw [htk];exact cnA _ (λ i hi=>phA hi)
 have eq1:((r:Int) / 64).toNat=r / 64:=oZ;refine Fc.of (args:=[_,_]) Tryz.func164 rfl rfl Tryz.ntmps164 nZ ?_
 have hsub:SlI .u64 w (epA v 0 (r / 64) 1) (ws.take (r / 64)):=by have:=SlI.sub h (Nat.zero_le (r / 64)) hq;simpa using this
 rw [hr]
 by_cases hm:r % 64=0
 ·have hcm:cnt (cdA ws) r=cnt (cdA ws) (64*(r / 64)):=by rw [hcp,hm];simp [cnt]
  repeat' (first|(refine yL ?_;first|refine a0A rfl ?_|refine f7A rfl rfl rfl ?_|(refine cwA rfl rfl rfl ?_;rw [hr])|(refine fuA rfl _ rfl rfl (HasC.val h) rfl oZ oZ (by exact λ _=>rfl) ?_;rw [eq1])|(refine oC 116 ?_;refine a2A (f:=116) rfl rfl rfl  (.val (.int .i64 (cnt (cdA ws) (64*(r / 64))))) (by intro u1 w e hu1;(try obtain rfl:u1=_:=hu1);exact arA (by rw [hct]) (peA _ _ (ws.take (r / 64)) (hsub.ext e) (hl.take _) oZ)) ?_)|refine yO ?_|(refine yC ?_ ?_<;>intro hc)|(refine yN hK ?_;clear hK K))|refine wG ?_|(refine yR ?_;intro K hK)|fail)
  exact a9A rfl rfl (Ext.refl _) (by rw [Int.toNat_natCast,hcm])
 ·have hsh:IntKind.u64.wrap (ws.getD (r / 64) 0*2 ^ (64-(r:Int) % 64).toNat)=((wd ws (r / 64)*2 ^ (64-r % 64) % 18446744073709551616:Nat):Int):=by
   rw [e1,IntKind.wrap_u64,show (64-(r:Int) % 64).toNat=64-r % 64 by omega];have h2:((2:Int) ^ (64-r % 64))=((2 ^ (64-r % 64):Nat):Int):=by simp
   rw [h2,← Int.natCast_mul];omega
  have hpp:=y2A (wd ws (r / 64)) (r % 64) oZ
  repeat' (first|(refine yL ?_;first|refine a0A rfl ?_|refine f7A rfl rfl rfl ?_|(refine cwA rfl rfl rfl ?_;rw [hr])|(refine fuA rfl _ rfl rfl (HasC.val h) rfl oZ oZ (by exact λ _=>rfl) ?_;rw [eq1])|(refine oC 116 ?_;refine a2A (f:=116) rfl rfl rfl  (.val (.int .i64 (cnt (cdA ws) (64*(r / 64))))) (by intro u1 w e hu1;(try obtain rfl:u1=_:=hu1);exact arA (by rw [hct]) (peA _ _ (ws.take (r / 64)) (hsub.ext e) (hl.take _) oZ)) ?_)|(refine gsA rfl _ rfl (λ _=>rfl) rfl (HasI.val h) rfl oZ oZ ?_;rw [eq1])|(show LA _ _ _ _ (⟨_,.binOp .shl _ _ _ _,_,_,_,_⟩::_) _;refine hhA rfl rfl rfl oZ (by dsimp only [IntKind.bits];omega) ?_;rw [hsh])|(refine oC 166 ?_;refine a2A (f:=166) rfl rfl rfl  (.val (.int .i64 (cnt (λ i=>(wd ws (r / 64)).testBit i) (r % 64)))) (by intro u1 w e hu1;(try obtain rfl:u1=_:=hu1);exact arA (by rw [hpp]) (ibA rfl oZ)) ?_)|refine yO ?_|(refine yC ?_ ?_<;>intro hc)|(refine yN hK ?_;clear hK K))|refine wG ?_|(refine yR ?_;intro K hK)|fail)
  exact a9A rfl rfl (Ext.refl _) (by rw [Int.toNat_natCast];congr 1;omega)
theorem acB (w:World) (v:Value) (ws:List Int) (x:Nat) (h:SlI .u64 w v ws) (hl:Lw ws) (hx:x<65536):Fc Tryz.prog 169 #[v,.int .u16 x] w (Ret w (.val (.bool (cdA ws x)))):=by
 have hlen:=h.len;refine Fc.of (args:=[_,_]) Tryz.func169 rfl rfl Tryz.ntmps169 nZ ?_
 obtain ⟨e1,e2⟩:=hl.at (x / 64)
 by_cases hc:x / 64<ws.length
 ·have eq1:((x:Int) / 64).toNat=x / 64:=oZ
  obtain ⟨y,hy⟩:∃ y,y=wd ws (x / 64) / 2 ^ (x % 64):=⟨_,rfl⟩;have hyl:y≤wd ws (x / 64):=by rw [hy];exact Nat.div_le_self _ _
  have hsh:ws.getD (x / 64) 0 / 2 ^ ((x:Int) % 64).toNat=(y:Int):=by
   rw [e1,hy,show ((x:Int) % 64).toNat=x % 64 by omega,Int.natCast_ediv];simp
  have han:bits .and .u64 (y:Int) 1=((y % 2:Nat):Int):=by
   rw [show (1:Int)=((1:Nat):Int) by rfl,bits_and_u64_nat y 1 oZ dZ];exact congrArg _ (Nat.and_one_is_mod y)
  have hb:cdA ws x=decide (y % 2=1):=by rw [hy];unfold cdA;exact Nat.testBit_eq_decide_div_mod_eq
  cases hv:cdA ws x
  all_goals rw [hv] at hb
  all_goals have hb':=hb.symm
  all_goals simp only [decide_eq_true_eq,decide_eq_false_iff_not] at hb'
  all_goals
   repeat' (first|(refine yL ?_;first|refine a0A rfl ?_|(refine gsA rfl _ rfl (λ _=>rfl) rfl (HasI.val h) rfl oZ oZ ?_;rw [eq1])|(show LA _ _ _ _ (⟨_,.binOp .shr _ _ _ _,_,_,_,_⟩::_) _;refine f0A rfl rfl rfl oZ (by dsimp only [IntKind.bits];omega) ?_;rw [hsh])|(refine clA (.inl rfl) rfl rfl rfl ?_;rw [han])|refine yO ?_|(refine yC ?_ ?_<;>intro hc)|(refine yN hK ?_;clear hK K))|refine wG ?_|(refine yR ?_;intro K hK)|fail)
  all_goals exact a9A rfl rfl (Ext.refl _) rfl
 ·have hv:cdA ws x=false:=piA oZ
  rw [hv]
  repeat' (first|(refine yL ?_;first|refine a0A rfl ?_|refine yO ?_|(refine yC ?_ ?_<;>intro hc)|(refine yN hK ?_;clear hK K))|refine wG ?_|(refine yR ?_;intro K hK)|fail)
  exact a9A rfl rfl (Ext.refl _) rfl
def h2A (F:Bool→Bool→Bool) (a b:List Int) (i:Nat):Bool:=decide (i<64*min (min a.length b.length) 1024) && F (cdA a i) (cdA b i)
theorem o0A (F:Bool→Bool→Bool) (G:Nat→Nat→Nat) (ft:FuncId) (hT:∀ (x y:Nat) (w:World),x<18446744073709551616→y<18446744073709551616→Fc Tryz.prog ft #[.int .u64 x,.int .u64 y] w (Ret w (.val (.int .u64 (G x y)))))
 (hG:∀ x y,x<18446744073709551616→y<18446744073709551616→G x y<18446744073709551616∧∀ i,i<64→(G x y).testBit i=F (x.testBit i) (y.testBit i)) (w:World) (va vb:Value) (a b:List Int) (ha:SlI .u64 w va a) (hb:SlI .u64 w vb b) (hla:Lw a) (hlb:Lw b) :
 Fc Tryz.prog 133 #[va,vb,.func (.func ft) #[] #[]] w (Ret w (.pred (bnA w.heap.size 39 .u64 (wordsOf (h2A F a b))))):=by
 have hlen:=ha.len;have hlen':=hb.len;refine Fc.of (args:=[_,_,_]) Tryz.func133 rfl rfl Tryz.ntmps133 nZ ?_
 repeat' (first|(refine yL ?_;first|refine a0A rfl ?_|refine kxA (n:=1024) rfl n2A rfl rfl dZ dZ ?_|refine zsA rfl rfl rfl rfl ?_|refine yO ?_|(refine yC ?_ ?_<;>intro hc)|(refine yN hK ?_;clear hK K))|refine wG ?_|(refine yR ?_;intro K hK)|fail)
 refine e4A 7 rfl (λ v7 w3 e3 h3=>?_);have h3:OwnI w.heap.size 39 .u64 w3 v7 (List.replicate 1024 0):=h3;obtain ⟨L,hL⟩:∃ L:Nat,L=min (min a.length b.length) 1024:=⟨_,rfl⟩;have hLi:min (min (a.length:Int) (b.length:Int)) 1024=L:=oZ;rw [hLi]
 refine agA (ι:=Nat × List Int) (λ i=>[(0,.val va),(1,.val vb),(2,.val (.func (.func ft) #[] #[])),(7,.val v7),(14,.val (.int .i64 L)),(15,.val (.int .i64 i.1))]) (λ i w'=>Ext w w'∧i.1≤L∧i.2.length=1024∧Lw i.2∧(∀ j,j<65536→cdA i.2 j=(decide (j<64*i.1) && F (cdA a j) (cdA b j)))∧OwnI w.heap.size 39 .u64 w' v7 i.2)
  (λ i=>L-i.1) (λ w2 e2=>⟨(0,List.replicate 1024 0),⟨e3.trans e2,Nat.zero_le _,List.length_replicate,muA _,λ j _=>by rw [l7A];simp,h3.ext e2⟩,sZ⟩) ?_
 rintro ⟨k,ws⟩ w1 ⟨he,hk,hwl,hlw,hbit,ho⟩;dsimp only at hk hwl hlw hbit ho ⊢;have h1:=ha.ext he;have h2:=hb.ext he
 by_cases hkl:k<L
 ·obtain ⟨gb,cap,cur,rfl,hgb,hgc,hgn,hgm,hgs,hgt⟩:=ho.row oZ
  obtain ⟨e1,e2⟩:=hla.at k;obtain ⟨e1',e2'⟩:=hlb.at k;obtain ⟨g1,g2⟩:=hG _ _ e2 e2'
  repeat' (first|(refine yL ?_;first|refine a0A rfl ?_|(refine d2A (s:=1) rfl rfl (λ _=>rfl) rfl rfl oZ oZ ?_;rw [Int.toNat_natCast])|(refine a4A (hK _ _ rfl (d1A (o:=0+k*1) rfl rfl rfl hgc (λ _=>rfl) oZ rfl rfl (λ w4 e4=>?_)));clear hK K;dsimp only [vals];refine aiA kZ (λ K hK=>?_))|refine yO ?_|(refine yC ?_ ?_<;>intro hc)|(refine yV ?_;first|refine a3A (f:=ft) (r1:=.val (.int .u64 _)) (r2:=.val (.int .u64 _)) rfl rfl rfl rfl (.val (.int .u64 (G (wd a k) (wd b k)))) (by intro u1 u2 w e hu1 hu2;obtain rfl:u1=_:=hu1;obtain rfl:u2=_:=hu2;rw [e1,e1'];exact hT _ _ _ e2 e2') ?_)|(refine yN hK ?_;clear hK K))|(refine oCX ?_;first|refine ccA 13 dZ kZ kZ (λ K hK=>?_))|refine wG ?_|(refine yR ?_;intro K hK)|fail)
  refine a6A (k+1,ws.set (0+k*1) ((G (wd a k) (wd b k):Nat):Int)) (λ w5 e5=>⟨((he.trans e4).setRow hgb _).trans e5,?_,?_,?_,?_,?_⟩) ?_ sZ
  ·dsimp only;omega
  ·dsimp only;simp [hwl]
  ·exact hlw.set _ g1
  ·intro j hj
   dsimp only;rw [show 0+k*1=k by omega,l8A oZ]
   by_cases e:j / 64=k
   ·rw [if_pos e,g2 _ oZ,decide_eq_true oZ]
    unfold cdA;rw [e];simp
   ·rw [if_neg e,hbit j hj,show decide (j<64*(k+1))=decide (j<64*k) by rw [decide_eq_decide];omega]
  ·have hh:=OwnI.set hgb (e4.block hgc) hgn hgm hgs hgt (0+k*1) oZ ((G (wd a k) (wd b k):Nat):Int)
   dsimp only;exact OwnI.ext hh e5
  ·dsimp only;omega
 ·obtain rfl:k=L:=oZ
  repeat' (first|(refine yL ?_;first|refine a0A rfl ?_|refine yO ?_|(refine yC ?_ ?_<;>intro hc)|(refine yN hK ?_;clear hK K))|refine wG ?_|(refine yR ?_;intro K hK)|fail)
  refine ajA rfl rfl he (λ u w2 e2 hu=>?_);obtain rfl:u=_:=hu;have hh:=ho.ext e2;rwa [jrA hlw hwl,byA (q:=h2A F a b) (λ i hi=>by rw [hbit i hi];unfold h2A;rw [← hL])] at hh
end Go.Proofs.YtlnaebejmjmepaaGreatDoor
end
section
namespace Go.Proofs.YtlnaebejmjmepaaGreatDoor
open Go.LA Go.ArrP Go.RowKit
theorem o9A (a:Nat):BitVec.ofInt 64 (a:Int)=BitVec.ofNat 64 a:=by
 rw [BitVec.ofInt_natCast]
theorem pdA (v:BitVec 64):IntKind.u64.wrap (v.toNat:Int)=(v.toNat:Int):=by
 have:=v.isLt;rw [IntKind.wrap_u64];omega
def ytA (x y:Nat):Nat:=(BitVec.ofNat 64 x ^^^ BitVec.ofNat 64 y).toNat
def yuA (x y:Nat):Nat:=(BitVec.ofNat 64 x &&& ~~~BitVec.ofNat 64 y).toNat
theorem a2B (a b:Nat):bits .xor .u64 (a:Int) (b:Int)=((ytA a b:Nat):Int):=by
 show IntKind.u64.wrap ((BitVec.ofInt 64 (a:Int) ^^^ BitVec.ofInt 64 (b:Int)).toNat:Int)=_
 rw [o9A,o9A,pdA];rfl
theorem b8B (a b:Nat):bits .andNot .u64 (a:Int) (b:Int)=((yuA a b:Nat):Int):=by
 show IntKind.u64.wrap ((BitVec.ofInt 64 (a:Int) &&& ~~~BitVec.ofInt 64 (b:Int)).toNat:Int)=_
 rw [o9A,o9A,pdA];rfl
theorem ntA (x y i:Nat) (hi:i<64):(ytA x y).testBit i=!(x.testBit i == y.testBit i):=by
 unfold ytA;rw [BitVec.testBit_toNat,BitVec.getLsbD_xor,BitVec.getLsbD_ofNat,BitVec.getLsbD_ofNat];simp only [hi,decide_true,Bool.true_and];cases x.testBit i <;> cases y.testBit i <;> rfl
theorem nuA (x y i:Nat) (hi:i<64):(yuA x y).testBit i=(x.testBit i && !y.testBit i):=by
 unfold yuA;rw [BitVec.testBit_toNat,BitVec.getLsbD_and,BitVec.getLsbD_not,BitVec.getLsbD_ofNat,BitVec.getLsbD_ofNat];simp [hi]
theorem x3A (x y:Nat) (w:World) (hx:x<18446744073709551616) (hy:y<18446744073709551616):Fc Tryz.prog 144 #[.int .u64 x,.int .u64 y] w (Ret w (.val (.int .u64 ((x &&& y:Nat):Int)))):=by
 refine Fc.of (args:=[_,_]) Tryz.func144 rfl rfl Tryz.ntmps144 nZ ?_
 repeat' (first|(refine yL ?_;first|refine a0A rfl ?_|refine clA (.inl rfl) rfl rfl rfl ?_|refine yO ?_|(refine yC ?_ ?_<;>intro hc)|(refine yN hK ?_;clear hK K))|refine wG ?_|(refine yR ?_;intro K hK)|fail)
 exact a9A rfl rfl (Ext.refl _) (by rw [bits_and_u64_nat x y hx hy])
theorem a8B (x y:Nat) (w:World) (hx:x<18446744073709551616) (hy:y<18446744073709551616):Fc Tryz.prog 134 #[.int .u64 x,.int .u64 y] w (Ret w (.val (.int .u64 ((x ||| y:Nat):Int)))):=by
 refine Fc.of (args:=[_,_]) Tryz.func134 rfl rfl Tryz.ntmps134 nZ ?_
 repeat' (first|(refine yL ?_;first|refine a0A rfl ?_|refine clA (.inr (.inl rfl)) rfl rfl rfl ?_|refine yO ?_|(refine yC ?_ ?_<;>intro hc)|(refine yN hK ?_;clear hK K))|refine wG ?_|(refine yR ?_;intro K hK)|fail)
 exact a9A rfl rfl (Ext.refl _) (by rw [or64 x y hx hy])
theorem wuA (x y:Nat) (w:World) (hx:x<18446744073709551616) (hy:y<18446744073709551616):Fc Tryz.prog 150 #[.int .u64 x,.int .u64 y] w (Ret w (.val (.int .u64 ((ytA x y:Nat):Int)))):=by
 refine Fc.of (args:=[_,_]) Tryz.func150 rfl rfl Tryz.ntmps150 nZ ?_
 repeat' (first|(refine yL ?_;first|refine a0A rfl ?_|refine clA (.inr (.inr (.inl rfl))) rfl rfl rfl ?_|refine yO ?_|(refine yC ?_ ?_<;>intro hc)|(refine yN hK ?_;clear hK K))|refine wG ?_|(refine yR ?_;intro K hK)|fail)
 exact a9A rfl rfl (Ext.refl _) (by rw [a2B])
theorem wxA (x y:Nat) (w:World) (hx:x<18446744073709551616) (hy:y<18446744073709551616):Fc Tryz.prog 147 #[.int .u64 x,.int .u64 y] w (Ret w (.val (.int .u64 ((yuA x y:Nat):Int)))):=by
 refine Fc.of (args:=[_,_]) Tryz.func147 rfl rfl Tryz.ntmps147 nZ ?_
 repeat' (first|(refine yL ?_;first|refine a0A rfl ?_|refine clA (.inr (.inr (.inr rfl))) rfl rfl rfl ?_|refine yO ?_|(refine yC ?_ ?_<;>intro hc)|(refine yN hK ?_;clear hK K))|refine wG ?_|(refine yR ?_;intro K hK)|fail)
 exact a9A rfl rfl (Ext.refl _) (by rw [b8B])
section
variable (w:World) (va vb:Value) (a b:List Int) (ha:SlI .u64 w va a) (hb:SlI .u64 w vb b) (hla:Lw a) (hlb:Lw b)
include ha hb hla hlb
theorem aeB:Fc Tryz.prog 101 #[va,vb] w (Ret w (.pred (bnA w.heap.size 39 .u64 (wordsOf (h2A (λ x y=>x && y) a b))))):=by
 refine Fc.of (args:=[_,_]) Tryz.func101 rfl rfl Tryz.ntmps101 nZ ?_
 repeat' (first|(refine yL ?_;first|refine a0A rfl ?_|refine yO ?_|(refine yC ?_ ?_<;>intro hc)|(refine yV ?_;first|(refine oC 133 ?_;refine alA (f:=133) rfl rfl rfl rfl rfl  (.pred (bnA w.heap.size 39 .u64 (wordsOf (h2A (λ x y=>x && y) a b)))) (by intro u1 u2 u3 w e hu1 hu2 hu3;(try obtain rfl:u1=_:=hu1);(try obtain rfl:u2=_:=hu2);(try obtain rfl:u3=_:=hu3);exact (o0A (λ x y=>x && y) (λ x y=>x &&& y) _ x3A (λ x y hx hy=>⟨Nat.lt_of_le_of_lt Nat.and_le_left hx,λ i _=>Nat.testBit_and x y i⟩) _ _ _ a b (ha.ext e) (hb.ext e) hla hlb).mono (aaA e.size)) ?_))|(refine yN hK ?_;clear hK K))|refine wG ?_|(refine yR ?_;intro K hK)|fail)
 exact ajA rfl rfl (Ext.refl _) (λ _ _ _ h=>h)
theorem wor_c:Fc Tryz.prog 92 #[va,vb] w (Ret w (.pred (bnA w.heap.size 39 .u64 (wordsOf (h2A (λ x y=>x || y) a b))))):=by
 refine Fc.of (args:=[_,_]) Tryz.func92 rfl rfl Tryz.ntmps92 nZ ?_
 repeat' (first|(refine yL ?_;first|refine a0A rfl ?_|refine yO ?_|(refine yC ?_ ?_<;>intro hc)|(refine yV ?_;first|(refine oC 133 ?_;refine alA (f:=133) rfl rfl rfl rfl rfl  (.pred (bnA w.heap.size 39 .u64 (wordsOf (h2A (λ x y=>x || y) a b)))) (by intro u1 u2 u3 w e hu1 hu2 hu3;(try obtain rfl:u1=_:=hu1);(try obtain rfl:u2=_:=hu2);(try obtain rfl:u3=_:=hu3);exact (o0A (λ x y=>x || y) (λ x y=>x ||| y) _ a8B (λ x y hx hy=>⟨Nat.or_lt_two_pow (n:=64) hx hy,λ i _=>Nat.testBit_or x y i⟩) _ _ _ a b (ha.ext e) (hb.ext e) hla hlb).mono (aaA e.size)) ?_))|(refine yN hK ?_;clear hK K))|refine wG ?_|(refine yR ?_;intro K hK)|fail)
 exact ajA rfl rfl (Ext.refl _) (λ _ _ _ h=>h)
theorem aaB:Fc Tryz.prog 105 #[va,vb] w (Ret w (.pred (bnA w.heap.size 39 .u64 (wordsOf (h2A (λ x y=>x && !y) a b))))):=by
 refine Fc.of (args:=[_,_]) Tryz.func105 rfl rfl Tryz.ntmps105 nZ ?_
 repeat' (first|(refine yL ?_;first|refine a0A rfl ?_|refine yO ?_|(refine yC ?_ ?_<;>intro hc)|(refine yV ?_;first|(refine oC 133 ?_;refine alA (f:=133) rfl rfl rfl rfl rfl  (.pred (bnA w.heap.size 39 .u64 (wordsOf (h2A (λ x y=>x && !y) a b)))) (by intro u1 u2 u3 w e hu1 hu2 hu3;(try obtain rfl:u1=_:=hu1);(try obtain rfl:u2=_:=hu2);(try obtain rfl:u3=_:=hu3);exact (o0A (λ x y=>x && !y) yuA _ wxA (λ x y hx hy=>⟨(BitVec.ofNat 64 x &&& ~~~BitVec.ofNat 64 y).isLt,λ i hi=>nuA x y i hi⟩) _ _ _ a b (ha.ext e) (hb.ext e) hla hlb).mono (aaA e.size)) ?_))|(refine yN hK ?_;clear hK K))|refine wG ?_|(refine yR ?_;intro K hK)|fail)
 exact ajA rfl rfl (Ext.refl _) (λ _ _ _ h=>h)
theorem a4B:Fc Tryz.prog 108 #[va,vb] w (Ret w (.pred (bnA w.heap.size 39 .u64 (wordsOf (h2A (λ x y=>!(x == y)) a b))))):=by
 refine Fc.of (args:=[_,_]) Tryz.func108 rfl rfl Tryz.ntmps108 nZ ?_
 repeat' (first|(refine yL ?_;first|refine a0A rfl ?_|refine yO ?_|(refine yC ?_ ?_<;>intro hc)|(refine yV ?_;first|(refine oC 133 ?_;refine alA (f:=133) rfl rfl rfl rfl rfl  (.pred (bnA w.heap.size 39 .u64 (wordsOf (h2A (λ x y=>!(x == y)) a b)))) (by intro u1 u2 u3 w e hu1 hu2 hu3;(try obtain rfl:u1=_:=hu1);(try obtain rfl:u2=_:=hu2);(try obtain rfl:u3=_:=hu3);exact (o0A (λ x y=>!(x == y)) ytA _ wuA (λ x y hx hy=>⟨(BitVec.ofNat 64 x ^^^ BitVec.ofNat 64 y).isLt,λ i hi=>ntA x y i hi⟩) _ _ _ a b (ha.ext e) (hb.ext e) hla hlb).mono (aaA e.size)) ?_))|(refine yN hK ?_;clear hK K))|refine wG ?_|(refine yR ?_;intro K hK)|fail)
 exact ajA rfl rfl (Ext.refl _) (λ _ _ _ h=>h)
end
end Go.Proofs.YtlnaebejmjmepaaGreatDoor
end
section
namespace Go.Proofs.YtlnaebejmjmepaaGreatDoor
open Go.LA Go.ArrP Go.RowKit
def gxA (ws:List Int):Nat→Nat
 | 0=>0
 | k+1=>wd ws k / 9223372036854775808
theorem uaA (ws:List Int) (hl:Lw ws) (k i:Nat):(gxA ws k).testBit i=(decide (i=0) && (decide (0<k) && cdA ws (64*k-1))):=by
 cases k with
 | zero=>simp [gxA]
 | succ k =>
   have h2:=(hl.at k).2;have e:cdA ws (64*(k+1)-1)=(wd ws k).testBit 63:=by
    unfold cdA;rw [show (64*(k+1)-1) / 64=k by omega,show (64*(k+1)-1) % 64=63 by omega]
   rw [e,gxA,show wd ws k / 9223372036854775808=(wd ws k) >>> 63 by rw [Nat.shiftRight_eq_div_pow],Nat.testBit_shiftRight]
   by_cases h:i=0
   ·subst h;simp
   ·rw [decide_eq_false h,Nat.testBit_lt_two_pow (Nat.lt_of_lt_of_le h2 (Nat.pow_le_pow_right (n:=2) dZ (by omega:64≤63+i)))];simp
theorem m5A (ws:List Int) (hl:Lw ws) (k:Nat):cnt (bcA (cdA ws)) (64*(k+1))=cnt (bcA (cdA ws)) (64*k)+fbA (yuA (wd ws k) ((wd ws k*2 % 18446744073709551616) ||| gxA ws k)):=by
 rw [show 64*(k+1)=64*k+64 by omega,eyA];congr 1;unfold fbA;refine cnA 64 λ i hi=>?_
 rw [nuA _ _ _ hi,Nat.testBit_or,uaA ws hl];have hs:(wd ws k*2 % 18446744073709551616).testBit i=(decide (1≤i) && (wd ws k).testBit (i-1)):=by
  rw [show (18446744073709551616:Nat)=2 ^ 64 by rfl,Nat.testBit_mod_two_pow,decide_eq_true hi,Bool.true_and,Nat.mul_comm,show 2*wd ws k=2 ^ 1*wd ws k by rfl,Nat.testBit_two_pow_mul]
 rw [hs];have hb:∀ j,j<64→cdA ws (64*k+j)=(wd ws k).testBit j:=λ j hj=>by
  unfold cdA;rw [show (64*k+j) / 64=k by omega,show (64*k+j) % 64=j by omega]
 simp only [bcA];rw [hb i hi];congr 1
 by_cases h0:i=0
 ·subst h0
  rw [decide_eq_false (show ¬ 1≤0 by omega),Nat.add_zero]
  by_cases hk:k=0
  ·subst hk;simp
  ·rw [decide_eq_true (by omega:0<k),show (64*k == 0)=false by simp;omega];simp
 ·rw [decide_eq_true (by omega:1≤i),decide_eq_false h0,show (64*k+i == 0)=false by simp;omega,show 64*k+i-1=64*k+(i-1) by omega,hb (i-1) oZ];simp
theorem wvA (w:World) (v:Value) (ws:List Int) (h:SlI .u64 w v ws) (hl:Lw ws) (hn:ws.length≤17592186044416):Fc Tryz.prog 118 #[v] w (Ret w (.val (.int .i64 (cnt (bcA (cdA ws)) (64*ws.length))))):=by
 refine Fc.of (args:=[_]) Tryz.func118 rfl rfl Tryz.ntmps118 nZ ?_
 repeat' (first|(refine yL ?_;first|refine a0A rfl ?_|refine yO ?_|(refine yC ?_ ?_<;>intro hc)|(refine yN hK ?_;clear hK K))|refine wG ?_|(refine yR ?_;intro K hK)|fail)
 refine b5A (ι:=Nat) (λ k=>[(3,.val (.int .i64 (cnt (bcA (cdA ws)) (64*k)))),(4,.val (.int .u64 (gxA ws k))),(7,.val v),(8,.val (.int .i64 ws.length)),(9,.val (.int .i64 k))]) (λ k=>k≤ws.length) (λ k=>ws.length-k) 0 oZ sZ ?_
 intro k hk;have hs:=m5A ws hl k;have hc:=cnt_le (bcA (cdA ws)) (64*k);obtain ⟨e1,e2⟩:=hl.at k;have hla:gxA ws k<18446744073709551616:=by
  cases k with
  | zero=>simp [gxA]
  | succ j=>simp only [gxA];have:=(hl.at j).2;omega
 have hla2:gxA ws (k+1)=wd ws k / 9223372036854775808:=rfl;have hsh:IntKind.u64.wrap (ws.getD k 0*2 ^ (1:Int).toNat)=((wd ws k*2 % 18446744073709551616:Nat):Int):=by
  rw [e1,IntKind.wrap_u64,show (1:Int).toNat=1 by rfl,Int.pow_one];omega
 have hor:=or64 (wd ws k*2 % 18446744073709551616) (gxA ws k) oZ hla;have han:=b8B (wd ws k) (wd ws k*2 % 18446744073709551616 ||| gxA ws k);obtain ⟨G,hG⟩:∃ G,G=yuA (wd ws k) (wd ws k*2 % 18446744073709551616 ||| gxA ws k):=⟨_,rfl⟩;have hGl:G<18446744073709551616:=hG▸(BitVec.ofNat 64 (wd ws k) &&& ~~~BitVec.ofNat 64 (wd ws k*2 % 18446744073709551616 ||| gxA ws k)).isLt;rw [← hG] at hs han;rw [← e1] at han;have hp:=q8A G
 by_cases hkl:k<ws.length
 ·skip
  repeat' (first|(refine yL ?_;first|refine a0A rfl ?_|(show LA _ _ _ _ (⟨_,.binOp .shl _ _ _ _,_,_,_,_⟩::_) _;refine hhA rfl rfl rfl oZ (by dsimp only [IntKind.bits];omega) ?_;rw [hsh])|(show LA _ _ _ _ (⟨_,.binOp .or _ _ _ _,_,_,_,_⟩::_) _;refine clA (.inr (.inl rfl)) rfl rfl rfl ?_;rw [hor])|(show LA _ _ _ _ (⟨_,.binOp .andNot _ _ _ _,_,_,_,_⟩::_) _;refine clA (.inr (.inr (.inr rfl))) rfl rfl rfl ?_;rw [han])|(refine oC 166 ?_;refine a2A (f:=166) rfl rfl rfl  (.val (.int .i64 (fbA G))) (by intro u1 w e hu1;(try obtain rfl:u1=_:=hu1);exact ibA rfl hGl) ?_)|refine yO ?_|(refine yC ?_ ?_<;>intro hc)|(refine yN hK ?_;clear hK K))|refine wG ?_|(refine yR ?_;intro K hK)|fail)
  refine bpA (k+1) ?_ ?_ sZ
  ·omega
  ·omega
 ·obtain rfl:k=ws.length:=oZ
  repeat' (first|(refine yL ?_;first|refine a0A rfl ?_|refine yO ?_|(refine yC ?_ ?_<;>intro hc)|(refine yN hK ?_;clear hK K))|refine wG ?_|(refine yR ?_;intro K hK)|fail)
  exact a9A rfl rfl (Ext.refl _) rfl
def Cut (W j x:Nat):Prop:=x<18446744073709551616∧∀ b,x.testBit b=(W.testBit b && decide (j≤cnt (λ i=>W.testBit i) b))
theorem rmA {W j x:Nat} (hW:W<18446744073709551616) (h:Cut W j x) (hj:j<fbA W):x≠0∧W.testBit (Lib.ctz 64 x)=true∧cnt (λ i=>W.testBit i) (Lib.ctz 64 x)=j∧Lib.ctz 64 x<64∧Cut W (j+1) (x &&& (x-1)):=by
 obtain ⟨hx,hb⟩:=h;obtain ⟨b,g1,g2,g3,-⟩:=e1A (λ i=>W.testBit i) 64 j hj;have hxb:x.testBit b=true:=by rw [hb,g3];simp [g2]
 have h0:x≠0:=λ e=>by rw [e,Nat.zero_testBit] at hxb;cases hxb
 obtain ⟨m,-,hc64⟩:=igA h0 hx;have lb:=qxA h0 hx;obtain ⟨c,hc⟩:∃ c,c=Lib.ctz 64 x:=⟨_,rfl⟩;rw [← hc] at hc64 lb ⊢;have hxc:=(lb 0).1.1;have hWc:W.testBit c=true∧j≤cnt (λ i=>W.testBit i) c:=by rw [hb] at hxc;simpa using hxc
 have hcj:cnt (λ i=>W.testBit i) c=j:=by
  rcases Nat.lt_or_ge j (cnt (λ i=>W.testBit i) c) with h1|h1
  ·obtain ⟨d,d1,d2,d3,-⟩:=e1A (λ i=>W.testBit i) c j h1
   have:=(lb d).1.2 d1;rw [hb,d3] at this;simp [d2] at this
  ·omega
 refine ⟨h0,hWc.1,hcj,hc64,Nat.lt_of_le_of_lt Nat.and_le_left hx,λ d=>?_⟩;rw [(lb d).2,hb];cases hd:W.testBit d
 ·simp
 ·rw [Bool.true_and,Bool.true_and]
  by_cases e:d=c
  ·subst e;rw [hcj,decide_eq_false (show ¬ j+1≤j by omega)];simp
  ·rw [decide_eq_true (show d≠c from e),Bool.and_true,decide_eq_decide]
   constructor
   ·intro h1
    rcases Nat.lt_or_ge d c with h2|h2
    ·have:=cnt_mono (λ i=>W.testBit i) (m:=d+1) c h2
     simp only [cnt,hd,if_true] at this;omega
    ·have:=cnt_mono (λ i=>W.testBit i) (m:=c+1) d oZ
     simp only [cnt,hWc.1,if_true] at this;omega
   ·omega
def svA (ws:List Int) (k:Int):Int × Bool:=if 0≤k∧k<cnt (cdA ws) (64*min ws.length 1024) then ((adA (cdA ws) (64*min ws.length 1024)).getD k.toNat 0,true) else (0,false)
theorem a5B (w:World) (v:Value) (ws:List Int) (k:Int) (h:SlI .u64 w v ws) (hl:Lw ws) (hT:Tab w) (hk:-9223372036854775808≤k∧k<9223372036854775808):Fc Tryz.prog 167 #[v,.int .i64 k] w (Ret w (.tup2 (.val (.int .u16 (svA ws k).1)) (.val (.bool (svA ws k).2)))):=by
 have hlen:=h.len;refine Fc.of (args:=[_,_]) Tryz.func167 rfl rfl Tryz.ntmps167 nZ ?_
 by_cases hk0:k<0
 ·have hs:svA ws k=(0,false):=by simp only [svA];rw [if_neg oZ]
  rw [hs]
  repeat' (first|(refine yL ?_;first|refine a0A rfl ?_|refine yO ?_|(refine yC ?_ ?_<;>intro hc)|(refine yN hK ?_;clear hK K))|refine wG ?_|(refine yR ?_;intro K hK)|fail)
  exact bgA rfl rfl rfl (Ext.refl _) rfl rfl
 ·skip
  repeat' (first|(refine yL ?_;first|refine a0A rfl ?_|refine cwA rfl rfl rfl ?_|refine yO ?_|(refine yC ?_ ?_<;>intro hc)|(refine yN hK ?_;clear hK K))|refine wG ?_|(refine yR ?_;intro K hK)|fail)
  obtain ⟨K,rfl⟩:=Int.eq_ofNat_of_zero_le (by omega:0≤k);obtain ⟨L,hL⟩:∃ L,L=min ws.length 1024:=⟨_,rfl⟩;have hLi:min (ws.length:Int) 1024=(L:Int):=oZ;rw [hLi];refine b5A (ι:=Nat) (λ i=>[(0,.val v),(1,.val (.int .i64 ((K:Int)-cnt (cdA ws) (64*i)))),(13,.val (.int .i64 L)),(14,.val (.int .i64 i))]) (λ i=>i≤L∧cnt (cdA ws) (64*i)≤K) (λ i=>L-i) 0 ⟨Nat.zero_le _,Nat.zero_le _⟩ ?_ ?_
  ·rw [show cnt (cdA ws) (64*0)=0 by rfl,show ((K:Int)-((0:Nat):Int))=K by omega];exact sZ
  rintro i ⟨hi,hcK⟩;have hcw:=o3A ws i;obtain ⟨e1,e2⟩:=hl.at i;have hp:=q8A (wd ws i)
  by_cases hiL:i<L
  ·by_cases hge:cnt (cdA ws) (64*i)+fbA (wd ws i)≤K
   ·skip
    repeat' (first|(refine yL ?_;first|refine a0A rfl ?_|refine yO ?_|(refine yC ?_ ?_<;>intro hc)|(refine yV ?_;first|(refine oC 166 ?_;refine a2A (f:=166) rfl rfl rfl  (.val (.int .i64 (fbA (wd ws i)))) (by intro u1 w e hu1;(try obtain rfl:u1=_:=hu1);exact ibA e1 e2) ?_))|(refine yN hK ?_;clear hK K))|refine wG ?_|(refine yR ?_;intro K hK)|fail)
    refine bpA (i+1) ⟨?_,?_⟩ ?_ sZ
    ·omega
    ·omega
    ·omega
   ·skip
    repeat' (first|(refine yL ?_;first|refine a0A rfl ?_|refine yO ?_|(refine yC ?_ ?_<;>intro hc)|(refine yV ?_;first|(refine oC 166 ?_;refine a2A (f:=166) rfl rfl rfl  (.val (.int .i64 (fbA (wd ws i)))) (by intro u1 w e hu1;(try obtain rfl:u1=_:=hu1);exact ibA e1 e2) ?_))|(refine yN hK ?_;clear hK K))|refine wG ?_|(refine yR ?_;intro K hK)|fail)
    obtain ⟨q,hq⟩:∃ q:Nat,(K:Int)-cnt (cdA ws) (64*i)=q:=⟨((K:Int)-cnt (cdA ws) (64*i)).toNat,by omega⟩;rw [hq];refine b5A (ι:=Nat × Nat) (λ z=>[(6,.val (.int .i64 i)),(7,.val (.int .u64 z.2)),(29,.val (.int .i64 q)),(30,.val (.int .i64 z.1))]) (λ z=>z.1≤q∧Cut (wd ws i) z.1 z.2) (λ z=>q-z.1) (0,wd ws i) ⟨Nat.zero_le _,e2,λ b=>by simp⟩ ?_ ?_
    ·dsimp only;rw [← e1];exact sZ
    rintro ⟨j,x⟩ ⟨hjq,hcut⟩;dsimp only at hjq hcut ⊢;have hx:=hcut.1
    by_cases hj:j<q
    ·obtain ⟨h0,-,-,-,hcut'⟩:=rmA e2 hcut oZ
     have hxa:bits .and .u64 (x:Int) ((x:Int)-1)=((x &&& (x-1):Nat):Int):=lyA _ _ hx oZ rfl oZ
     repeat' (first|(refine yL ?_;first|refine a0A rfl ?_|(refine clA (.inl rfl) rfl rfl rfl ?_;rw [hxa])|refine yO ?_|(refine yC ?_ ?_<;>intro hc)|(refine yN hK ?_;clear hK K))|refine wG ?_|(refine yR ?_;intro K hK)|fail)
     refine bpA (j+1,x &&& (x-1)) ⟨?_,hcut'⟩ ?_ sZ
     ·dsimp only;omega
     ·dsimp only;omega
    ·obtain rfl:j=q:=oZ
     obtain ⟨h0,hc1,hc2,hc3,-⟩:=rmA e2 hcut oZ;obtain ⟨c,hc⟩:∃ c,c=Lib.ctz 64 x:=⟨_,rfl⟩;rw [← hc] at hc1 hc2 hc3;have hcp:=o5A ws i c oZ;have hwb:cdA ws (64*i+c)=true:=by unfold cdA;rw [show (64*i+c) / 64=i by omega,show (64*i+c) % 64=c by omega];exact hc1
     have hat:=emA (cdA ws) (64*L) (64*i+c) oZ hwb;have hlt:=cnt_mono (cdA ws) (m:=64*i+c+1) (64*L) oZ;simp only [cnt,hwb,if_true] at hlt;have hsel:svA ws K=(((64*i+c:Nat):Int),true):=by
      simp only [svA];rw [← hL,if_pos oZ,Int.toNat_natCast,← hat];congr 2;omega
     rw [hsel]
     repeat' (first|(refine yL ?_;first|refine a0A rfl ?_|(refine oC 115 ?_;refine a2A (f:=115) rfl rfl rfl  (.val (.int .i64 c)) (by intro u1 w e hu1;(try obtain rfl:u1=_:=hu1);exact (hc▸tz_c _ x hx (hT.ext e))) ?_)|refine yO ?_|(refine yC ?_ ?_<;>intro hc)|(refine yN hK ?_;clear hK K))|refine wG ?_|(refine yR ?_;intro K hK)|fail)
     exact bgA rfl rfl rfl (Ext.refl _) (by congr 1) rfl
  ·obtain rfl:i=L:=oZ
   have hs:svA ws K=(0,false):=by simp only [svA];rw [← hL,if_neg oZ]
   rw [hs]
   repeat' (first|(refine yL ?_;first|refine a0A rfl ?_|refine yO ?_|(refine yC ?_ ?_<;>intro hc)|(refine yN hK ?_;clear hK K))|refine wG ?_|(refine yR ?_;intro K hK)|fail)
   exact bgA rfl rfl rfl (Ext.refl _) rfl rfl
theorem khA {k:IntKind} {xs:List Int}:∀ u ∈ xs.map (Value.int k),u.oneCell'=true:=λ u hu=>by
 simp only [List.mem_map] at hu;obtain ⟨x,_,rfl⟩:=hu;rfl
def tzA (ws:List Int):List Int:=ws.take 1024++List.replicate (1024-ws.length) 0
theorem nhA (ws:List Int):(tzA ws).length=1024:=by simp [tzA];omega
theorem y5A {ws:List Int} (h:Lw ws):Lw (tzA ws):=λ x hx=>by
 rcases List.mem_append.1 hx with h1|h1
 ·exact h x (List.mem_of_mem_take h1)
 ·exact muA _ x h1
theorem tyA (ws:List Int) {i:Nat} (hi:i<65536):cdA (tzA ws) i=cdA ws i:=by
 unfold cdA wd;congr 2;unfold tzA
 by_cases h:i / 64<ws.length
 ·rw [List.getD,List.getElem?_append_left (by rw [List.length_take];omega),List.getElem?_take,if_pos oZ];rfl
 ·rw [List.getD,List.getElem?_append_right (by rw [List.length_take];omega),List.getD,List.getElem?_eq_none (by omega:ws.length≤i / 64),List.getElem?_replicate]
  split <;> rfl
def mjA (ws:List Int) (lo hi:Int) (i:Nat):Bool:=!(cdA ws i == (decide (lo≤i) && decide ((i:Int)<hi)))
theorem u7A (d s:Nat):(18446744073709551615 / 2 ^ (64-d)*2 ^ s:Int) % 18446744073709551616=((18446744073709551615 / 2 ^ (64-d)*2 ^ s % 18446744073709551616:Nat):Int):=by
 rw [Int.natCast_emod,Int.natCast_mul,Int.natCast_ediv,Int.natCast_pow,Int.natCast_pow];rfl
theorem x6A {base e:Nat} {k:IntKind} {w:World} {v:Value} (h:OwnI base e k w v (List.replicate 1024 0)):epA v 0 1024 1=v:=by
 obtain ⟨gb,cap,cur,hv,hgb,hgc,hgn,hgm,hgs,hgt⟩:=h.row (by rw [List.length_replicate];decide);rw [List.length_replicate] at hv hgn;rw [hv,f1A oZ,Nat.zero_mul,Nat.sub_zero,Nat.sub_zero]
theorem SlI.c64 {k:IntKind} {w:World} {v:Value} {xs:List Int} (h:SlI k w v xs):SlC w v xs.length 1 (xs.map (Value.int k)):=h
theorem wzA (w:World) (v:Value) (ws:List Int) (lo hi:Int) (h:SlI .u64 w v ws) (hl:Lw ws) (hlo:-9223372036854775808≤lo∧lo<9223372036854775808) (hhi:-9223372036854775808≤hi∧hi<9223372036854775808) :
 Fc Tryz.prog 42 #[v,.int .i64 lo,.int .i64 hi] w (Ret w (.pred (bnA w.heap.size 39 .u64 (wordsOf (mjA ws lo hi))))):=by
 have hlen:=h.len;refine Fc.of (args:=[_,_,_]) Tryz.func42 rfl rfl Tryz.ntmps42 nZ ?_
 repeat' (first|(refine yL ?_;first|refine a0A rfl ?_|refine kxA (n:=1024) rfl n2A rfl rfl dZ dZ ?_|refine f7A rfl rfl rfl ?_|refine cwA rfl rfl rfl ?_|(refine oD 12 ?_;refine a4A (hK _ _ (bkA 7 rfl (λ v7 w3 e3 h3=>?_)));clear hK K;have h3:OwnI w.heap.size 39 .u64 w3 v7 (List.replicate 1024 0):=h3;have hw3:=h.ext e3;have hv7:epA v7 0 (List.replicate 1024 (0:Int)).length 1=v7:=(by rw [List.length_replicate];exact x6A h3);refine aiA kZ (λ K hK=>?_))|(refine a4A (hK _ _ (f5A 0 rfl (by intro q h;cases h;decide) n2A (by rw [hv7];rfl) rfl h3 (SlI.c64 hw3) (Nat.zero_le _) (λ c hc=>khA c (List.mem_of_mem_take hc)) (λ w4 w5 e4 ho5 hg5=>?_)));clear hK K;dsimp only [vals];refine aiA kZ (λ K hK=>?_))|refine yO ?_|(refine yC ?_ ?_<;>intro hc)|(refine yN hK ?_;clear hK K))|refine wG ?_|(refine yR ?_;intro K hK)|fail)
 have x5:Ext w w5:=(e3.trans e4).grown hg5 (λ q hq=>(Own.lt h3 q hq).1);have o5:OwnI w.heap.size 39 .u64 w5 v7 (tzA ws):=by
  unfold OwnI;rw [nhA];have e:(List.map (Value.int .u64) (List.replicate 1024 (0:Int))).take (0*1)++(List.map (Value.int .u64) ws).take (min ws.length ((List.replicate 1024 (0:Int)).length-0)*1)++(List.map (Value.int .u64) (List.replicate 1024 (0:Int))).drop ((0+min ws.length ((List.replicate 1024 (0:Int)).length-0))*1)=(tzA ws).map (Value.int .u64):=by
   rw [List.length_replicate,Nat.zero_mul,List.take_zero,List.nil_append,← List.map_take,← List.map_drop,← List.map_append];unfold tzA;rw [List.drop_replicate,show min ws.length (1024-0)*1=min ws.length 1024 by omega,show 1024-(0+min ws.length (1024-0))*1=1024-ws.length by omega];congr 2
   by_cases h:ws.length≤1024
   ·rw [Nat.min_eq_left h,List.take_of_length_le (Nat.le_refl _),List.take_of_length_le h]
   ·rw [Nat.min_eq_right oZ]
  rw [e,List.length_replicate] at ho5;exact ho5
 obtain ⟨LO,hLO⟩:∃ LO:Nat,max lo 0=LO:=⟨(max lo 0).toNat,by omega⟩;obtain ⟨HI,hHI⟩:∃ HI:Int,min hi 65536=HI:=⟨_,rfl⟩;rw [hLO,hHI];have hLb:(LO:Int)<9223372036854775808:=oZ;have hHb:-9223372036854775808≤HI∧HI≤65536:=oZ
 refine agA (ι:=Nat × List Int) (λ i=>[(1,.val (.int .i64 LO)),(2,.val (.int .i64 HI)),(7,.val v7),(19,.val (.int .i64 i.1))]) (λ i w'=>Ext w w'∧i.1≤1024∧i.2.length=1024∧Lw i.2∧(∀ j,j<65536→cdA i.2 j=if j<64*i.1 then mjA ws lo hi j else cdA ws j)∧OwnI w.heap.size 39 .u64 w' v7 i.2)
  (λ i=>1024-i.1) (λ w2 e2=>⟨(0,tzA ws),⟨x5.trans e2,Nat.zero_le _,nhA ws,y5A hl,λ j hj=>by rw [tyA ws hj];simp,o5.ext e2⟩,sZ⟩) ?_
 rintro ⟨k,l⟩ w1 ⟨he,hk,hwl,hlw,hbit,ho⟩;dsimp only at hk hwl hlw hbit ho ⊢;clear hLb
 by_cases hkl:k<1024
 ·have tail:∀ j,j<65536→j / 64≠k→cdA l j=if j<64*(k+1) then mjA ws lo hi j else cdA ws j:=λ j hj e=>by
   rw [hbit j hj]
   by_cases h1:j<64*k
   ·rw [if_pos h1,if_pos oZ]
   ·rw [if_neg h1,if_neg oZ]
  by_cases hfg:max (LO:Int) (64*k)<min HI (64*k+64)
  ·obtain ⟨d,s,hs,hd,hds,hbits⟩:∃ d s:Nat,max (LO:Int) (64*k)-64*k=s∧min HI (64*k+64)-max (LO:Int) (64*k)=d∧(0<d∧d+s≤64)∧∀ b,b<64→((decide (s≤b) && decide (b<s+d))=(decide (lo≤((64*k+b:Nat):Int)) && decide (((64*k+b:Nat):Int)<hi))):=by
    refine ⟨(min HI (64*k+64)-max (LO:Int) (64*k)).toNat,(max (LO:Int) (64*k)-64*k).toNat,by omega,by omega,by omega,λ b hb=>?_⟩;congr 1
    ·rw [decide_eq_decide];omega
    ·rw [decide_eq_decide];omega
   obtain ⟨M,hM⟩:∃ M:Nat,M=18446744073709551615 / 2 ^ (64-d)*2 ^ s % 18446744073709551616:=⟨_,rfl⟩;have hmask:∀ b,M.testBit b=(decide (s≤b) && decide (b<s+d)):=λ b=>by rw [hM];exact u8A d s b hds.2
   have hMi:IntKind.u64.wrap (18446744073709551615 / 2 ^ (64-(min HI (64*(k:Int)+64)-max (LO:Int) (64*k))).toNat*2 ^ (max (LO:Int) (64*k)-64*k).toNat)=(M:Int):=by
    rw [hs,hd,hM,IntKind.wrap_u64,show (64-(d:Int)).toNat=64-d by omega,Int.toNat_natCast];exact u7A d s
   obtain ⟨gb,cap,cur,rfl,hgb,hgc,hgn,hgm,hgs,hgt⟩:=ho.row oZ;have hra:=q2A hgt (i:=0+k*1) oZ;obtain ⟨e1,e2⟩:=hlw.at k;rw [show 0+k*1=k by omega,e1] at hra
   repeat' (first|(refine yL ?_;first|refine a0A rfl ?_|refine f7A rfl rfl rfl ?_|refine cwA rfl rfl rfl ?_|(refine d2A (s:=1) rfl rfl (λ _=>rfl) rfl rfl oZ oZ ?_;rw [Int.toNat_natCast])|refine a5A rfl (λ _=>rfl) rfl hgc (by rw [show 0+k*1=k by omega];exact hra) ?_|(refine clA (.inr (.inr (.inl rfl))) rfl rfl rfl ?_;rw [hMi,a2B])|(refine a4A (hK _ _ rfl (d1A (o:=0+k*1) rfl rfl rfl hgc (λ _=>rfl) oZ rfl rfl (λ w4 e4=>?_)));clear hK K;dsimp only [vals];refine aiA kZ (λ K hK=>?_))|refine yO ?_|(refine yC ?_ ?_<;>intro hc)|(refine yN hK ?_;clear hK K))|(refine oCX ?_;first|refine ccA 16 dZ kZ kZ (λ K hK=>?_))|refine wG ?_|(refine yR ?_;intro K hK)|fail)
   refine a6A (k+1,l.set (0+k*1) ((ytA (wd l k) M:Nat):Int)) (λ w5 e5=>⟨((he.trans e4).setRow hgb _).trans e5,?_,?_,?_,?_,?_⟩) ?_ sZ
   ·dsimp only;omega
   ·dsimp only;simp [hwl]
   ·exact hlw.set _ (BitVec.ofNat 64 (wd l k) ^^^ BitVec.ofNat 64 M).isLt
   ·intro j hj
    dsimp only;rw [show 0+k*1=k by omega,l8A oZ]
    by_cases e:j / 64=k
    ·have hb:=hbit j hj
     rw [if_neg oZ] at hb;rw [if_pos e,ntA _ _ _ oZ,if_pos oZ,hmask,hbits _ oZ,show 64*k+j % 64=j by omega];unfold mjA;rw [← hb];unfold cdA;rw [e]
    ·rw [if_neg e];exact tail j hj e
   ·have hh:=OwnI.set hgb (e4.block hgc) hgn hgm hgs hgt (0+k*1) oZ ((ytA (wd l k) M:Nat):Int)
    dsimp only;exact OwnI.ext hh e5
   ·dsimp only;omega
  ·skip
   repeat' (first|(refine yL ?_;first|refine a0A rfl ?_|refine f7A rfl rfl rfl ?_|refine cwA rfl rfl rfl ?_|refine yO ?_|(refine yC ?_ ?_<;>intro hc)|(refine yN hK ?_;clear hK K))|refine wG ?_|(refine yR ?_;intro K hK)|fail)
   refine a6A (k+1,l) (λ w5 e5=>⟨he.trans e5,?_,hwl,hlw,?_,ho.ext e5⟩) ?_ sZ
   ·dsimp only;omega
   ·intro j hj
    dsimp only
    by_cases e:j / 64=k
    ·have hb:=hbit j hj
     rw [if_neg oZ] at hb;rw [hb,if_pos oZ];unfold mjA;have:(decide (lo≤(j:Int)) && decide ((j:Int)<hi))=false:=by
      rw [Bool.and_eq_false_iff,decide_eq_false_iff_not,decide_eq_false_iff_not];omega
     rw [this];cases cdA ws j <;> rfl
    ·exact tail j hj e
   ·dsimp only;omega
 ·obtain rfl:k=1024:=oZ
  repeat' (first|(refine yL ?_;first|refine a0A rfl ?_|refine yO ?_|(refine yC ?_ ?_<;>intro hc)|(refine yN hK ?_;clear hK K))|refine wG ?_|(refine yR ?_;intro K hK)|fail)
  refine ajA rfl rfl he (λ u w2 e2 hu=>?_);obtain rfl:u=_:=hu;have hh:=ho.ext e2;rwa [jrA hlw hwl,byA (q:=mjA ws lo hi) (λ i hi=>by rw [hbit i hi,if_pos oZ])] at hh
theorem alB (w:World) (v u:Value) (xs ys:List Int) (h:SlI .u16 w v xs) (h':SlI .u16 w u ys):Fc Tryz.prog 55 #[v,u] w (Ret w (.val (.bool (decide (xs=ys))))):=by
 have hl:=h.len;have hl':=h'.len;refine Fc.of (args:=[_,_]) Tryz.func55 rfl rfl Tryz.ntmps55 nZ ?_
 repeat' (first|(refine yL ?_;first|refine a0A rfl ?_|refine yO ?_|(refine yC ?_ ?_<;>intro hc)|(refine yN hK ?_;clear hK K))|refine wG ?_|(refine yR ?_;intro K hK)|fail)
 ·refine a9A rfl rfl (Ext.refl _) ?_
  have:xs≠ys:=λ e=>hc (by rw [e])
  simp [this]
 ·refine b5A (ι:=Nat) (λ k=>[(0,.val v),(1,.val u),(5,.val (.int .i64 k))]) (λ k=>∀ i,i<k→i<xs.length→xs.getD i 0=ys.getD i 0) (λ k=>xs.length-k) 0 (λ i h1=>by omega) (Sub.same rfl (Sub.same rfl (Sub.same rfl Sub.nil))) ?_
  intro k hin
  repeat' (first|(refine yL ?_;first|refine a0A rfl ?_|refine yO ?_|(refine yC ?_ ?_<;>intro hc)|(refine yN hK ?_;clear hK K))|refine wG ?_|(refine yR ?_;intro K hK)|fail)
  ·refine a9A rfl rfl (Ext.refl _) ?_
   have:xs≠ys:=λ e=>hc (by rw [e])
   simp [this]
  ·refine bpA (k+1) (λ i h1 h2=>?_) oZ (Sub.same rfl (Sub.same rfl (Sub.val rfl (by simp) Sub.nil)))
   rcases Nat.lt_or_ge i k with h4|h4
   ·exact hin i h4 h2
   ·obtain rfl:i=k:=oZ
    simpa using hc
  ·refine a9A rfl rfl (Ext.refl _) ?_
   rename_i hc1
   have hle:xs.length=ys.length:=by have:¬ (xs.length:Int)≠ys.length:=hc1;omega
   have:xs=ys:=List.ext_getElem hle λ i h1 h2=>by
    have:=hin i oZ h1;rwa [awA h1,awA h2] at this
   simp [this]
theorem v7A (w:World):(Instr.build 120 #[]).run Tryz.prog w=.ok (.agg (marks (λ _=>false))) w:=by
 rw [oxA];exact run_build w _ _ _ kZ
abbrev tM:Nat:=120
theorem qoA (w:World) (v:Value) (base:Nat) (p:Nat→Bool) (h:MkI base tM w v p):Fc Tryz.prog 59 #[v] w (Ret w (.pred (bnA w.heap.size 40 .u16 (adA p 65536)))):=by
 obtain ⟨b,rfl,-,hb⟩:=h;refine Fc.of (args:=[_]) Tryz.func59 rfl rfl Tryz.ntmps59 nZ ?_
 repeat' (first|(refine yL ?_;first|refine a0A rfl ?_|refine yO ?_|(refine yC ?_ ?_<;>intro hc)|(refine yN hK ?_;clear hK K))|refine wG ?_|(refine yR ?_;intro K hK)|fail)
 refine agA (ι:=Nat × Value) (λ i=>[(0,.val (.pointer (some ⟨b,0,none⟩))),(3,.val i.2),(4,.val (.int .i64 i.1))]) (λ i w'=>Ext w w'∧i.1≤65536∧OwnI w.heap.size 40 .u16 w' i.2 (adA p i.1)) (λ i=>65536-i.1) (λ w2 e2=>⟨(0,.slice none 0 0),⟨e2,Nat.zero_le _,OwnI.nil⟩,sZ⟩) ?_
 rintro ⟨k,so⟩ w1 ⟨he,hk,ho⟩;dsimp only at hk ho ⊢;have hb1:=he.block hb
 by_cases hkl:k<65536
 ·have hget:(marks p)[0+k*1]?=some (.bool (p k)):=by rw [show 0+k*1=k by omega];exact foA p hkl
  have hll:=baA p k;have hcl:=cnt_le p k;cases hp:p k
  all_goals rw [hp] at hget
  all_goals
   repeat' (first|(refine yL ?_;first|refine a0A rfl ?_|refine afA rfl rfl ?_|refine dvA (n:=65536) (s:=1) rfl rfl (λ _=>rfl) rfl rfl k rfl hkl ?_|refine a5A rfl (λ _=>rfl) rfl hb1 hget ?_|refine hiA rfl haA rfl rfl ?_|(refine a4A (hK _ _ (duA rfl dZ haA rfl ho rfl oZ oZ he (λ v' w' he' ho'=>?_)));clear hK K;dsimp only [vals];refine aiA kZ (λ K hK=>?_))|refine yO ?_|(refine yC ?_ ?_<;>intro hc)|(refine yN hK ?_;clear hK K))|refine wG ?_|(refine yR ?_;intro K hK)|fail)
  ·refine a6A (k+1,so) (λ w5 e5=>⟨he.trans e5,?_,?_⟩) ?_ sZ
   ·dsimp only;omega
   ·dsimp only [adA];rw [hp];simpa using ho.ext e5
   ·dsimp only;omega
  ·refine a6A (k+1,v') (λ w5 e5=>⟨he'.trans e5,?_,?_⟩) ?_ sZ
   ·dsimp only;omega
   ·dsimp only [adA];rw [hp];simpa using ho'.ext e5
   ·dsimp only;omega
 ·obtain rfl:k=65536:=oZ
  repeat' (first|(refine yL ?_;first|refine a0A rfl ?_|refine yO ?_|(refine yC ?_ ?_<;>intro hc)|(refine yN hK ?_;clear hK K))|refine wG ?_|(refine yR ?_;intro K hK)|fail)
  refine ajA rfl rfl he (λ u w5 e5 hu=>?_);obtain rfl:u=_:=hu;exact ho.ext e5
theorem ycA (w:World) (v:Value) (base:Nat) (p:Nat→Bool) (h:MkI base tM w v p):Fc Tryz.prog 87 #[v] w (Ret w (.val (.int .i64 (cnt (bcA p) 65536)))):=by
 obtain ⟨b,rfl,-,hb⟩:=h;refine Fc.of (args:=[_]) Tryz.func87 rfl rfl Tryz.ntmps87 nZ ?_
 repeat' (first|(refine yL ?_;first|refine a0A rfl ?_|refine yO ?_|(refine yC ?_ ?_<;>intro hc)|(refine yN hK ?_;clear hK K))|refine wG ?_|(refine yR ?_;intro K hK)|fail)
 refine b5A (ι:=Nat) (λ k=>[(0,.val (.pointer (some ⟨b,0,none⟩))),(3,.val (.int .i64 (cnt (bcA p) k))),(4,.val (.int .i64 k))]) (λ k=>k≤65536) (λ k=>65536-k) 0 oZ sZ ?_
 intro k hk;have hcl:=cnt_le (bcA p) k;have hcs:cnt (bcA p) (k+1)=cnt (bcA p) k+if bcA p k then 1 else 0:=rfl
 by_cases hkl:k<65536
 ·have hget:(marks p)[0+k*1]?=some (.bool (p k)):=by rw [show 0+k*1=k by omega];exact foA p oZ
  have hget2:(marks p)[0+(k-1)*1]?=some (.bool (p (k-1))):=by rw [show 0+(k-1)*1=k-1 by omega];exact foA p oZ
  by_cases hk0:k=0
  ·subst hk0
   cases hp:p 0
   all_goals rw [hp] at hget
   all_goals simp only [bcA,hp,Bool.false_and,Bool.true_and,beq_self_eq_true,Bool.true_or,Bool.false_eq_true,if_false,if_true,Nat.add_zero,Nat.zero_add] at hcs
   all_goals
    repeat' (first|(refine yL ?_;first|refine a0A rfl ?_|refine afA rfl rfl ?_|refine dvA (n:=65536) (s:=1) rfl rfl (λ _=>rfl) rfl rfl 0 rfl oZ ?_|refine a5A rfl (λ _=>rfl) rfl hb hget ?_|refine yO ?_|(refine yC ?_ ?_<;>intro hc)|(refine yN hK ?_;clear hK K))|refine wG ?_|(refine yR ?_;intro K hK)|fail)
   all_goals
    refine bpA 1 ?_ ?_ sZ
    ·omega
    ·omega
  ·have hb0:(k == 0)=false:=by simpa using hk0
   cases hp:p k <;> cases hq:p (k-1)
   all_goals rw [hp] at hget
   all_goals rw [hq] at hget2
   all_goals simp only [bcA,hp,hq,hb0,Bool.false_and,Bool.true_and,Bool.false_or,Bool.not_true,Bool.not_false,Bool.false_eq_true,if_false,if_true,Nat.add_zero,Nat.zero_add] at hcs
   all_goals
    repeat' (first|(refine yL ?_;first|refine a0A rfl ?_|refine afA rfl rfl ?_|refine dvA (n:=65536) (s:=1) rfl rfl (λ _=>rfl) rfl rfl k rfl oZ ?_|refine dvA (n:=65536) (s:=1) rfl rfl (λ _=>rfl) rfl rfl (k-1) oZ oZ ?_|refine a5A rfl (λ _=>rfl) rfl hb hget ?_|refine a5A rfl (λ _=>rfl) rfl hb hget2 ?_|refine yO ?_|(refine yC ?_ ?_<;>intro hc)|(refine yN hK ?_;clear hK K))|refine wG ?_|(refine yR ?_;intro K hK)|fail)
   all_goals
    refine bpA (k+1) ?_ ?_ sZ
    ·omega
    ·omega
 ·obtain rfl:k=65536:=oZ
  repeat' (first|(refine yL ?_;first|refine a0A rfl ?_|refine yO ?_|(refine yC ?_ ?_<;>intro hc)|(refine yN hK ?_;clear hK K))|refine wG ?_|(refine yR ?_;intro K hK)|fail)
  exact a9A rfl rfl (Ext.refl _) rfl
def geA (what:Int) (a b:Bool):Bool:=if what=1 then a && b else if what=2 then a || b else if what=3 then a && !b else !(a == b)
def lpA (p:Nat→Bool) (lo hi:Int) (i:Nat):Bool:=!(p i == (decide (lo≤i) && decide ((i:Int)<hi)))
end Go.Proofs.YtlnaebejmjmepaaGreatDoor
end
