import Derived.Test.YtbokphkfojijoaaGreatDoorProg
import Derived.Laws.Bits64b
import Derived.Test.YtbokphkfojijoaaGreatDoorM4
import Derived.Test.YtbokphkfojijoaaGreatDoorM5
section
set_option linter.unusedSimpArgs false
set_option linter.unusedVariables false
set_option maxRecDepth 3000
namespace Go.Proofs.YtbokphkfojijoaaGreatDoor
open Go.LA Go.ArrP Go.RowKit
theorem yvA (a:Nat) (ha:a < 9223372036854775808):bits .and .i64 (a:Int) 127=((a % 128:Nat):Int):=by
  have h1:(BitVec.ofInt 64 (a:Int)).toNat=a:=by
    rw [BitVec.ofInt_natCast,BitVec.toNat_ofNat];exact Nat.mod_eq_of_lt (by omega)
  have h2:(BitVec.ofInt 64 (127:Int)).toNat=127:=by decide
  have h3:a &&& 127=a % 128:=Nat.and_two_pow_sub_one_eq_mod a 7
  show IntKind.i64.wrap ((BitVec.ofInt 64 (a:Int) &&& BitVec.ofInt 64 (127:Int)).toNat:Int)=_
  rw [BitVec.toNat_and,h1,h2,h3,IntKind.wrap_i64]
  omega
theorem myA (a b:Nat) (ha:a < 18446744073709551616) (hb:b < 18446744073709551616) {x y:Int} (hx:x=(a:Int)) (hy:y=(b:Int)):bits .and .u64 x y=((a &&& b:Nat):Int):=by
  subst hx hy;exact bits_and_u64_nat a b ha hb
theorem a7B (w:World) (n:Nat) (hn:n < 18446744073709551616):Fc Tryz.prog 178 #[.int .u64 n] w (Ret w (.val (.int .i64 (geA n)))):=by
  obtain ⟨n2,hn2⟩:∃ n2,n2=y1 6148914691236517205 n:=⟨_,rfl⟩
  obtain ⟨n3,hn3⟩:∃ n3,n3=y2 3689348814741910323 n2:=⟨_,rfl⟩
  obtain ⟨z,hz⟩:∃ z,z=y3 1085102592571150095 n3:=⟨_,rfl⟩
  have ho:=p1A n hn (z:=z) (by rw [hz,hn3,hn2])
  obtain ⟨o1,o2,o3,o4,o5⟩:=ho
  have l1:n / 2 &&& 6148914691236517205 ≤ 6148914691236517205:=Nat.and_le_right
  have l2:n &&& 6148914691236517205 ≤ 6148914691236517205:=Nat.and_le_right
  have l3:n2 / 4 &&& 3689348814741910323 ≤ 3689348814741910323:=Nat.and_le_right
  have l4:n2 &&& 3689348814741910323 ≤ 3689348814741910323:=Nat.and_le_right
  have d2:n2=(n / 2 &&& 6148914691236517205) + (n &&& 6148914691236517205):=hn2
  have d3:n3=(n2 / 4 &&& 3689348814741910323) + (n2 &&& 3689348814741910323):=hn3
  have d4:z=(n3 / 16 + n3) &&& 1085102592571150095:=hz
  have e5:bits .and .u64 ((n:Int) / 2) 6148914691236517205=((n / 2 &&& 6148914691236517205:Nat):Int):=myA _ _ (by omega) (by omega) (by omega) rfl
  have e7:bits .and .u64 (n:Int) 6148914691236517205=((n &&& 6148914691236517205:Nat):Int):=myA _ _ (by omega) (by omega) rfl rfl
  have e11:bits .and .u64 ((n2:Int) / 4) 3689348814741910323=((n2 / 4 &&& 3689348814741910323:Nat):Int):=myA _ _ (by omega) (by omega) (by omega) rfl
  have e13:bits .and .u64 (n2:Int) 3689348814741910323=((n2 &&& 3689348814741910323:Nat):Int):=myA _ _ (by omega) (by omega) rfl rfl
  have e19:bits .and .u64 ((n3:Int) / 16 + (n3:Int)) 1085102592571150095=(z:Int):=by rw [d4];exact myA _ _ (by omega) (by omega) (by omega) rfl
  have s8:((n / 2 &&& 6148914691236517205:Nat):Int) + ((n &&& 6148914691236517205:Nat):Int)=(n2:Int):=by omega
  have s14:((n2 / 4 &&& 3689348814741910323:Nat):Int) + ((n2 &&& 3689348814741910323:Nat):Int)=(n3:Int):=by omega
  obtain ⟨u,hu⟩:∃ u,u=z + z / 256:=⟨_,rfl⟩
  rw [← hu] at o2 o3 o4 o5
  obtain ⟨t,ht⟩:∃ t,t=u + u / 65536:=⟨_,rfl⟩
  rw [← ht] at o3 o4 o5
  obtain ⟨r,hr⟩:∃ r,r=t + t / 4294967296:=⟨_,rfl⟩
  rw [← hr] at o4 o5
  have s23:(z:Int) + (z:Int) / 256=(u:Int):=by omega
  have s27:(u:Int) + (u:Int) / 65536=(t:Int):=by omega
  have s31:(t:Int) + (t:Int) / 4294967296=(r:Int):=by omega
  have e34:=yvA r o4
  rw [o5] at e34
  refine Fc.of (args:=[_]) Tryz.func178 rfl rfl Tryz.ntmps178 (Nat.le_of_ble_eq_true rfl) ?_
  repeat' (first|(refine oLA ?_;first|refine a0A rfl ?_|(show LA _ _ _ _ (⟨some 5,.binOp .and _ _ _ _,_,_,_,_⟩ :: _) _;refine bzA (.inl rfl) rfl rfl rfl ?_;rw [e5])|(show LA _ _ _ _ (⟨some 7,.binOp .and _ _ _ _,_,_,_,_⟩ :: _) _;refine bzA (.inl rfl) rfl rfl rfl ?_;rw [e7])|(show LA _ _ _ _ (⟨some 11,.binOp .and _ _ _ _,_,_,_,_⟩ :: _) _;refine bzA (.inl rfl) rfl rfl rfl ?_;rw [e11])|(show LA _ _ _ _ (⟨some 13,.binOp .and _ _ _ _,_,_,_,_⟩ :: _) _;refine bzA (.inl rfl) rfl rfl rfl ?_;rw [e13])|(show LA _ _ _ _ (⟨some 19,.binOp .and _ _ _ _,_,_,_,_⟩ :: _) _;refine bzA (.inl rfl) rfl rfl rfl ?_;rw [e19])|(show LA _ _ _ _ (⟨some 34,.binOp .and _ _ _ _,_,_,_,_⟩ :: _) _;refine bzA (.inl rfl) rfl rfl rfl ?_;rw [e34])|(show LA _ _ _ _ (⟨some 8,.binOp .add _ _ _ _,_,_,_,_⟩ :: _) _;refine avA rfl rfl rfl (by rw [s8];dsimp only [fits];omega) ?_;rw [s8])|(show LA _ _ _ _ (⟨some 14,.binOp .add _ _ _ _,_,_,_,_⟩ :: _) _;refine avA rfl rfl rfl (by rw [s14];dsimp only [fits];omega) ?_;rw [s14])|(show LA _ _ _ _ (⟨some 23,.binOp .add _ _ _ _,_,_,_,_⟩ :: _) _;refine avA rfl rfl rfl (by rw [s23];dsimp only [fits];omega) ?_;rw [s23])|(show LA _ _ _ _ (⟨some 27,.binOp .add _ _ _ _,_,_,_,_⟩ :: _) _;refine avA rfl rfl rfl (by rw [s27];dsimp only [fits];omega) ?_;rw [s27])|(show LA _ _ _ _ (⟨some 31,.binOp .add _ _ _ _,_,_,_,_⟩ :: _) _;refine avA rfl rfl rfl (by rw [s31];dsimp only [fits];omega) ?_;rw [s31])|refine wOp ?_|(refine wCm ?_ ?_<;>intro hc)|(refine wNl hK ?_;clear hK K))|refine wG ?_|(refine wCR ?_;intro K hK)|fail)
  all_goals exact abA rfl rfl (Ext.refl _) rfl
end Go.Proofs.YtbokphkfojijoaaGreatDoor
end
section
set_option linter.unusedSimpArgs false
set_option linter.unusedVariables false
set_option maxRecDepth 3000
namespace Go.Proofs.YtbokphkfojijoaaGreatDoor
open Go.LA Go.ArrP Go.RowKit
def Tab (w:World):Prop:=∀ j,j < 64 → w.cell? ⟨0,j,none⟩=some (.int .u8 (Lib.deBruijn64tab.getD j 0))
theorem Tab.ext {w w':World} (h:Tab w) (e:Ext w w'):Tab w':=fun j hj=>e.cell (h j hj)
theorem tz_e3 (p:Nat):IntKind.u64.wrap ((p:Int) * 285870213051353865) / 288230376151711744=((p * 285870213051353865 % 18446744073709551616 / 288230376151711744:Nat):Int):=by
  rw [IntKind.wrap_u64];omega
theorem tz_c (w:World) (n:Nat) (hn:n < 18446744073709551616) (hT:Tab w):Fc Tryz.prog 176 #[.int .u64 n] w (Ret w (.val (.int .i64 (Lib.ctz 64 n)))):=by
  by_cases h0:n=0
  · subst h0
    refine Fc.of (args:=[_]) Tryz.func176 rfl rfl Tryz.ntmps176 (Nat.le_of_ble_eq_true rfl) ?_
    repeat' (first|(refine oLA ?_;first|refine a0A rfl ?_|refine wOp ?_|(refine wCm ?_ ?_<;>intro hc)|(refine wNl hK ?_;clear hK K))|refine wG ?_|(refine wCR ?_;intro K hK)|fail)
    exact abA rfl rfl (Ext.refl _) rfl
  · obtain ⟨hlow,hk⟩:=Lib.lowest_bit 64 n h0 hn
    obtain ⟨hi,htab⟩:=Lib.deBruijn64_at _ hk
    have hcell:=hT _ hi
    rw [htab] at hcell
    obtain ⟨p,hp⟩:∃ p,p=2 ^ Lib.ctz 64 n:=⟨_,rfl⟩
    rw [← hp] at hlow hi htab hcell
    have e1:IntKind.u64.wrap (-(n:Int))=((18446744073709551616 - n:Nat):Int):=by rw [IntKind.wrap_u64];omega
    have e2:bits .and .u64 (n:Int) (IntKind.u64.wrap (-(n:Int)))=(p:Int):=by rw [e1,bits_and_u64_nat n _ hn (by omega)];exact congrArg _ hlow
    have e3:IntKind.u64.wrap ((p:Int) * 285870213051353865) / 288230376151711744=((p * 285870213051353865 % 18446744073709551616 / 288230376151711744:Nat):Int):=by
      exact tz_e3 p
    obtain ⟨q,hq⟩:∃ q,q=p * 285870213051353865 % 18446744073709551616 / 288230376151711744:=⟨_,rfl⟩
    rw [← hq] at hcell e3 hi
    refine Fc.of (args:=[_]) Tryz.func176 rfl rfl Tryz.ntmps176 (Nat.le_of_ble_eq_true rfl) ?_
    repeat' (first|(refine oLA ?_;first|refine a0A rfl ?_|refine baB rfl rfl ?_|(show LA _ _ _ _ (⟨some 8,.binOp .and _ _ _ _,_,_,_,_⟩ :: _) _;refine bzA (.inl rfl) rfl rfl rfl ?_;rw [e2])|(show LA _ _ _ _ (⟨some 9,.binOp .mul _ _ _ _,_,_,_,_⟩ :: _) _;refine smA rfl rfl rfl ?_)|(show LA _ _ _ _ (⟨some 10,.binOp .shr _ _ _ _,_,_,_,_⟩ :: _) _;refine flA rfl rfl rfl (by omega) (by dsimp only [IntKind.bits];omega) ?_;dsimp only [Int.reduceToNat,Int.reducePow];rw [e3])|refine n3A (n:=64) (s:=1) rfl rfl (fun _=>rfl) rfl rfl q rfl hi ?_|refine ksA rfl (fun _=>rfl) rfl (by rw [show 0 + q * 1=q by omega];exact hcell) ?_|refine wOp ?_|(refine wCm ?_ ?_<;>intro hc)|(refine wNl hK ?_;clear hK K))|refine wG ?_|(refine wCR ?_;intro K hK)|fail)
    all_goals exact abA rfl rfl (Ext.refl _) rfl
end Go.Proofs.YtbokphkfojijoaaGreatDoor
end
section
set_option linter.unusedSimpArgs false
set_option linter.unusedVariables false
set_option maxRecDepth 3000
namespace Go.Proofs.YtbokphkfojijoaaGreatDoor
open Go.LA Go.ArrP Go.RowKit
theorem nbA:El Tryz.prog 93 61 (.int .u64 0) 1 8:=⟨rfl,rfl,rfl,by decide⟩
theorem m8A {w:World} {x:Int} {n:Nat} (hx:x=(n:Int)) (hn:n < 18446744073709551616):Fc Tryz.prog 178 #[.int .u64 x] w (Ret w (.val (.int .i64 (geA n)))):=by
  subst hx;exact a7B w n hn
theorem vzA (n:Nat):geA n ≤ 64:=cnt_le _ _
theorem ppA (w:World) (v:Value) (ws:List Int) (h:SlI .u64 w v ws) (hl:Lw ws) (hn:ws.length ≤ 17592186044416):Fc Tryz.prog 130 #[v] w (Ret w (.val (.int .i64 (cnt (coA ws) (64 * ws.length))))):=by
  refine Fc.of (args:=[_]) Tryz.func130 rfl rfl Tryz.ntmps130 (Nat.le_of_ble_eq_true rfl) ?_
  repeat' (first|(refine oLA ?_;first|refine a0A rfl ?_|refine wOp ?_|(refine wCm ?_ ?_<;>intro hc)|(refine wNl hK ?_;clear hK K))|refine wG ?_|(refine wCR ?_;intro K hK)|fail)
  refine bjA (ι:=Nat) (fun k=>[(0,.val v),(3,.val (.int .i64 (cnt (coA ws) (64 * k)))),(6,.val v),(7,.val (.int .i64 ws.length)),(8,.val (.int .i64 k))]) (fun k=>k ≤ ws.length) (fun k=>ws.length - k) 0 (by omega) (by repeat' (first | exact Sub.nil | refine Sub.val rfl (by first | with_reducible rfl | (congr 1;omega)) ?_ | refine Sub.same rfl ?_)) ?_
  intro k hk
  have hs:=ugA ws k
  have hc:=cnt_le (coA ws) (64 * k)
  have hp:=vzA (wd ws k)
  obtain ⟨e1,e2⟩:=hl.at k
  by_cases hkl:k < ws.length
  · skip
    repeat' (first|(refine oLA ?_;first|refine a0A rfl ?_|refine wOp ?_|(refine wCm ?_ ?_<;>intro hc)|(refine oCv ?_;first|(refine oC 178 ?_;refine a2A (f:=178) rfl rfl rfl  (.val (.int .i64 (geA (wd ws k)))) (by intro u1 w e hu1;(try obtain rfl:u1=_:=hu1);exact m8A e1 e2) ?_))|(refine wNl hK ?_;clear hK K))|refine wG ?_|(refine wCR ?_;intro K hK)|fail)
    refine chA (k + 1) ?_ ?_ (by repeat' (first | exact Sub.nil | refine Sub.val rfl (by first | with_reducible rfl | (congr 1;omega)) ?_ | refine Sub.same rfl ?_))
    · omega
    · omega
  · obtain rfl:k=ws.length:=by omega
    repeat' (first|(refine oLA ?_;first|refine a0A rfl ?_|refine wOp ?_|(refine wCm ?_ ?_<;>intro hc)|(refine wNl hK ?_;clear hK K))|refine wG ?_|(refine wCR ?_;intro K hK)|fail)
    exact abA rfl rfl (Ext.refl _) rfl
theorem or64 (a b:Nat) (ha:a < 18446744073709551616) (hb:b < 18446744073709551616):bits .or .u64 (a:Int) (b:Int)=((a ||| b:Nat):Int):=by
  have hx:a ||| b < 2 ^ 64:=Nat.or_lt_two_pow (by omega) (by omega)
  have h1:(BitVec.ofInt 64 (a:Int)).toNat=a:=by
    rw [BitVec.ofInt_natCast,BitVec.toNat_ofNat];exact Nat.mod_eq_of_lt (by omega)
  have h2:(BitVec.ofInt 64 (b:Int)).toNat=b:=by
    rw [BitVec.ofInt_natCast,BitVec.toNat_ofNat];exact Nat.mod_eq_of_lt (by omega)
  show IntKind.u64.wrap ((BitVec.ofInt 64 (a:Int) ||| BitVec.ofInt 64 (b:Int)).toNat:Int)=_
  rw [BitVec.toNat_or,h1,h2,IntKind.wrap_u64]
  omega
theorem ziA (w:World) (v:Value) (xs:List Int) (h:SlI .u16 w v xs) (hl:Low xs):Fc Tryz.prog 133 #[v] w (Ret w (.pred (bfA w.heap.size 61 .u64 (wordsOf (c7A xs))))):=by
  have hlen:=h.len
  refine Fc.of (args:=[_]) Tryz.func133 rfl rfl Tryz.ntmps133 (Nat.le_of_ble_eq_true rfl) ?_
  repeat' (first|(refine oLA ?_;first|refine a0A rfl ?_|refine e8A (n:=1024) rfl nbA rfl rfl (by decide) (by decide) ?_|refine wOp ?_|(refine wCm ?_ ?_<;>intro hc)|(refine wNl hK ?_;clear hK K))|refine wG ?_|(refine wCR ?_;intro K hK)|fail)
  refine buA 3 rfl (fun v3 w3 e3 h3=>?_)
  have h3:OwnI w.heap.size 61 .u64 w3 v3 (List.replicate 1024 0):=h3
  refine adA (ι:=Nat × List Int) (fun i=>[(3,.val v3),(7,.val v),(8,.val (.int .i64 xs.length)),(9,.val (.int .i64 i.1))]) (fun i w'=>Ext w w' ∧ i.1 ≤ xs.length ∧ i.2.length=1024 ∧ Lw i.2 ∧ (∀ j,j < 65536 → coA i.2 j=c7A (xs.take i.1) j) ∧ OwnI w.heap.size 61 .u64 w' v3 i.2)
    (fun i=>xs.length - i.1) (fun w2 e2=>⟨(0,List.replicate 1024 0),⟨e3.trans e2,Nat.zero_le _,List.length_replicate,mzA _,fun j _=>by rw [kxA];simp [c7A],h3.ext e2⟩,(by repeat' (first | exact Sub.nil | refine Sub.val rfl (by first | with_reducible rfl | (congr 1;omega)) ?_ | refine Sub.same rfl ?_))⟩) ?_
  rintro ⟨k,ws⟩ w1 ⟨he,hk,hwl,hlw,hbit,ho⟩
  dsimp only at hk hwl hlw hbit ho ⊢
  have h1:=h.ext he
  by_cases hkl:k < xs.length
  · have hx:0 ≤ xs.getD k 0 ∧ xs.getD k 0 < 65536:=by rw [b1A hkl];exact hl _ (List.getElem_mem hkl)
    obtain ⟨x,hxx⟩:=Int.eq_ofNat_of_zero_le hx.1
    obtain ⟨gb,cap,cur,rfl,hgb,hgc,hgn,hgm,hgs,hgt⟩:=ho.row (by omega)
    have hra:=q6A hgt (i:=0 + x / 64 * 1) (by omega)
    obtain ⟨e1,e2⟩:=hlw.at (x / 64)
    have hp:(2:Nat) ^ (x % 64) < 18446744073709551616:=by
      have:(2:Nat) ^ (x % 64) < 2 ^ 64:=Nat.pow_lt_pow_right (by decide) (by omega)
      omega
    have ex:xs.getD k 0=(x:Int):=hxx
    have hsh:IntKind.u64.wrap (1 * 2 ^ (xs.getD k 0 % 64).toNat)=((2 ^ (x % 64):Nat):Int):=by
      rw [show (xs.getD k 0 % 64).toNat=x % 64 by omega,IntKind.wrap_u64,Int.one_mul]
      obtain ⟨p,hpd⟩:∃ p,p=2 ^ (x % 64):=⟨_,rfl⟩
      have h2:((2:Int) ^ (x % 64))=(p:Int):=by rw [hpd];simp
      rw [h2]
      rw [← hpd] at hp ⊢
      omega
    have hor:bits .or .u64 (ws.getD (0 + x / 64 * 1) 0) ((2 ^ (x % 64):Nat):Int)=((wd ws (x / 64) ||| 2 ^ (x % 64):Nat):Int):=by
      rw [show 0 + x / 64 * 1=x / 64 by omega,e1];exact or64 _ _ e2 hp
    have hor64:wd ws (x / 64) ||| 2 ^ (x % 64) < 18446744073709551616:=Nat.or_lt_two_pow (n:=64) (by omega) (by omega)
    repeat' (first|(refine oLA ?_;first|refine a0A rfl ?_|(refine c6A (s:=1) rfl rfl (fun _=>rfl) rfl rfl (by omega) (by omega) ?_;rw [show (xs.getD k 0 / 64).toNat=x / 64 by omega])|refine a5A rfl (fun _=>rfl) rfl hgc hra ?_|(show LA _ _ _ _ (⟨_,.binOp .shl _ _ _ _,_,_,_,_⟩ :: _) _;refine lsA rfl rfl rfl (by omega) (by dsimp only [IntKind.bits];omega) ?_;rw [hsh])|(refine bzA (.inr (.inl rfl)) rfl rfl rfl ?_;rw [hor])|(refine a4A (hK _ _ (bgA (o:=0 + x / 64 * 1) rfl rfl rfl hgc (fun _=>rfl) (by omega) rfl rfl (fun w4 e4=>?_)));clear hK K;dsimp only [vals];refine aeA (by kernel_rfl) (fun K hK=>?_))|refine wOp ?_|(refine wCm ?_ ?_<;>intro hc)|(refine wNl hK ?_;clear hK K))|refine wG ?_|(refine wCR ?_;intro K hK)|fail)
    refine a6A (k + 1,ws.set (0 + x / 64 * 1) ((wd ws (x / 64) ||| 2 ^ (x % 64):Nat):Int)) (fun w5 e5=>⟨((he.trans e4).setRow hgb _).trans e5,?_,?_,?_,?_,?_⟩) ?_ (by repeat' (first | exact Sub.nil | refine Sub.val rfl (by first | with_reducible rfl | (congr 1;omega)) ?_ | refine Sub.same rfl ?_))
    · dsimp only;omega
    · dsimp only;simp [hwl]
    · exact hlw.set _ hor64
    · intro j hj
      dsimp only
      rw [show 0 + x / 64 * 1=x / 64 by omega,wsA (by omega),hbit j hj,List.take_succ_eq_append_getElem hkl]
      simp only [c7A,List.mem_append,List.mem_singleton,← b1A hkl,ex]
      by_cases hm:(j:Int) ∈ xs.take k
      · simp [hm]
      · by_cases e:j=x
        · subst e;simp
        · rw [decide_eq_false hm,decide_eq_false e,decide_eq_false (fun h=>by rcases h with h | h;exact hm h;omega)];rfl
    · have hh:=OwnI.set hgb (e4.block hgc) hgn hgm hgs hgt (0 + x / 64 * 1) (by omega) ((wd ws (x / 64) ||| 2 ^ (x % 64):Nat):Int)
      dsimp only
      exact OwnI.ext hh e5
    · dsimp only;omega
  · obtain rfl:k=xs.length:=by omega
    repeat' (first|(refine oLA ?_;first|refine a0A rfl ?_|refine wOp ?_|(refine wCm ?_ ?_<;>intro hc)|(refine wNl hK ?_;clear hK K))|refine wG ?_|(refine wCR ?_;intro K hK)|fail)
    refine akA rfl rfl he (fun u w2 e2 hu=>?_)
    obtain rfl:u=_:=hu
    rw [List.take_length] at hbit
    have hh:=ho.ext e2
    rwa [joA hlw hwl,c1A hbit] at hh
end Go.Proofs.YtbokphkfojijoaaGreatDoor
end
section
set_option linter.unusedSimpArgs false
set_option linter.unusedVariables false
set_option maxRecDepth 3000
namespace Go.Proofs.YtbokphkfojijoaaGreatDoor
open Go.LA Go.ArrP Go.RowKit
theorem j9A:El Tryz.prog 27 31 (.int .u16 0) 1 2:=⟨rfl,rfl,rfl,by decide⟩
theorem woA (w:World) (v:Value) (ws:List Int) (h:SlI .u64 w v ws) (hl:Lw ws) (hT:Tab w):Fc Tryz.prog 128 #[v] w (Ret w (.pred (bfA w.heap.size 31 .u16 (ahA (coA ws) (64 * min ws.length 1024))))):=by
  have hlen:=h.len
  refine Fc.of (args:=[_]) Tryz.func128 rfl rfl Tryz.ntmps128 (Nat.le_of_ble_eq_true rfl) ?_
  repeat' (first|(refine oLA ?_;first|refine a0A rfl ?_|refine dxA rfl rfl rfl ?_|refine wOp ?_|(refine wCm ?_ ?_<;>intro hc)|(refine wNl hK ?_;clear hK K))|refine wG ?_|(refine wCR ?_;intro K hK)|fail)
  refine adA (ι:=Nat × Value) (fun i=>[(0,.val v),(3,.val i.2),(8,.val (.int .i64 (min (ws.length:Int) 1024))),(9,.val (.int .i64 i.1))]) (fun i w'=>Ext w w' ∧ i.1 ≤ min ws.length 1024 ∧ OwnI w.heap.size 31 .u16 w' i.2 (ahA (coA ws) (64 * i.1)))
    (fun i=>min ws.length 1024 - i.1) (fun w2 e2=>⟨(0,.slice none 0 0),⟨e2,Nat.zero_le _,OwnI.nil⟩,(by repeat' (first | exact Sub.nil | refine Sub.val rfl (by first | with_reducible rfl | (congr 1;omega)) ?_ | refine Sub.same rfl ?_))⟩) ?_
  rintro ⟨k,so⟩ w1 ⟨he,hk,ho⟩
  dsimp only at hk ho ⊢
  have h1:=h.ext he
  have hT1:=hT.ext he
  by_cases hkl:k < min ws.length 1024
  · obtain ⟨e1,e2⟩:=hl.at k
    repeat' (first|(refine oLA ?_;first|refine a0A rfl ?_|refine wOp ?_|(refine wCm ?_ ?_<;>intro hc)|(refine wNl hK ?_;clear hK K))|refine wG ?_|(refine wCR ?_;intro K hK)|fail)
    refine adA (ι:=Nat × Nat × Value) (fun i=>[(0,.val v),(3,.val i.2.2),(4,.val (.int .i64 k)),(5,.val (.int .u64 i.2.1)),(8,.val (.int .i64 (min (ws.length:Int) 1024))),(9,.val (.int .i64 k))])
      (fun i w'=>Ext w w' ∧ i.1 ≤ 64 ∧ i.2.1 < 18446744073709551616 ∧ (∀ j,i.2.1.testBit j=(decide (i.1 ≤ j) && (wd ws k).testBit j)) ∧ OwnI w.heap.size 31 .u16 w' i.2.2 (ahA (coA ws) (64 * k + i.1)))
      (fun i=>64 - i.1) (fun w2 e2'=>⟨(0,wd ws k,so),⟨he.trans e2',Nat.zero_le _,e2,fun j=>by simp,ho.ext e2'⟩,?_⟩) ?_
    · dsimp only;rw [← e1];exact (by repeat' (first | exact Sub.nil | refine Sub.val rfl (by first | with_reducible rfl | (congr 1;omega)) ?_ | refine Sub.same rfl ?_))
    rintro ⟨t,x,sq⟩ w2 ⟨he2,ht,hx,hb,ho2⟩
    dsimp only at ht hx hb ho2 ⊢
    have hT2:=hT.ext he2
    have hwb:∀ j,j < 64 → coA ws (64 * k + j)=(wd ws k).testBit j:=fun j hj=>by
      unfold coA;rw [show (64 * k + j) / 64=k by omega,show (64 * k + j) % 64=j by omega]
    have hll:=b7A (coA ws) (64 * k + t)
    have hcl:=cnt_le (coA ws) (64 * k + t)
    by_cases h0:x=0
    · subst h0
      have hsk:ahA (coA ws) (64 * (k + 1))=ahA (coA ws) (64 * k + t):=by
        refine gpA _ _ (by omega) fun i g1 g2=>?_
        have:=hb (i - 64 * k)
        rw [Nat.zero_testBit,decide_eq_true (by omega),Bool.true_and] at this
        have h2:=hwb (i - 64 * k) (by omega)
        rw [show 64 * k + (i - 64 * k)=i by omega] at h2
        rw [h2,← this]
      repeat' (first|(refine oLA ?_;first|refine a0A rfl ?_|refine wOp ?_|(refine wCm ?_ ?_<;>intro hc)|(refine wNl hK ?_;clear hK K))|refine wG ?_|(refine wCR ?_;intro K hK)|fail)
      refine a6A (k + 1,sq) (fun w5 e5=>⟨he2.trans e5,?_,?_⟩) ?_ (by repeat' (first | exact Sub.nil | refine Sub.val rfl (by first | with_reducible rfl | (congr 1;omega)) ?_ | refine Sub.same rfl ?_))
      · dsimp only;omega
      · dsimp only;rw [hsk];exact ho2.ext e5
      · dsimp only;omega
    · obtain ⟨m,-,hc64⟩:=laA h0 hx
      have lb:=xqA h0 hx
      obtain ⟨c,hc⟩:∃ c,c=Lib.ctz 64 x:=⟨_,rfl⟩
      rw [← hc] at hc64 lb
      have hct:t ≤ c ∧ (wd ws k).testBit c=true:=by
        have:=(lb 0).1.1;rw [hb] at this;simpa using this
      have hsk:ahA (coA ws) (64 * k + c)=ahA (coA ws) (64 * k + t):=by
        refine gpA _ _ (by omega) fun i g1 g2=>?_
        have h3:=(lb (i - 64 * k)).1.2 (by omega)
        rw [hb,decide_eq_true (by omega),Bool.true_and] at h3
        have h2:=hwb (i - 64 * k) (by omega)
        rw [show 64 * k + (i - 64 * k)=i by omega] at h2
        rw [h2,h3]
      have hnx:ahA (coA ws) (64 * k + (c + 1))=ahA (coA ws) (64 * k + t) ++ [((64 * k + c:Nat):Int)]:=by
        rw [← Nat.add_assoc,ahA,hsk,hwb c hc64,hct.2];rfl
      have hxa:bits .and .u64 (x:Int) ((x:Int) - 1)=((x &&& (x - 1):Nat):Int):=myA _ _ hx (by omega) rfl (by omega)
      have hx1:x &&& (x - 1) < 18446744073709551616:=Nat.lt_of_le_of_lt Nat.and_le_left hx
      repeat' (first|(refine oLA ?_;first|refine a0A rfl ?_|(refine oC 176 ?_;refine a2A (f:=176) rfl rfl rfl  (.val (.int .i64 c)) (by intro u1 w e hu1;(try obtain rfl:u1=_:=hu1);exact (hc ▸ tz_c _ x hx (hT2.ext e))) ?_)|refine iuA rfl j9A rfl rfl ?_|(refine a4A (hK _ _ (h0A rfl (by decide) j9A rfl ho2 rfl (by omega) (by omega) he2 (fun v' w' he' ho'=>?_)));clear hK K;dsimp only [vals];refine aeA (by kernel_rfl) (fun K hK=>?_))|(refine bzA (.inl rfl) rfl rfl rfl ?_;rw [hxa])|refine wOp ?_|(refine wCm ?_ ?_<;>intro hc)|(refine wNl hK ?_;clear hK K))|refine wG ?_|(refine wCR ?_;intro K hK)|fail)
      refine a6A (c + 1,x &&& (x - 1),v') (fun w5 e5=>⟨he'.trans e5,?_,hx1,fun j=>?_,?_⟩) ?_ (by repeat' (first | exact Sub.nil | refine Sub.val rfl (by first | with_reducible rfl | (congr 1;omega)) ?_ | refine Sub.same rfl ?_))
      · dsimp only;omega
      · dsimp only
        rw [(lb j).2,hb]
        by_cases hj:j < c
        · have h3:=(lb j).1.2 hj
          rw [hb] at h3
          rw [h3,decide_eq_false (show ¬ c + 1 ≤ j by omega)];simp
        · by_cases e:j=c
          · subst e;rw [decide_eq_false (show ¬ j + 1 ≤ j by omega)];simp
          · rw [decide_eq_true (by omega:t ≤ j),decide_eq_true (by omega:c + 1 ≤ j),decide_eq_true (show j ≠ c from e)];simp
      · dsimp only;rw [hnx]
        have h9:=ho'.ext e5
        rwa [show (64 * (k:Int) + (c:Int))=((64 * k + c:Nat):Int) by omega] at h9
      · dsimp only;omega
  · obtain rfl:k=min ws.length 1024:=by omega
    repeat' (first|(refine oLA ?_;first|refine a0A rfl ?_|refine wOp ?_|(refine wCm ?_ ?_<;>intro hc)|(refine wNl hK ?_;clear hK K))|refine wG ?_|(refine wCR ?_;intro K hK)|fail)
    refine akA rfl rfl he (fun u w2 e2 hu=>?_)
    obtain rfl:u=_:=hu
    exact ho.ext e2
end Go.Proofs.YtbokphkfojijoaaGreatDoor
end
section
set_option linter.unusedSimpArgs false
set_option linter.unusedVariables false
set_option maxRecDepth 3000
namespace Go.Proofs.YtbokphkfojijoaaGreatDoor
open Go.LA Go.ArrP Go.RowKit
theorem wlA (w:World) (v:Value) (ws:List Int) (x:Int) (h:SlI .u64 w v ws) (hl:Lw ws) (hn:ws.length ≤ 17592186044416) (hx:-9223372036854775808 ≤ x ∧ x < 9223372036854775808):Fc Tryz.prog 184 #[v,.int .i64 x] w (Ret w (.val (.int .i64 (cnt (coA ws) (min (max x 0) (64 * ws.length:Int)).toNat)))):=by
  obtain ⟨r,hr⟩:∃ r:Nat,min (max x 0) (64 * ws.length:Int)=r:=⟨(min (max x 0) (64 * ws.length:Int)).toNat,by omega⟩
  have hrl:r ≤ 64 * ws.length:=by omega
  have hq:r / 64 ≤ ws.length:=by omega
  have hcp:=uhA ws (r / 64) (r % 64) (by omega)
  rw [show 64 * (r / 64) + r % 64=r by omega] at hcp
  have hc1:=cnt_le (coA ws) r
  obtain ⟨e1,e2⟩:=hl.at (r / 64)
  have htk:(ws.take (r / 64)).length=r / 64:=by rw [List.length_take];omega
  have hct:cnt (coA (ws.take (r / 64))) (64 * (ws.take (r / 64)).length)=cnt (coA ws) (64 * (r / 64)):=by
    rw [htk];exact cvA _ (fun i hi=>psA hi)
  have eq1:((r:Int) / 64).toNat=r / 64:=by omega
  refine Fc.of (args:=[_,_]) Tryz.func184 rfl rfl Tryz.ntmps184 (Nat.le_of_ble_eq_true rfl) ?_
  have hsub:SlI .u64 w (eoA v 0 (r / 64) 1) (ws.take (r / 64)):=by have:=SlI.sub h (Nat.zero_le (r / 64)) hq;simpa using this
  rw [hr]
  by_cases hm:r % 64=0
  · have hcm:cnt (coA ws) r=cnt (coA ws) (64 * (r / 64)):=by rw [hcp,hm];simp [cnt]
    repeat' (first|(refine oLA ?_;first|refine a0A rfl ?_|refine fnA rfl rfl rfl ?_|(refine dxA rfl rfl rfl ?_;rw [hr])|(refine fkA rfl _ rfl rfl (HasC.val h) rfl (by omega) (by omega) (by exact fun _=>rfl) ?_;rw [eq1])|(refine oC 130 ?_;refine a2A (f:=130) rfl rfl rfl  (.val (.int .i64 (cnt (coA ws) (64 * (r / 64))))) (by intro u1 w e hu1;(try obtain rfl:u1=_:=hu1);exact anA (by rw [hct]) (ppA _ _ (ws.take (r / 64)) (hsub.ext e) (hl.take _) (by omega))) ?_)|refine wOp ?_|(refine wCm ?_ ?_<;>intro hc)|(refine wNl hK ?_;clear hK K))|refine wG ?_|(refine wCR ?_;intro K hK)|fail)
    exact abA rfl rfl (Ext.refl _) (by rw [Int.toNat_natCast,hcm])
  · have hsh:IntKind.u64.wrap (ws.getD (r / 64) 0 * 2 ^ (64 - (r:Int) % 64).toNat)=((wd ws (r / 64) * 2 ^ (64 - r % 64) % 18446744073709551616:Nat):Int):=by
      rw [e1,IntKind.wrap_u64,show (64 - (r:Int) % 64).toNat=64 - r % 64 by omega]
      have h2:((2:Int) ^ (64 - r % 64))=((2 ^ (64 - r % 64):Nat):Int):=by simp
      rw [h2,← Int.natCast_mul];omega
    have hpp:=xeA (wd ws (r / 64)) (r % 64) (by omega)
    repeat' (first|(refine oLA ?_;first|refine a0A rfl ?_|refine fnA rfl rfl rfl ?_|(refine dxA rfl rfl rfl ?_;rw [hr])|(refine fkA rfl _ rfl rfl (HasC.val h) rfl (by omega) (by omega) (by exact fun _=>rfl) ?_;rw [eq1])|(refine oC 130 ?_;refine a2A (f:=130) rfl rfl rfl  (.val (.int .i64 (cnt (coA ws) (64 * (r / 64))))) (by intro u1 w e hu1;(try obtain rfl:u1=_:=hu1);exact anA (by rw [hct]) (ppA _ _ (ws.take (r / 64)) (hsub.ext e) (hl.take _) (by omega))) ?_)|(refine hsA rfl _ rfl (fun _=>rfl) rfl (HasI.val h) rfl (by omega) (by omega) ?_;rw [eq1])|(show LA _ _ _ _ (⟨_,.binOp .shl _ _ _ _,_,_,_,_⟩ :: _) _;refine lsA rfl rfl rfl (by omega) (by dsimp only [IntKind.bits];omega) ?_;rw [hsh])|(refine oC 178 ?_;refine a2A (f:=178) rfl rfl rfl  (.val (.int .i64 (cnt (fun i=>(wd ws (r / 64)).testBit i) (r % 64)))) (by intro u1 w e hu1;(try obtain rfl:u1=_:=hu1);exact anA (by rw [hpp]) (m8A rfl (by omega))) ?_)|refine wOp ?_|(refine wCm ?_ ?_<;>intro hc)|(refine wNl hK ?_;clear hK K))|refine wG ?_|(refine wCR ?_;intro K hK)|fail)
    exact abA rfl rfl (Ext.refl _) (by rw [Int.toNat_natCast];congr 1;omega)
theorem zlA (w:World) (v:Value) (ws:List Int) (x:Nat) (h:SlI .u64 w v ws) (hl:Lw ws) (hx:x < 65536):Fc Tryz.prog 180 #[v,.int .u16 x] w (Ret w (.val (.bool (coA ws x)))):=by
  have hlen:=h.len
  refine Fc.of (args:=[_,_]) Tryz.func180 rfl rfl Tryz.ntmps180 (Nat.le_of_ble_eq_true rfl) ?_
  obtain ⟨e1,e2⟩:=hl.at (x / 64)
  by_cases hc:x / 64 < ws.length
  · have eq1:((x:Int) / 64).toNat=x / 64:=by omega
    obtain ⟨y,hy⟩:∃ y,y=wd ws (x / 64) / 2 ^ (x % 64):=⟨_,rfl⟩
    have hyl:y ≤ wd ws (x / 64):=by rw [hy];exact Nat.div_le_self _ _
    have hsh:ws.getD (x / 64) 0 / 2 ^ ((x:Int) % 64).toNat=(y:Int):=by
      rw [e1,hy,show ((x:Int) % 64).toNat=x % 64 by omega,Int.natCast_ediv];simp
    have han:bits .and .u64 (y:Int) 1=((y % 2:Nat):Int):=by
      rw [show (1:Int)=((1:Nat):Int) by rfl,bits_and_u64_nat y 1 (by omega) (by decide)]
      exact congrArg _ (Nat.and_one_is_mod y)
    have hb:coA ws x=decide (y % 2=1):=by rw [hy];unfold coA;exact Nat.testBit_eq_decide_div_mod_eq
    cases hv:coA ws x
    all_goals rw [hv] at hb
    all_goals have hb':=hb.symm
    all_goals simp only [decide_eq_true_eq,decide_eq_false_iff_not] at hb'
    all_goals
      repeat' (first|(refine oLA ?_;first|refine a0A rfl ?_|(refine hsA rfl _ rfl (fun _=>rfl) rfl (HasI.val h) rfl (by omega) (by omega) ?_;rw [eq1])|(show LA _ _ _ _ (⟨_,.binOp .shr _ _ _ _,_,_,_,_⟩ :: _) _;refine flA rfl rfl rfl (by omega) (by dsimp only [IntKind.bits];omega) ?_;rw [hsh])|(refine bzA (.inl rfl) rfl rfl rfl ?_;rw [han])|refine wOp ?_|(refine wCm ?_ ?_<;>intro hc)|(refine wNl hK ?_;clear hK K))|refine wG ?_|(refine wCR ?_;intro K hK)|fail)
    all_goals exact abA rfl rfl (Ext.refl _) rfl
  · have hv:coA ws x=false:=ptA (by omega)
    rw [hv]
    repeat' (first|(refine oLA ?_;first|refine a0A rfl ?_|refine wOp ?_|(refine wCm ?_ ?_<;>intro hc)|(refine wNl hK ?_;clear hK K))|refine wG ?_|(refine wCR ?_;intro K hK)|fail)
    exact abA rfl rfl (Ext.refl _) rfl
end Go.Proofs.YtbokphkfojijoaaGreatDoor
end
section
set_option linter.unusedSimpArgs false
set_option linter.unusedVariables false
set_option maxRecDepth 3000
namespace Go.Proofs.YtbokphkfojijoaaGreatDoor
open Go.LA Go.ArrP Go.RowKit
def kiA (F:Bool → Bool → Bool) (a b:List Int) (i:Nat):Bool:=decide (i < 64 * min (min a.length b.length) 1024) && F (coA a i) (coA b i)
theorem wcA (F:Bool → Bool → Bool) (G:Nat → Nat → Nat) (ft:FuncId) (hT:∀ (x y:Nat) (w:World),x < 18446744073709551616 → y < 18446744073709551616 → Fc Tryz.prog ft #[.int .u64 x,.int .u64 y] w (Ret w (.val (.int .u64 (G x y)))))
    (hG:∀ x y,x < 18446744073709551616 → y < 18446744073709551616 → G x y < 18446744073709551616 ∧ ∀ i,i < 64 → (G x y).testBit i=F (x.testBit i) (y.testBit i)) (w:World) (va vb:Value) (a b:List Int) (ha:SlI .u64 w va a) (hb:SlI .u64 w vb b) (hla:Lw a) (hlb:Lw b) :
    Fc Tryz.prog 155 #[va,vb,.func (.func ft) #[] #[]] w (Ret w (.pred (bfA w.heap.size 61 .u64 (wordsOf (kiA F a b))))):=by
  have hlen:=ha.len
  have hlen':=hb.len
  refine Fc.of (args:=[_,_,_]) Tryz.func155 rfl rfl Tryz.ntmps155 (Nat.le_of_ble_eq_true rfl) ?_
  repeat' (first|(refine oLA ?_;first|refine a0A rfl ?_|refine e8A (n:=1024) rfl nbA rfl rfl (by decide) (by decide) ?_|refine z6A rfl rfl rfl rfl ?_|refine wOp ?_|(refine wCm ?_ ?_<;>intro hc)|(refine wNl hK ?_;clear hK K))|refine wG ?_|(refine wCR ?_;intro K hK)|fail)
  refine buA 7 rfl (fun v7 w3 e3 h3=>?_)
  have h3:OwnI w.heap.size 61 .u64 w3 v7 (List.replicate 1024 0):=h3
  obtain ⟨L,hL⟩:∃ L:Nat,L=min (min a.length b.length) 1024:=⟨_,rfl⟩
  have hLi:min (min (a.length:Int) (b.length:Int)) 1024=L:=by omega
  rw [hLi]
  refine adA (ι:=Nat × List Int) (fun i=>[(0,.val va),(1,.val vb),(2,.val (.func (.func ft) #[] #[])),(7,.val v7),(14,.val (.int .i64 L)),(15,.val (.int .i64 i.1))]) (fun i w'=>Ext w w' ∧ i.1 ≤ L ∧ i.2.length=1024 ∧ Lw i.2 ∧ (∀ j,j < 65536 → coA i.2 j=(decide (j < 64 * i.1) && F (coA a j) (coA b j))) ∧ OwnI w.heap.size 61 .u64 w' v7 i.2)
    (fun i=>L - i.1) (fun w2 e2=>⟨(0,List.replicate 1024 0),⟨e3.trans e2,Nat.zero_le _,List.length_replicate,mzA _,fun j _=>by rw [kxA];simp,h3.ext e2⟩,(by repeat' (first | exact Sub.nil | refine Sub.val rfl (by first | with_reducible rfl | (congr 1;omega)) ?_ | refine Sub.same rfl ?_))⟩) ?_
  rintro ⟨k,ws⟩ w1 ⟨he,hk,hwl,hlw,hbit,ho⟩
  dsimp only at hk hwl hlw hbit ho ⊢
  have h1:=ha.ext he
  have h2:=hb.ext he
  by_cases hkl:k < L
  · obtain ⟨gb,cap,cur,rfl,hgb,hgc,hgn,hgm,hgs,hgt⟩:=ho.row (by omega)
    obtain ⟨e1,e2⟩:=hla.at k
    obtain ⟨e1',e2'⟩:=hlb.at k
    obtain ⟨g1,g2⟩:=hG _ _ e2 e2'
    repeat' (first|(refine oLA ?_;first|refine a0A rfl ?_|(refine c6A (s:=1) rfl rfl (fun _=>rfl) rfl rfl (by omega) (by omega) ?_;rw [Int.toNat_natCast])|(refine a4A (hK _ _ rfl (bgA (o:=0 + k * 1) rfl rfl rfl hgc (fun _=>rfl) (by omega) rfl rfl (fun w4 e4=>?_)));clear hK K;dsimp only [vals];refine aeA (by kernel_rfl) (fun K hK=>?_))|refine wOp ?_|(refine wCm ?_ ?_<;>intro hc)|(refine oCv ?_;first|refine a3A (f:=ft) (r1:=.val (.int .u64 _)) (r2:=.val (.int .u64 _)) rfl rfl rfl rfl (.val (.int .u64 (G (wd a k) (wd b k)))) (by intro u1 u2 w e hu1 hu2;obtain rfl:u1=_:=hu1;obtain rfl:u2=_:=hu2;rw [e1,e1'];exact hT _ _ _ e2 e2') ?_)|(refine wNl hK ?_;clear hK K))|(refine oCX ?_;first|refine crA 13 (by decide) (by kernel_rfl) (by kernel_rfl) (fun K hK=>?_))|refine wG ?_|(refine wCR ?_;intro K hK)|fail)
    refine a6A (k + 1,ws.set (0 + k * 1) ((G (wd a k) (wd b k):Nat):Int)) (fun w5 e5=>⟨((he.trans e4).setRow hgb _).trans e5,?_,?_,?_,?_,?_⟩) ?_ (by repeat' (first | exact Sub.nil | refine Sub.val rfl (by first | with_reducible rfl | (congr 1;omega)) ?_ | refine Sub.same rfl ?_))
    · dsimp only;omega
    · dsimp only;simp [hwl]
    · exact hlw.set _ g1
    · intro j hj
      dsimp only
      rw [show 0 + k * 1=k by omega,kyA (by omega)]
      by_cases e:j / 64=k
      · rw [if_pos e,g2 _ (by omega),decide_eq_true (by omega)]
        unfold coA;rw [e];simp
      · rw [if_neg e,hbit j hj,show decide (j < 64 * (k + 1))=decide (j < 64 * k) by rw [decide_eq_decide];omega]
    · have hh:=OwnI.set hgb (e4.block hgc) hgn hgm hgs hgt (0 + k * 1) (by omega) ((G (wd a k) (wd b k):Nat):Int)
      dsimp only
      exact OwnI.ext hh e5
    · dsimp only;omega
  · obtain rfl:k=L:=by omega
    repeat' (first|(refine oLA ?_;first|refine a0A rfl ?_|refine wOp ?_|(refine wCm ?_ ?_<;>intro hc)|(refine wNl hK ?_;clear hK K))|refine wG ?_|(refine wCR ?_;intro K hK)|fail)
    refine akA rfl rfl he (fun u w2 e2 hu=>?_)
    obtain rfl:u=_:=hu
    have hh:=ho.ext e2
    rwa [joA hlw hwl,c1A (q:=kiA F a b) (fun i hi=>by rw [hbit i hi];unfold kiA;rw [← hL])] at hh
end Go.Proofs.YtbokphkfojijoaaGreatDoor
end
section
set_option linter.unusedSimpArgs false
set_option linter.unusedVariables false
set_option maxRecDepth 3000
namespace Go.Proofs.YtbokphkfojijoaaGreatDoor
open Go.LA Go.ArrP Go.RowKit
theorem ojA (a:Nat):BitVec.ofInt 64 (a:Int)=BitVec.ofNat 64 a:=by
  rw [BitVec.ofInt_natCast]
theorem poA (v:BitVec 64):IntKind.u64.wrap (v.toNat:Int)=(v.toNat:Int):=by
  have:=v.isLt
  rw [IntKind.wrap_u64];omega
def asB (x y:Nat):Nat:=(BitVec.ofNat 64 x ^^^ BitVec.ofNat 64 y).toNat
def y5A (x y:Nat):Nat:=(BitVec.ofNat 64 x &&& ~~~BitVec.ofNat 64 y).toNat
theorem xor64 (a b:Nat):bits .xor .u64 (a:Int) (b:Int)=((asB a b:Nat):Int):=by
  show IntKind.u64.wrap ((BitVec.ofInt 64 (a:Int) ^^^ BitVec.ofInt 64 (b:Int)).toNat:Int)=_
  rw [ojA,ojA,poA];rfl
theorem aaB (a b:Nat):bits .andNot .u64 (a:Int) (b:Int)=((y5A a b:Nat):Int):=by
  show IntKind.u64.wrap ((BitVec.ofInt 64 (a:Int) &&& ~~~BitVec.ofInt 64 (b:Int)).toNat:Int)=_
  rw [ojA,ojA,poA];rfl
theorem u4A (x y i:Nat) (hi:i < 64):(asB x y).testBit i=!(x.testBit i == y.testBit i):=by
  unfold asB
  rw [BitVec.testBit_toNat,BitVec.getLsbD_xor,BitVec.getLsbD_ofNat,BitVec.getLsbD_ofNat]
  simp only [hi,decide_true,Bool.true_and]
  cases x.testBit i <;> cases y.testBit i <;> rfl
theorem o7A (x y i:Nat) (hi:i < 64):(y5A x y).testBit i=(x.testBit i && !y.testBit i):=by
  unfold y5A
  rw [BitVec.testBit_toNat,BitVec.getLsbD_and,BitVec.getLsbD_not,BitVec.getLsbD_ofNat,BitVec.getLsbD_ofNat]
  simp [hi]
theorem zhA (x y:Nat) (w:World) (hx:x < 18446744073709551616) (hy:y < 18446744073709551616):Fc Tryz.prog 156 #[.int .u64 x,.int .u64 y] w (Ret w (.val (.int .u64 ((x ||| y:Nat):Int)))):=by
  refine Fc.of (args:=[_,_]) Tryz.func156 rfl rfl Tryz.ntmps156 (Nat.le_of_ble_eq_true rfl) ?_
  repeat' (first|(refine oLA ?_;first|refine a0A rfl ?_|refine bzA (.inr (.inl rfl)) rfl rfl rfl ?_|refine wOp ?_|(refine wCm ?_ ?_<;>intro hc)|(refine wNl hK ?_;clear hK K))|refine wG ?_|(refine wCR ?_;intro K hK)|fail)
  exact abA rfl rfl (Ext.refl _) (by rw [or64 x y hx hy])
theorem wnA (x y:Nat) (w:World) (hx:x < 18446744073709551616) (hy:y < 18446744073709551616):Fc Tryz.prog 189 #[.int .u64 x,.int .u64 y] w (Ret w (.val (.int .u64 ((y5A x y:Nat):Int)))):=by
  refine Fc.of (args:=[_,_]) Tryz.func189 rfl rfl Tryz.ntmps189 (Nat.le_of_ble_eq_true rfl) ?_
  repeat' (first|(refine oLA ?_;first|refine a0A rfl ?_|refine bzA (.inr (.inr (.inr rfl))) rfl rfl rfl ?_|refine wOp ?_|(refine wCm ?_ ?_<;>intro hc)|(refine wNl hK ?_;clear hK K))|refine wG ?_|(refine wCR ?_;intro K hK)|fail)
  exact abA rfl rfl (Ext.refl _) (by rw [aaB])
section
variable (w:World) (va vb:Value) (a b:List Int) (ha:SlI .u64 w va a) (hb:SlI .u64 w vb b) (hla:Lw a) (hlb:Lw b)
include ha hb hla hlb
theorem wor_c:Fc Tryz.prog 114 #[va,vb] w (Ret w (.pred (bfA w.heap.size 61 .u64 (wordsOf (kiA (fun x y=>x || y) a b))))):=by
  refine Fc.of (args:=[_,_]) Tryz.func114 rfl rfl Tryz.ntmps114 (Nat.le_of_ble_eq_true rfl) ?_
  repeat' (first|(refine oLA ?_;first|refine a0A rfl ?_|refine wOp ?_|(refine wCm ?_ ?_<;>intro hc)|(refine oCv ?_;first|(refine oC 155 ?_;refine beA (f:=155) rfl rfl rfl rfl rfl  (.pred (bfA w.heap.size 61 .u64 (wordsOf (kiA (fun x y=>x || y) a b)))) (by intro u1 u2 u3 w e hu1 hu2 hu3;(try obtain rfl:u1=_:=hu1);(try obtain rfl:u2=_:=hu2);(try obtain rfl:u3=_:=hu3);exact (wcA (fun x y=>x || y) (fun x y=>x ||| y) _ zhA (fun x y hx hy=>⟨Nat.or_lt_two_pow (n:=64) hx hy,fun i _=>Nat.testBit_or x y i⟩) _ _ _ a b (ha.ext e) (hb.ext e) hla hlb).mono (aaA e.size)) ?_))|(refine wNl hK ?_;clear hK K))|refine wG ?_|(refine wCR ?_;intro K hK)|fail)
  exact akA rfl rfl (Ext.refl _) (fun _ _ _ h=>h)
theorem zjA:Fc Tryz.prog 146 #[va,vb] w (Ret w (.pred (bfA w.heap.size 61 .u64 (wordsOf (kiA (fun x y=>x && !y) a b))))):=by
  refine Fc.of (args:=[_,_]) Tryz.func146 rfl rfl Tryz.ntmps146 (Nat.le_of_ble_eq_true rfl) ?_
  repeat' (first|(refine oLA ?_;first|refine a0A rfl ?_|refine wOp ?_|(refine wCm ?_ ?_<;>intro hc)|(refine oCv ?_;first|(refine oC 155 ?_;refine beA (f:=155) rfl rfl rfl rfl rfl  (.pred (bfA w.heap.size 61 .u64 (wordsOf (kiA (fun x y=>x && !y) a b)))) (by intro u1 u2 u3 w e hu1 hu2 hu3;(try obtain rfl:u1=_:=hu1);(try obtain rfl:u2=_:=hu2);(try obtain rfl:u3=_:=hu3);exact (wcA (fun x y=>x && !y) y5A _ wnA (fun x y hx hy=>⟨(BitVec.ofNat 64 x &&& ~~~BitVec.ofNat 64 y).isLt,fun i hi=>o7A x y i hi⟩) _ _ _ a b (ha.ext e) (hb.ext e) hla hlb).mono (aaA e.size)) ?_))|(refine wNl hK ?_;clear hK K))|refine wG ?_|(refine wCR ?_;intro K hK)|fail)
  exact akA rfl rfl (Ext.refl _) (fun _ _ _ h=>h)
end
end Go.Proofs.YtbokphkfojijoaaGreatDoor
end
section
set_option linter.unusedSimpArgs false
set_option linter.unusedVariables false
set_option maxRecDepth 3000
namespace Go.Proofs.YtbokphkfojijoaaGreatDoor
open Go.LA Go.ArrP Go.RowKit
def grA (ws:List Int):Nat → Nat
  | 0=>0
  | k + 1=>wd ws k / 9223372036854775808
theorem tuA (ws:List Int) (hl:Lw ws) (k i:Nat):(grA ws k).testBit i=(decide (i=0) && (decide (0 < k) && coA ws (64 * k - 1))):=by
  cases k with
  | zero=>simp [grA]
  | succ k =>
    have h2:=(hl.at k).2
    have e:coA ws (64 * (k + 1) - 1)=(wd ws k).testBit 63:=by
      unfold coA;rw [show (64 * (k + 1) - 1) / 64=k by omega,show (64 * (k + 1) - 1) % 64=63 by omega]
    rw [e,grA,show wd ws k / 9223372036854775808=(wd ws k) >>> 63 by rw [Nat.shiftRight_eq_div_pow],Nat.testBit_shiftRight]
    by_cases h:i=0
    · subst h;simp
    · rw [decide_eq_false h,Nat.testBit_lt_two_pow (Nat.lt_of_lt_of_le h2 (Nat.pow_le_pow_right (n:=2) (by decide) (by omega:64 ≤ 63 + i)))];simp
theorem m1A (ws:List Int) (hl:Lw ws) (k:Nat):cnt (bkA (coA ws)) (64 * (k + 1))=cnt (bkA (coA ws)) (64 * k) + geA (y5A (wd ws k) ((wd ws k * 2 % 18446744073709551616) ||| grA ws k)):=by
  rw [show 64 * (k + 1)=64 * k + 64 by omega,eyA]
  congr 1
  unfold geA
  refine cvA 64 fun i hi=>?_
  rw [o7A _ _ _ hi,Nat.testBit_or,tuA ws hl]
  have hs:(wd ws k * 2 % 18446744073709551616).testBit i=(decide (1 ≤ i) && (wd ws k).testBit (i - 1)):=by
    rw [show (18446744073709551616:Nat)=2 ^ 64 by rfl,Nat.testBit_mod_two_pow,decide_eq_true hi,Bool.true_and,Nat.mul_comm,show 2 * wd ws k=2 ^ 1 * wd ws k by rfl,Nat.testBit_two_pow_mul]
  rw [hs]
  have hb:∀ j,j < 64 → coA ws (64 * k + j)=(wd ws k).testBit j:=fun j hj=>by
    unfold coA;rw [show (64 * k + j) / 64=k by omega,show (64 * k + j) % 64=j by omega]
  simp only [bkA]
  rw [hb i hi]
  congr 1
  by_cases h0:i=0
  · subst h0
    rw [decide_eq_false (show ¬ 1 ≤ 0 by omega),Nat.add_zero]
    by_cases hk:k=0
    · subst hk;simp
    · rw [decide_eq_true (by omega:0 < k),show (64 * k == 0)=false by simp;omega];simp
  · rw [decide_eq_true (by omega:1 ≤ i),decide_eq_false h0,show (64 * k + i == 0)=false by simp;omega,show 64 * k + i - 1=64 * k + (i - 1) by omega,hb (i - 1) (by omega)];simp
theorem wkA (w:World) (v:Value) (ws:List Int) (h:SlI .u64 w v ws) (hl:Lw ws) (hn:ws.length ≤ 17592186044416):Fc Tryz.prog 174 #[v] w (Ret w (.val (.int .i64 (cnt (bkA (coA ws)) (64 * ws.length))))):=by
  refine Fc.of (args:=[_]) Tryz.func174 rfl rfl Tryz.ntmps174 (Nat.le_of_ble_eq_true rfl) ?_
  repeat' (first|(refine oLA ?_;first|refine a0A rfl ?_|refine wOp ?_|(refine wCm ?_ ?_<;>intro hc)|(refine wNl hK ?_;clear hK K))|refine wG ?_|(refine wCR ?_;intro K hK)|fail)
  refine bjA (ι:=Nat) (fun k=>[(3,.val (.int .i64 (cnt (bkA (coA ws)) (64 * k)))),(4,.val (.int .u64 (grA ws k))),(7,.val v),(8,.val (.int .i64 ws.length)),(9,.val (.int .i64 k))]) (fun k=>k ≤ ws.length) (fun k=>ws.length - k) 0 (by omega) (by repeat' (first | exact Sub.nil | refine Sub.val rfl (by first | with_reducible rfl | (congr 1;omega)) ?_ | refine Sub.same rfl ?_)) ?_
  intro k hk
  have hs:=m1A ws hl k
  have hc:=cnt_le (bkA (coA ws)) (64 * k)
  obtain ⟨e1,e2⟩:=hl.at k
  have hla:grA ws k < 18446744073709551616:=by
    cases k with
    | zero=>simp [grA]
    | succ j=>simp only [grA];have:=(hl.at j).2;omega
  have hla2:grA ws (k + 1)=wd ws k / 9223372036854775808:=rfl
  have hsh:IntKind.u64.wrap (ws.getD k 0 * 2 ^ (1:Int).toNat)=((wd ws k * 2 % 18446744073709551616:Nat):Int):=by
    rw [e1,IntKind.wrap_u64,show (1:Int).toNat=1 by rfl,Int.pow_one];omega
  have hor:=or64 (wd ws k * 2 % 18446744073709551616) (grA ws k) (by omega) hla
  have han:=aaB (wd ws k) (wd ws k * 2 % 18446744073709551616 ||| grA ws k)
  obtain ⟨G,hG⟩:∃ G,G=y5A (wd ws k) (wd ws k * 2 % 18446744073709551616 ||| grA ws k):=⟨_,rfl⟩
  have hGl:G < 18446744073709551616:=hG ▸ (BitVec.ofNat 64 (wd ws k) &&& ~~~BitVec.ofNat 64 (wd ws k * 2 % 18446744073709551616 ||| grA ws k)).isLt
  rw [← hG] at hs han
  rw [← e1] at han
  have hp:=vzA G
  by_cases hkl:k < ws.length
  · skip
    repeat' (first|(refine oLA ?_;first|refine a0A rfl ?_|(show LA _ _ _ _ (⟨_,.binOp .shl _ _ _ _,_,_,_,_⟩ :: _) _;refine lsA rfl rfl rfl (by omega) (by dsimp only [IntKind.bits];omega) ?_;rw [hsh])|(show LA _ _ _ _ (⟨_,.binOp .or _ _ _ _,_,_,_,_⟩ :: _) _;refine bzA (.inr (.inl rfl)) rfl rfl rfl ?_;rw [hor])|(show LA _ _ _ _ (⟨_,.binOp .andNot _ _ _ _,_,_,_,_⟩ :: _) _;refine bzA (.inr (.inr (.inr rfl))) rfl rfl rfl ?_;rw [han])|(refine oC 178 ?_;refine a2A (f:=178) rfl rfl rfl  (.val (.int .i64 (geA G))) (by intro u1 w e hu1;(try obtain rfl:u1=_:=hu1);exact m8A rfl hGl) ?_)|refine wOp ?_|(refine wCm ?_ ?_<;>intro hc)|(refine wNl hK ?_;clear hK K))|refine wG ?_|(refine wCR ?_;intro K hK)|fail)
    refine chA (k + 1) ?_ ?_ (by repeat' (first | exact Sub.nil | refine Sub.val rfl (by first | with_reducible rfl | (congr 1;omega)) ?_ | refine Sub.same rfl ?_))
    · omega
    · omega
  · obtain rfl:k=ws.length:=by omega
    repeat' (first|(refine oLA ?_;first|refine a0A rfl ?_|refine wOp ?_|(refine wCm ?_ ?_<;>intro hc)|(refine wNl hK ?_;clear hK K))|refine wG ?_|(refine wCR ?_;intro K hK)|fail)
    exact abA rfl rfl (Ext.refl _) rfl
end Go.Proofs.YtbokphkfojijoaaGreatDoor
end
section
set_option linter.unusedSimpArgs false
set_option linter.unusedVariables false
set_option maxRecDepth 3000
namespace Go.Proofs.YtbokphkfojijoaaGreatDoor
open Go.LA Go.ArrP Go.RowKit
def Cut (W j x:Nat):Prop:=x < 18446744073709551616 ∧ ∀ b,x.testBit b=(W.testBit b && decide (j ≤ cnt (fun i=>W.testBit i) b))
end Go.Proofs.YtbokphkfojijoaaGreatDoor
end
section
set_option linter.unusedSimpArgs false
set_option linter.unusedVariables false
set_option maxRecDepth 3000
namespace Go.Proofs.YtbokphkfojijoaaGreatDoor
open Go.LA Go.ArrP Go.RowKit
theorem e5A {k:IntKind} {xs:List Int}:∀ u ∈ xs.map (Value.int k),u.oneCell'=true:=fun u hu=>by
  simp only [List.mem_map] at hu
  obtain ⟨x,_,rfl⟩:=hu
  rfl
def tmA (ws:List Int):List Int:=ws.take 1024 ++ List.replicate (1024 - ws.length) 0
theorem nrA (ws:List Int):(tmA ws).length=1024:=by simp [tmA];omega
theorem xhA {ws:List Int} (h:Lw ws):Lw (tmA ws):=fun x hx=>by
  rcases List.mem_append.1 hx with h1 | h1
  · exact h x (List.mem_of_mem_take h1)
  · exact mzA _ x h1
theorem tlA (ws:List Int) {i:Nat} (hi:i < 65536):coA (tmA ws) i=coA ws i:=by
  unfold coA wd
  congr 2
  unfold tmA
  by_cases h:i / 64 < ws.length
  · rw [List.getD,List.getElem?_append_left (by rw [List.length_take];omega),List.getElem?_take,if_pos (by omega)];rfl
  · rw [List.getD,List.getElem?_append_right (by rw [List.length_take];omega),List.getD,List.getElem?_eq_none (by omega:ws.length ≤ i / 64),List.getElem?_replicate]
    split <;> rfl
def mjA (ws:List Int) (lo hi:Int) (i:Nat):Bool:=!(coA ws i == (decide (lo ≤ i) && decide ((i:Int) < hi)))
theorem trA (d s:Nat):(18446744073709551615 / 2 ^ (64 - d) * 2 ^ s:Int) % 18446744073709551616=((18446744073709551615 / 2 ^ (64 - d) * 2 ^ s % 18446744073709551616:Nat):Int):=by
  rw [Int.natCast_emod,Int.natCast_mul,Int.natCast_ediv,Int.natCast_pow,Int.natCast_pow];rfl
theorem wvA {base e:Nat} {k:IntKind} {w:World} {v:Value} (h:OwnI base e k w v (List.replicate 1024 0)):eoA v 0 1024 1=v:=by
  obtain ⟨gb,cap,cur,hv,hgb,hgc,hgn,hgm,hgs,hgt⟩:=h.row (by rw [List.length_replicate];decide)
  rw [List.length_replicate] at hv hgn
  rw [hv,g1A (by omega),Nat.zero_mul,Nat.sub_zero,Nat.sub_zero]
theorem SlI.c64 {k:IntKind} {w:World} {v:Value} {xs:List Int} (h:SlI k w v xs):SlC w v xs.length 1 (xs.map (Value.int k)):=h
theorem wpA (w:World) (v:Value) (ws:List Int) (lo hi:Int) (h:SlI .u64 w v ws) (hl:Lw ws) (hlo:-9223372036854775808 ≤ lo ∧ lo < 9223372036854775808) (hhi:-9223372036854775808 ≤ hi ∧ hi < 9223372036854775808) :
    Fc Tryz.prog 117 #[v,.int .i64 lo,.int .i64 hi] w (Ret w (.pred (bfA w.heap.size 61 .u64 (wordsOf (mjA ws lo hi))))):=by
  have hlen:=h.len
  refine Fc.of (args:=[_,_,_]) Tryz.func117 rfl rfl Tryz.ntmps117 (Nat.le_of_ble_eq_true rfl) ?_
  repeat' (first|(refine oLA ?_;first|refine a0A rfl ?_|refine e8A (n:=1024) rfl nbA rfl rfl (by decide) (by decide) ?_|refine fnA rfl rfl rfl ?_|refine dxA rfl rfl rfl ?_|(refine oD 12 ?_;refine a4A (hK _ _ (b8A 7 rfl (fun v7 w3 e3 h3=>?_)));clear hK K;have h3:OwnI w.heap.size 61 .u64 w3 v7 (List.replicate 1024 0):=h3;have hw3:=h.ext e3;have hv7:eoA v7 0 (List.replicate 1024 (0:Int)).length 1=v7:=(by rw [List.length_replicate];exact wvA h3);refine aeA (by kernel_rfl) (fun K hK=>?_))|(refine a4A (hK _ _ (yzA 0 rfl (by intro q h;cases h;decide) nbA (by rw [hv7];rfl) rfl h3 (SlI.c64 hw3) (Nat.zero_le _) (fun c hc=>e5A c (List.mem_of_mem_take hc)) (fun w4 w5 e4 ho5 hg5=>?_)));clear hK K;dsimp only [vals];refine aeA (by kernel_rfl) (fun K hK=>?_))|refine wOp ?_|(refine wCm ?_ ?_<;>intro hc)|(refine wNl hK ?_;clear hK K))|refine wG ?_|(refine wCR ?_;intro K hK)|fail)
  have x5:Ext w w5:=(e3.trans e4).grown hg5 (fun q hq=>(Own.lt h3 q hq).1)
  have o5:OwnI w.heap.size 61 .u64 w5 v7 (tmA ws):=by
    unfold OwnI
    rw [nrA]
    have e:(List.map (Value.int .u64) (List.replicate 1024 (0:Int))).take (0 * 1) ++ (List.map (Value.int .u64) ws).take (min ws.length ((List.replicate 1024 (0:Int)).length - 0) * 1) ++ (List.map (Value.int .u64) (List.replicate 1024 (0:Int))).drop ((0 + min ws.length ((List.replicate 1024 (0:Int)).length - 0)) * 1)=(tmA ws).map (Value.int .u64):=by
      rw [List.length_replicate,Nat.zero_mul,List.take_zero,List.nil_append,← List.map_take,← List.map_drop,← List.map_append]
      unfold tmA
      rw [List.drop_replicate,show min ws.length (1024 - 0) * 1=min ws.length 1024 by omega,show 1024 - (0 + min ws.length (1024 - 0)) * 1=1024 - ws.length by omega]
      congr 2
      by_cases h:ws.length ≤ 1024
      · rw [Nat.min_eq_left h,List.take_of_length_le (Nat.le_refl _),List.take_of_length_le h]
      · rw [Nat.min_eq_right (by omega)]
    rw [e,List.length_replicate] at ho5;exact ho5
  obtain ⟨LO,hLO⟩:∃ LO:Nat,max lo 0=LO:=⟨(max lo 0).toNat,by omega⟩
  obtain ⟨HI,hHI⟩:∃ HI:Int,min hi 65536=HI:=⟨_,rfl⟩
  rw [hLO,hHI]
  have hLb:(LO:Int) < 9223372036854775808:=by omega
  have hHb:-9223372036854775808 ≤ HI ∧ HI ≤ 65536:=by omega
  refine adA (ι:=Nat × List Int) (fun i=>[(1,.val (.int .i64 LO)),(2,.val (.int .i64 HI)),(7,.val v7),(19,.val (.int .i64 i.1))]) (fun i w'=>Ext w w' ∧ i.1 ≤ 1024 ∧ i.2.length=1024 ∧ Lw i.2 ∧ (∀ j,j < 65536 → coA i.2 j=if j < 64 * i.1 then mjA ws lo hi j else coA ws j) ∧ OwnI w.heap.size 61 .u64 w' v7 i.2)
    (fun i=>1024 - i.1) (fun w2 e2=>⟨(0,tmA ws),⟨x5.trans e2,Nat.zero_le _,nrA ws,xhA hl,fun j hj=>by rw [tlA ws hj];simp,o5.ext e2⟩,(by repeat' (first | exact Sub.nil | refine Sub.val rfl (by first | with_reducible rfl | (congr 1;omega)) ?_ | refine Sub.same rfl ?_))⟩) ?_
  rintro ⟨k,l⟩ w1 ⟨he,hk,hwl,hlw,hbit,ho⟩
  dsimp only at hk hwl hlw hbit ho ⊢
  clear hLb
  by_cases hkl:k < 1024
  · have tail:∀ j,j < 65536 → j / 64 ≠ k → coA l j=if j < 64 * (k + 1) then mjA ws lo hi j else coA ws j:=fun j hj e=>by
      rw [hbit j hj]
      by_cases h1:j < 64 * k
      · rw [if_pos h1,if_pos (by omega)]
      · rw [if_neg h1,if_neg (by omega)]
    by_cases hfg:max (LO:Int) (64 * k) < min HI (64 * k + 64)
    · obtain ⟨d,s,hs,hd,hds,hbits⟩:∃ d s:Nat,max (LO:Int) (64 * k) - 64 * k=s ∧ min HI (64 * k + 64) - max (LO:Int) (64 * k)=d ∧ (0 < d ∧ d + s ≤ 64) ∧ ∀ b,b < 64 → ((decide (s ≤ b) && decide (b < s + d))=(decide (lo ≤ ((64 * k + b:Nat):Int)) && decide (((64 * k + b:Nat):Int) < hi))):=by
        refine ⟨(min HI (64 * k + 64) - max (LO:Int) (64 * k)).toNat,(max (LO:Int) (64 * k) - 64 * k).toNat,by omega,by omega,by omega,fun b hb=>?_⟩
        congr 1
        · rw [decide_eq_decide];omega
        · rw [decide_eq_decide];omega
      obtain ⟨M,hM⟩:∃ M:Nat,M=18446744073709551615 / 2 ^ (64 - d) * 2 ^ s % 18446744073709551616:=⟨_,rfl⟩
      have hmask:∀ b,M.testBit b=(decide (s ≤ b) && decide (b < s + d)):=fun b=>by rw [hM];exact tsA d s b hds.2
      have hMi:IntKind.u64.wrap (18446744073709551615 / 2 ^ (64 - (min HI (64 * (k:Int) + 64) - max (LO:Int) (64 * k))).toNat * 2 ^ (max (LO:Int) (64 * k) - 64 * k).toNat)=(M:Int):=by
        rw [hs,hd,hM,IntKind.wrap_u64,show (64 - (d:Int)).toNat=64 - d by omega,Int.toNat_natCast]
        exact trA d s
      obtain ⟨gb,cap,cur,rfl,hgb,hgc,hgn,hgm,hgs,hgt⟩:=ho.row (by omega)
      have hra:=q6A hgt (i:=0 + k * 1) (by omega)
      obtain ⟨e1,e2⟩:=hlw.at k
      rw [show 0 + k * 1=k by omega,e1] at hra
      repeat' (first|(refine oLA ?_;first|refine a0A rfl ?_|refine fnA rfl rfl rfl ?_|refine dxA rfl rfl rfl ?_|(refine c6A (s:=1) rfl rfl (fun _=>rfl) rfl rfl (by omega) (by omega) ?_;rw [Int.toNat_natCast])|refine a5A rfl (fun _=>rfl) rfl hgc (by rw [show 0 + k * 1=k by omega];exact hra) ?_|(refine bzA (.inr (.inr (.inl rfl))) rfl rfl rfl ?_;rw [hMi,xor64])|(refine a4A (hK _ _ rfl (bgA (o:=0 + k * 1) rfl rfl rfl hgc (fun _=>rfl) (by omega) rfl rfl (fun w4 e4=>?_)));clear hK K;dsimp only [vals];refine aeA (by kernel_rfl) (fun K hK=>?_))|refine wOp ?_|(refine wCm ?_ ?_<;>intro hc)|(refine wNl hK ?_;clear hK K))|(refine oCX ?_;first|refine crA 16 (by decide) (by kernel_rfl) (by kernel_rfl) (fun K hK=>?_))|refine wG ?_|(refine wCR ?_;intro K hK)|fail)
      refine a6A (k + 1,l.set (0 + k * 1) ((asB (wd l k) M:Nat):Int)) (fun w5 e5=>⟨((he.trans e4).setRow hgb _).trans e5,?_,?_,?_,?_,?_⟩) ?_ (by repeat' (first | exact Sub.nil | refine Sub.val rfl (by first | with_reducible rfl | (congr 1;omega)) ?_ | refine Sub.same rfl ?_))
      · dsimp only;omega
      · dsimp only;simp [hwl]
      · exact hlw.set _ (BitVec.ofNat 64 (wd l k) ^^^ BitVec.ofNat 64 M).isLt
      · intro j hj
        dsimp only
        rw [show 0 + k * 1=k by omega,kyA (by omega)]
        by_cases e:j / 64=k
        · have hb:=hbit j hj
          rw [if_neg (by omega)] at hb
          rw [if_pos e,u4A _ _ _ (by omega),if_pos (by omega),hmask,hbits _ (by omega),show 64 * k + j % 64=j by omega]
          unfold mjA
          rw [← hb]
          unfold coA;rw [e]
        · rw [if_neg e];exact tail j hj e
      · have hh:=OwnI.set hgb (e4.block hgc) hgn hgm hgs hgt (0 + k * 1) (by omega) ((asB (wd l k) M:Nat):Int)
        dsimp only
        exact OwnI.ext hh e5
      · dsimp only;omega
    · skip
      repeat' (first|(refine oLA ?_;first|refine a0A rfl ?_|refine fnA rfl rfl rfl ?_|refine dxA rfl rfl rfl ?_|refine wOp ?_|(refine wCm ?_ ?_<;>intro hc)|(refine wNl hK ?_;clear hK K))|refine wG ?_|(refine wCR ?_;intro K hK)|fail)
      refine a6A (k + 1,l) (fun w5 e5=>⟨he.trans e5,?_,hwl,hlw,?_,ho.ext e5⟩) ?_ (by repeat' (first | exact Sub.nil | refine Sub.val rfl (by first | with_reducible rfl | (congr 1;omega)) ?_ | refine Sub.same rfl ?_))
      · dsimp only;omega
      · intro j hj
        dsimp only
        by_cases e:j / 64=k
        · have hb:=hbit j hj
          rw [if_neg (by omega)] at hb
          rw [hb,if_pos (by omega)]
          unfold mjA
          have:(decide (lo ≤ (j:Int)) && decide ((j:Int) < hi))=false:=by
            rw [Bool.and_eq_false_iff,decide_eq_false_iff_not,decide_eq_false_iff_not];omega
          rw [this];cases coA ws j <;> rfl
        · exact tail j hj e
      · dsimp only;omega
  · obtain rfl:k=1024:=by omega
    repeat' (first|(refine oLA ?_;first|refine a0A rfl ?_|refine wOp ?_|(refine wCm ?_ ?_<;>intro hc)|(refine wNl hK ?_;clear hK K))|refine wG ?_|(refine wCR ?_;intro K hK)|fail)
    refine akA rfl rfl he (fun u w2 e2 hu=>?_)
    obtain rfl:u=_:=hu
    have hh:=ho.ext e2
    rwa [joA hlw hwl,c1A (q:=mjA ws lo hi) (fun i hi=>by rw [hbit i hi,if_pos (by omega)])] at hh
end Go.Proofs.YtbokphkfojijoaaGreatDoor
end
section
set_option linter.unusedSimpArgs false
set_option linter.unusedVariables false
set_option maxRecDepth 3000
namespace Go.Proofs.YtbokphkfojijoaaGreatDoor
open Go.LA Go.ArrP Go.RowKit
def kmA (what:Int) (a b:Bool):Bool:=if what=1 then a && b else if what=2 then a || b else if what=3 then a && !b else !(a == b)
end Go.Proofs.YtbokphkfojijoaaGreatDoor
end
section
set_option linter.unusedSimpArgs false
set_option linter.unusedVariables false
set_option maxRecDepth 3000
namespace Go.Proofs.YtbokphkfojijoaaGreatDoor
open Go.LA Go.ArrP Go.RowKit
def rcA (p:Nat → Bool) (lo hi:Int) (i:Nat):Bool:=!(p i == (decide (lo ≤ i) && decide ((i:Int) < hi)))
end Go.Proofs.YtbokphkfojijoaaGreatDoor
end
