import Derived.Test.YtbokphkfojijoaaGreatDoorJ9
import Derived.Test.YtbokphkfojijoaaGreatDoorJ13
set_option linter.unusedSimpArgs false
set_option linter.unusedVariables false
set_option maxRecDepth 3000
set_option maxHeartbeats 16000000
section
namespace Go.Proofs.YtbokphkfojijoaaGreatDoor
namespace Srt
open Go.LA Go.ArrP Go.RowKit
theorem x5A {w:World} (n:Nat) (hn:n<18446744073709551616):Fc Tryz.prog 171 #[.int .u64 n] w (Ret w (.val (.int .i64 (Go.Sort.bitsLen n:Nat)))):=by
 have D32:∀ m:Nat,4294967296≤m→Go.Sort.bitsLen m=32+Go.Sort.bitsLen (m / 4294967296):=λ m h=>Go.Sort.bitsLen_div (k:=32) h
 have D16:∀ m:Nat,65536≤m→Go.Sort.bitsLen m=16+Go.Sort.bitsLen (m / 65536):=λ m h=>Go.Sort.bitsLen_div (k:=16) h
 have D8:∀ m:Nat,256≤m→Go.Sort.bitsLen m=8+Go.Sort.bitsLen (m / 256):=λ m h=>Go.Sort.bitsLen_div (k:=8) h
 refine Fc.of (args:=[_]) Tryz.func171 rfl rfl Tryz.ntmps171 nZ ?_
 repeat' (first|(refine yL ?_;first|refine a0A rfl ?_|(refine oD 22 ?_;refine zzA rfl rfl rfl rfl oZ oZ (by decide +kernel) (λ vT hT hT8=>?_))|refine yO ?_|(refine yC ?_ ?_<;>intro hc)|(refine yN hK ?_;clear hK K))|refine wG ?_|(refine yR ?_;intro K hK)|fail)
 all_goals (refine ajA rfl rfl (Ext.refl _) ?_;congr 1)
 ·have z:((n:Int) / 4294967296 / 65536 / 256).toNat=n / 4294967296 / 65536 / 256:=oZ
  rw [z] at hT;have z2:Go.Sort.bitsLen n=56+Go.Sort.bitsLen (n / 4294967296 / 65536 / 256):=by (rw [D32 _ oZ,D16 _ oZ,D8 _ oZ]) <;> omega
  omega
 ·have z:((n:Int) / 4294967296 / 65536).toNat=n / 4294967296 / 65536:=oZ
  rw [z] at hT;have z2:Go.Sort.bitsLen n=48+Go.Sort.bitsLen (n / 4294967296 / 65536):=by (rw [D32 _ oZ,D16 _ oZ]) <;> omega
  omega
 ·have z:((n:Int) / 4294967296 / 256).toNat=n / 4294967296 / 256:=oZ
  rw [z] at hT;have z2:Go.Sort.bitsLen n=40+Go.Sort.bitsLen (n / 4294967296 / 256):=by (rw [D32 _ oZ,D8 _ oZ]) <;> omega
  omega
 ·have z:((n:Int) / 4294967296).toNat=n / 4294967296:=oZ
  rw [z] at hT;have z2:Go.Sort.bitsLen n=32+Go.Sort.bitsLen (n / 4294967296):=by (rw [D32 _ oZ]) <;> omega
  omega
 ·have z:((n:Int) / 65536 / 256).toNat=n / 65536 / 256:=oZ
  rw [z] at hT;have z2:Go.Sort.bitsLen n=24+Go.Sort.bitsLen (n / 65536 / 256):=by (rw [D16 _ oZ,D8 _ oZ]) <;> omega
  omega
 ·have z:((n:Int) / 65536).toNat=n / 65536:=oZ
  rw [z] at hT;have z2:Go.Sort.bitsLen n=16+Go.Sort.bitsLen (n / 65536):=by (rw [D16 _ oZ]) <;> omega
  omega
 ·have z:((n:Int) / 256).toNat=n / 256:=oZ
  rw [z] at hT;have z2:Go.Sort.bitsLen n=8+Go.Sort.bitsLen (n / 256):=by (rw [D8 _ oZ]) <;> omega
  omega
 ·have z:((n:Int)).toNat=n:=oZ
  rw [z] at hT;have z2:Go.Sort.bitsLen n=0+Go.Sort.bitsLen (n):=oZ;omega
theorem idA {w:World} (n:Nat) (hn:n<18446744073709551616):Fc Tryz.prog 120 #[.int .u64 n] w (Ret w (.val (.int .i64 (Go.Sort.bitsLen n:Nat)))):=by
 refine Fc.of (args:=[_]) Tryz.func120 rfl rfl Tryz.ntmps120 nZ ?_
 repeat' (first|(refine yL ?_;first|refine a0A rfl ?_|refine yO ?_|(refine yC ?_ ?_<;>intro hc)|(refine yV ?_;first|(refine oC 171 ?_;refine a1A (f:=171) rfl rfl rfl  (.val (.int .i64 (Go.Sort.bitsLen n:Nat))) (by intro u1 w e hu1;(try obtain rfl:u1=_:=hu1);exact x5A n hn) ?_))|(refine yN hK ?_;clear hK K))|refine wG ?_|(refine yR ?_;intro K hK)|fail)
 exact ajA rfl rfl (Ext.refl _) rfl
theorem z5A {w:World} (n:Nat) (hn:n<4611686018427387904):Fc Tryz.prog 196 #[.int .i64 n] w (Ret w (.val (.int .u64 ((2 ^ Go.Sort.bitsLen n:Nat):Int)))):=by
 have hb:=(Go.Sort.bitsLen_le_iff n 62).2 oZ;refine Fc.of (args:=[_]) Tryz.func196 rfl rfl Tryz.ntmps196 nZ ?_
 repeat' (first|(refine yL ?_;first|refine a0A rfl ?_|refine yO ?_|(refine yC ?_ ?_<;>intro hc)|(refine yV ?_;first|(refine oC 120 ?_;refine a1A (f:=120) rfl rfl rfl  (.val (.int .i64 (Go.Sort.bitsLen n:Nat))) (by intro u1 w e hu1;(try obtain rfl:u1=_:=hu1);exact idA n oZ) ?_))|(refine yN hK ?_;clear hK K))|refine wG ?_|(refine yR ?_;intro K hK)|fail)
 refine ajA rfl rfl (Ext.refl _) ?_
 congr 1;rw [IntKind.wrap_u64,Int.toNat_natCast,Int.one_mul];have:=Nat.pow_le_pow_right (n:=2) oZ hb;rw [show ((2:Int) ^ Go.Sort.bitsLen n)=((2 ^ Go.Sort.bitsLen n:Nat):Int) by push_cast;rfl]
 generalize 2 ^ Go.Sort.bitsLen n=p at *
 omega
end Srt
end Go.Proofs.YtbokphkfojijoaaGreatDoor
end
section
namespace Go.Proofs.YtbokphkfojijoaaGreatDoor
namespace Srt
open Go.LA Go.ArrP Go.RowKit
theorem vyA {w0 w:World} {rb e2:Nat} {kd2:IntKind} {v2:Value} {ys:List Int} {r:Int} (he:Ext w0 w) (hr:OwnI w0.heap.size 217 .u64 w (.slice (some ⟨rb,0,none⟩) 1 1) [r]) (h0:0≤r∧r<18446744073709551616) (ho:OwnI w0.heap.size e2 kd2 w v2 ys) (hne:e2≠217) :
 Fc Tryz.prog 197 #[.pointer (some ⟨rb,0,none⟩)] w (λ e w'=>∃ c:Nat,e=.returned (.int .u64 c)∧c<18446744073709551616∧Ext w0 w'∧OwnI w0.heap.size 217 .u64 w' (.slice (some ⟨rb,0,none⟩) 1 1) [(c:Int)]∧OwnI w0.heap.size e2 kd2 w' v2 ys):=by
 refine Fc.of (args:=[_]) Tryz.func197 rfl rfl Tryz.ntmps197 nZ ?_
 repeat' (first|(refine yL ?_;first|refine yB ?_|(refine a8A rfl rfl ?_)|(refine oL ?_;refine bdA hr rfl (λ _=>rfl) rfl (by exact Nat.zero_lt_one) ?_;rw [show [r].getD 0 0=r from rfl])|(refine oD 10 ?_;refine msA rfl rfl rfl (λ c1 hc1=>?_) oZ (by rw [IntKind.wrap_u64];omega))|refine yO ?_|(refine yC ?_ ?_<;>intro hc)|(refine yN hK ?_;clear hK K))|(refine oCX ?_;first|refine b4A (id:=1) [9] kZ kZ kZ (a9A ?_))|refine wG ?_|(refine yR ?_;intro K hK)|refine wPh ?_|fail)
 refine ixA (j:=0) rfl he hr ho hne rfl rfl (by exact Nat.zero_lt_one) (λ _=>rfl) (λ w1 he1 hr1 ho1=>?_);replace hr1:OwnI w0.heap.size 217 .u64 w1 (.slice (some ⟨rb,0,none⟩) 1 1) [(c1:Int)]:=hr1;refine b3A ?_
 repeat' (first|(refine yL ?_;first|refine yB ?_|(refine a8A rfl rfl ?_)|(refine oL ?_;refine bdA hr1 rfl (λ _=>rfl) rfl (by exact Nat.zero_lt_one) ?_;rw [show [(c1:Int)].getD 0 0=(c1:Int) from rfl])|(refine oD 19 ?_;refine msA rfl rfl rfl (λ c2 hc2=>?_) oZ oZ)|refine yO ?_|(refine yC ?_ ?_<;>intro hc)|(refine yN hK ?_;clear hK K))|(refine oCX ?_;first|refine b4A (id:=2) [9] kZ kZ kZ (a9A ?_))|refine wG ?_|(refine yR ?_;intro K hK)|refine wPh ?_|fail)
 refine ixA (j:=0) rfl he1 hr1 ho1 hne rfl rfl (by exact Nat.zero_lt_one) (λ _=>rfl) (λ w2 he2 hr2 ho2=>?_);replace hr2:OwnI w0.heap.size 217 .u64 w2 (.slice (some ⟨rb,0,none⟩) 1 1) [(c2:Int)]:=hr2;refine b3A ?_
 repeat' (first|(refine yL ?_;first|refine yB ?_|(refine a8A rfl rfl ?_)|(refine oL ?_;refine bdA hr2 rfl (λ _=>rfl) rfl (by exact Nat.zero_lt_one) ?_;rw [show [(c2:Int)].getD 0 0=(c2:Int) from rfl])|(refine oD 28 ?_;refine msA rfl rfl rfl (λ c3 hc3=>?_) oZ (by rw [IntKind.wrap_u64];omega))|refine yO ?_|(refine yC ?_ ?_<;>intro hc)|(refine yN hK ?_;clear hK K))|(refine oCX ?_;first|refine b4A (id:=3) [9] kZ kZ kZ (a9A ?_))|refine wG ?_|(refine yR ?_;intro K hK)|refine wPh ?_|fail)
 refine ixA (j:=0) rfl he2 hr2 ho2 hne rfl rfl (by exact Nat.zero_lt_one) (λ _=>rfl) (λ w3 he3 hr3 ho3=>?_);replace hr3:OwnI w0.heap.size 217 .u64 w3 (.slice (some ⟨rb,0,none⟩) 1 1) [(c3:Int)]:=hr3;refine b3A ?_
 repeat' (first|(refine yL ?_;first|refine yB ?_|(refine a8A rfl rfl ?_)|(refine oL ?_;refine bdA hr3 rfl (λ _=>rfl) rfl (by exact Nat.zero_lt_one) ?_;rw [show [(c3:Int)].getD 0 0=(c3:Int) from rfl])|refine yO ?_|(refine yC ?_ ?_<;>intro hc)|(refine yN hK ?_;clear hK K))|refine wG ?_|(refine yR ?_;intro K hK)|refine wPh ?_|fail)
 exact cbA rfl (λ x w5 e5 hx=>by obtain rfl:x=_:=hx;exact ⟨c3,rfl,hc3,he3.trans e5,hr3.ext e5,ho3.ext e5⟩)
end Srt
end Go.Proofs.YtbokphkfojijoaaGreatDoor
end
section
namespace Go.Proofs.YtbokphkfojijoaaGreatDoor
namespace Srt
open Go.LA Go.ArrP Go.RowKit
def Sw (w0 w:World) (sb:Nat):Prop:=∃ s,OwnI w0.heap.size 3 .i64 w (.slice (some ⟨sb,0,none⟩) 1 1) [s]
theorem Sw.ext {w0 w w':World} {sb:Nat} (h:Sw w0 w sb) (e:Ext w w'):Sw w0 w' sb:=by obtain ⟨s,h⟩:=h;exact ⟨s,h.ext e⟩
end Srt
end Go.Proofs.YtbokphkfojijoaaGreatDoor
end
section
namespace Go.Proofs.YtbokphkfojijoaaGreatDoor
namespace Srt
open Go.LA Go.ArrP Go.RowKit
end Srt
end Go.Proofs.YtbokphkfojijoaaGreatDoor
namespace Go.LA
structure CXh (P:Program) (N:Nn) (wb:World) (c:Code) (E:Env) (Q:Exit→Act→World→Prop):Prop where
 out:CX P N wb c E Q
theorem shA {P:Program} {N:Nn} {wb:World} {E:Env} {Q:Exit→Act→World→Prop} {id:Nat} {l:Array Oper} {m:Bool} {c1 c':Code} (h:CXh P N wb (.seq (.seq (.region id l m) c1) c') E Q):CX P N wb (.seq (.seq (.region id l m) c1) c') E Q:=h.out
theorem ydA {P:Program} {N:Nn} {wb:World} {E:Env} {Q:Exit→Act→World→Prop} {c:Code} (h:CX P N wb c E Q):CXh P N wb c E Q:=⟨h⟩
end Go.LA
namespace Go.Proofs.YtbokphkfojijoaaGreatDoor
namespace Srt
open Go.LA Go.ArrP Go.RowKit
end Srt
end Go.Proofs.YtbokphkfojijoaaGreatDoor
end
