import Derived.Lib.TrailingZeros
import Derived.Test.YtbokphkfojijoaaGreatDoorJ3
set_option linter.unusedSimpArgs false
set_option linter.unusedVariables false
set_option maxRecDepth 3000
set_option maxHeartbeats 16000000
section
namespace Go.LA
open Go.RowKit
theorem ouA (k a b c d:Nat) (ha:a<2 ^ k) (hc:c<2 ^ k):(a+2 ^ k*b) &&& (c+2 ^ k*d)=(a &&& c)+2 ^ k*(b &&& d):=by
 have hac:a &&& c<2 ^ k:=Nat.lt_of_le_of_lt Nat.and_le_left ha
 apply Nat.eq_of_testBit_eq
 intro i;rw [Nat.testBit_and,Nat.add_comm a,Nat.add_comm c,Nat.add_comm (a &&& c),Nat.testBit_two_pow_mul_add _ ha,Nat.testBit_two_pow_mul_add _ hc,Nat.testBit_two_pow_mul_add _ hac]
 by_cases h:i<k
 ·simp [h,Nat.testBit_and]
 ·simp [h,Nat.testBit_and]
theorem ehA (a b c d:Nat) (ha:a<256) (hc:c<256):(a+256*b) &&& (c+256*d)=(a &&& c)+256*(b &&& d):=ouA 8 a b c d ha hc
def y1 (m x:Nat):Nat:=(x / 2 &&& m)+(x &&& m)
def y2 (m x:Nat):Nat:=(x / 4 &&& m)+(x &&& m)
def y3 (m x:Nat):Nat:=(x / 16+x) &&& m
theorem snA (a b m:Nat) (ha:a<256):y1 (85+256*m) (a+256*b)=y1 85 a+256*y1 m b:=by
 have e:(a+256*b) / 2=(a / 2+128*(b % 2))+256*(b / 2):=oZ;have f:∀ c,c<128→∀ t,t<2→(c+128*t) &&& 85=c &&& 85:=by decide +kernel
 unfold y1;rw [e,ehA _ _ _ _ oZ oZ,ehA _ _ _ _ ha oZ,f _ oZ _ oZ];omega
theorem smA (a b m:Nat) (ha:a<256):y2 (51+256*m) (a+256*b)=y2 51 a+256*y2 m b:=by
 have e:(a+256*b) / 4=(a / 4+64*(b % 4))+256*(b / 4):=oZ;have f:∀ c,c<64→∀ t,t<4→(c+64*t) &&& 51=c &&& 51:=by decide +kernel
 unfold y2;rw [e,ehA _ _ _ _ oZ oZ,ehA _ _ _ _ ha oZ,f _ oZ _ oZ];omega
theorem slA (a b m:Nat) (ha:a≤68) (hb:b % 16≤4):y3 (15+256*m) (a+256*b)=y3 15 a+256*y3 m b:=by
 have e:(a+256*b) / 16+(a+256*b)=(a / 16+a+16*(b % 16))+256*(b / 16+b):=oZ;have f:∀ c,c≤72→∀ t,t≤4→(c+16*t) &&& 15=c &&& 15:=by decide +kernel
 unfold y3;rw [e,ehA _ _ _ _ oZ oZ,f _ oZ _ oZ]
def pop8 (a:Nat):Nat:=cnt (λ i=>a.testBit i) 8
theorem rjA:∀ a,a<256→y1 85 a<256∧y2 51 (y1 85 a)≤68∧y2 51 (y1 85 a) % 16≤4∧y3 15 (y2 51 (y1 85 a))=pop8 a:=by decide +kernel
def mk8 (c:Nat):Nat→Nat
 | 0=>0
 | n+1=>c+256*mk8 c n
def popB:Nat→Nat→Nat
 | 0,_=>0
 | n+1,x=>pop8 (x % 256)+256*popB n (x / 256)
theorem swar:∀ n x,x<256 ^ n→y3 (mk8 15 n) (y2 (mk8 51 n) (y1 (mk8 85 n) x))=popB n x∧y2 (mk8 51 n) (y1 (mk8 85 n) x) % 16≤4
 | 0,x,h=>by
   have:x=0:=by simpa using h
   subst this;exact ⟨rfl,by decide⟩
 | n+1,x,h=>by
   have hx:x / 256<256 ^ n:=by rw [Nat.pow_succ] at h;omega
   obtain ⟨h1,h2⟩:=swar n (x / 256) hx;obtain ⟨g1,g2,g3,g4⟩:=rjA (x % 256) oZ;have ex:x=x % 256+256*(x / 256):=oZ;have s1:y1 (mk8 85 (n+1)) x=y1 85 (x % 256)+256*y1 (mk8 85 n) (x / 256):=by
    conv=>lhs;rw [ex]
    exact snA _ _ _ oZ
   have s2:y2 (mk8 51 (n+1)) (y1 (mk8 85 (n+1)) x)=y2 51 (y1 85 (x % 256))+256*y2 (mk8 51 n) (y1 (mk8 85 n) (x / 256)):=by
    rw [s1];exact smA _ _ _ g1
   rw [s2];refine ⟨?_,by omega⟩;have s3:=slA (y2 51 (y1 85 (x % 256))) (y2 (mk8 51 n) (y1 (mk8 85 n) (x / 256))) (mk8 15 n) g2 h2;simp only [popB];rw [← g4,← h1];exact s3
theorem ffA (a:Nat):pop8 a≤8:=cnt_le _ _
theorem gnA (p:Nat→Bool) (m:Nat):∀ n,cnt p (m+n)=cnt p m+cnt (λ i=>p (m+i)) n
 | 0=>rfl
 | n+1=>by rw [← Nat.add_assoc];simp only [cnt,gnA p m n];omega
def hhA (x:Nat):Nat:=cnt (λ i=>x.testBit i) 64
theorem emA (x n:Nat):cnt (λ i=>x.testBit i) (8+n)=pop8 (x % 256)+cnt (λ i=>(x / 256).testBit i) n:=by
 rw [gnA];congr 1
 ·refine e3A 8 λ i hi=>?_
  rw [show (256:Nat)=2 ^ 8 by rfl,Nat.testBit_mod_two_pow];simp [hi]
 ·refine e3A n λ i hi=>?_
  rw [show x / 256=x >>> 8 by rw [Nat.shiftRight_eq_div_pow],Nat.testBit_shiftRight]
theorem wqA (x:Nat):hhA x=pop8 (x % 256)+(pop8 (x / 256 % 256)+(pop8 (x / 256 / 256 % 256)+(pop8 (x / 256 / 256 / 256 % 256)+(pop8 (x / 256 / 256 / 256 / 256 % 256)+(pop8 (x / 256 / 256 / 256 / 256 / 256 % 256)+(pop8 (x / 256 / 256 / 256 / 256 / 256 / 256 % 256)+pop8 (x / 256 / 256 / 256 / 256 / 256 / 256 / 256 % 256))))))):=by
 unfold hhA;rw [show 64=8+56 by rfl,emA,show 56=8+48 by rfl,emA,show 48=8+40 by rfl,emA,show 40=8+32 by rfl,emA,show 32=8+24 by rfl,emA,show 24=8+16 by rfl,emA,show 16=8+8 by rfl,emA,show cnt (λ i=>(x / 256 / 256 / 256 / 256 / 256 / 256 / 256).testBit i) 8=cnt (λ i=>(x / 256 / 256 / 256 / 256 / 256 / 256 / 256).testBit i) (8+0) by rfl,emA];rfl
theorem dv1 (a q:Nat) (h:a<256):(a+256*q) / 256=q:=oZ
theorem dv2 (a q:Nat) (h:a<65536):(a+65536*q) / 65536=q:=oZ
theorem dv3 (a q:Nat) (h:a<4294967296):(a+4294967296*q) / 4294967296=q:=oZ
theorem lt1 {p0:Nat} (h0:p0≤8):p0<256:=oZ
theorem lt2 {p0 p1 p2:Nat} (h0:p0≤8) (h1:p1≤8) (h2:p2≤8):(p0+p1)+256*(p1+p2)<65536:=oZ
theorem lt3 {p0 p1 p2 p3 p4 p5 p6:Nat} (h0:p0≤8) (h1:p1≤8) (h2:p2≤8) (h3:p3≤8) (h4:p4≤8) (h5:p5≤8) (h6:p6≤8):(p0+p1+p2+p3)+256*(p1+p2+p3+p4)+65536*(p2+p3+p4+p5)+16777216*(p3+p4+p5+p6)<4294967296:=oZ
theorem fin8 (p0 p1 p2 p3 p4 p5 p6 p7 q1 q2 q3 q4 q5 q6 z:Nat) (h0:p0≤8) (h1:p1≤8) (h2:p2≤8) (h3:p3≤8) (h4:p4≤8) (h5:p5≤8) (h6:p6≤8) (h7:p7≤8)
 (e6:q6=p6+256*p7) (e5:q5=p5+256*q6) (e4:q4=p4+256*q5) (e3:q3=p3+256*q4) (e2:q2=p2+256*q3) (e1:q1=p1+256*q2) (ez:z=p0+256*q1):(z+q1+(q2+q3)+(q4+q5+q6+p7)) % 128=p0+(p1+(p2+(p3+(p4+(p5+(p6+p7)))))):=oZ
theorem bnd8 (p0 p1 p2 p3 p4 p5 p6 p7 q1 q2 q3 q4 q5 q6 z:Nat) (h0:p0≤8) (h1:p1≤8) (h2:p2≤8) (h3:p3≤8) (h4:p4≤8) (h5:p5≤8) (h6:p6≤8) (h7:p7≤8)
 (e6:q6=p6+256*p7) (e5:q5=p5+256*q6) (e4:q4=p4+256*q5) (e3:q3=p3+256*q4) (e2:q2=p2+256*q3) (e1:q1=p1+256*q2) (ez:z=p0+256*q1):q6≤2056∧q5≤526344∧q4≤134744072∧q3≤34494482440∧q2≤8830587504648∧q1≤2260630401189896∧z≤578721382704613384:=by
 have b6:q6≤2056:=oZ;have b5:q5≤526344:=oZ;have b4:q4≤134744072:=oZ;have b3:q3≤34494482440:=oZ;have b2:q2≤8830587504648:=oZ;have b1:q1≤2260630401189896:=oZ;have bz:z≤578721382704613384:=oZ;exact ⟨b6,b5,b4,b3,b2,b1,bz⟩
theorem bnd2 {z:Nat} (bz:z≤578721382704613384):z<18446744073709551616:=oZ
theorem bnd3 {z q1:Nat} (bz:z≤578721382704613384) (b1:q1≤2260630401189896):z+q1<18446744073709551616:=oZ
theorem bnd4 {z q1 q2 q3:Nat} (bz:z≤578721382704613384) (b1:q1≤2260630401189896) (b2:q2≤8830587504648) (b3:q3≤34494482440):z+q1+(q2+q3)<18446744073709551616:=oZ
theorem bnd5 {z q1 q2 q3 q4 q5 q6 p7:Nat} (bz:z≤578721382704613384) (b1:q1≤2260630401189896) (b2:q2≤8830587504648) (b3:q3≤34494482440) (b4:q4≤134744072) (b5:q5≤526344) (b6:q6≤2056) (h7:p7≤8):z+q1+(q2+q3)+(q4+q5+q6+p7)<9223372036854775808:=oZ
theorem id2 (p0 p1 p2 q3:Nat):p0+256*(p1+256*(p2+256*q3))+(p1+256*(p2+256*q3))=((p0+p1)+256*(p1+p2))+65536*((p2+256*q3)+q3):=oZ
theorem id5 (p2 p3 p4 q5:Nat):(p2+256*(p3+256*(p4+256*q5)))+(p3+256*(p4+256*q5))=(p2+p3)+256*(p3+p4)+65536*((p4+256*q5)+q5):=oZ
theorem id6 (p0 p1 p2 p3 p4 p5 p6 u:Nat):((p0+p1)+256*(p1+p2))+65536*((p2+p3)+256*(p3+p4)+65536*((p4+p5)+256*(p5+p6)+65536*u))+((p2+p3)+256*(p3+p4)+65536*((p4+p5)+256*(p5+p6)+65536*u)) =
 ((p0+p1+p2+p3)+256*(p1+p2+p3+p4)+65536*(p2+p3+p4+p5)+16777216*(p3+p4+p5+p6))+4294967296*((p4+p5)+256*(p5+p6)+65536*u+u):=oZ
theorem sums (p0 p1 p2 p3 p4 p5 p6 p7 q1 q2 q3 q4 q5 q6 z:Nat) (h0:p0≤8) (h1:p1≤8) (h2:p2≤8) (h3:p3≤8) (h4:p4≤8) (h5:p5≤8) (h6:p6≤8) (h7:p7≤8)
 (e6:q6=p6+256*p7) (e5:q5=p5+256*q6) (e4:q4=p4+256*q5) (e3:q3=p3+256*q4) (e2:q2=p2+256*q3) (e1:q1=p1+256*q2) (ez:z=p0+256*q1) :
 z<18446744073709551616∧z+z / 256<18446744073709551616∧(z+z / 256)+(z+z / 256) / 65536<18446744073709551616∧((z+z / 256)+(z+z / 256) / 65536)+((z+z / 256)+(z+z / 256) / 65536) / 4294967296<9223372036854775808 ∧
 (((z+z / 256)+(z+z / 256) / 65536)+((z+z / 256)+(z+z / 256) / 65536) / 4294967296) % 128=p0+(p1+(p2+(p3+(p4+(p5+(p6+p7)))))):=by
 obtain ⟨b6,b5,b4,b3,b2,b1,bz⟩:=bnd8 p0 p1 p2 p3 p4 p5 p6 p7 q1 q2 q3 q4 q5 q6 z h0 h1 h2 h3 h4 h5 h6 h7 e6 e5 e4 e3 e2 e1 ez;have s1:z / 256=q1:=by rw [ez];exact dv1 _ _ (lt1 h0)
 rw [s1];have i2:z+q1=((p0+p1)+256*(p1+p2))+65536*(q2+q3):=by rw [ez,e1,e2];exact id2 _ _ _ _
 have s2:(z+q1) / 65536=q2+q3:=by rw [i2];exact dv2 _ _ (lt2 h0 h1 h2)
 rw [s2];have j1:q2+q3=(p2+p3)+256*(p3+p4)+65536*(q4+q5):=by rw [e2,e3,e4];exact id5 _ _ _ _
 have j2:q4+q5=(p4+p5)+256*(p5+p6)+65536*(q6+p7):=by rw [e4,e5,e6];exact id5 _ _ _ _
 have i3:z+q1+(q2+q3)=((p0+p1+p2+p3)+256*(p1+p2+p3+p4)+65536*(p2+p3+p4+p5)+16777216*(p3+p4+p5+p6))+4294967296*(q4+q5+q6+p7):=by
  rw [i2,j1,show q4+q5+q6+p7=(q4+q5)+(q6+p7) by rw [Nat.add_assoc],j2];exact id6 _ _ _ _ _ _ _ _
 have s3:(z+q1+(q2+q3)) / 4294967296=q4+q5+q6+p7:=by rw [i3];exact dv3 _ _ (lt3 h0 h1 h2 h3 h4 h5 h6)
 rw [s3];exact ⟨bnd2 bz,bnd3 bz b1,bnd4 bz b1 b2 b3,bnd5 bz b1 b2 b3 b4 b5 b6 h7,fin8 p0 p1 p2 p3 p4 p5 p6 p7 q1 q2 q3 q4 q5 q6 z h0 h1 h2 h3 h4 h5 h6 h7 e6 e5 e4 e3 e2 e1 ez⟩
theorem opA (x:Nat) (hx:x<18446744073709551616) {z:Nat} (hz:z=y3 1085102592571150095 (y2 3689348814741910323 (y1 6148914691236517205 x))) :
 z<18446744073709551616∧z+z / 256<18446744073709551616∧(z+z / 256)+(z+z / 256) / 65536<18446744073709551616∧((z+z / 256)+(z+z / 256) / 65536)+((z+z / 256)+(z+z / 256) / 65536) / 4294967296<9223372036854775808 ∧
 (((z+z / 256)+(z+z / 256) / 65536)+((z+z / 256)+(z+z / 256) / 65536) / 4294967296) % 128=hhA x:=by
 have h:=(swar 8 x oZ).1;have m1:mk8 15 8=1085102592571150095:=by decide +kernel
 have m2:mk8 51 8=3689348814741910323:=by decide +kernel
 have m3:mk8 85 8=6148914691236517205:=by decide +kernel
 rw [m1,m2,m3] at h;rw [h] at hz;simp only [popB,Nat.mul_zero,Nat.add_zero] at hz;have:=sums _ _ _ _ _ _ _ _ _ _ _ _ _ _ z (ffA (x % 256)) (ffA (x / 256 % 256)) (ffA (x / 256 / 256 % 256)) (ffA (x / 256 / 256 / 256 % 256)) (ffA (x / 256 / 256 / 256 / 256 % 256)) (ffA (x / 256 / 256 / 256 / 256 / 256 % 256)) (ffA (x / 256 / 256 / 256 / 256 / 256 / 256 % 256)) (ffA (x / 256 / 256 / 256 / 256 / 256 / 256 / 256 % 256)) rfl rfl rfl rfl rfl rfl hz;rw [wqA];exact this
end Go.LA
end
