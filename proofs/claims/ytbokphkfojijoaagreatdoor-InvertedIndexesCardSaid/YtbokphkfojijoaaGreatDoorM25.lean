import Derived.Laws.BitsAllLaws
import Derived.Test.YtbokphkfojijoaaGreatDoorM20
import Derived.Test.YtbokphkfojijoaaGreatDoorM24
set_option linter.unusedSimpArgs false
set_option linter.unusedVariables false
set_option maxRecDepth 3000
set_option maxHeartbeats 16000000
section
namespace Go.Proofs.YtbokphkfojijoaaGreatDoor.Pt
open Go.LA Go.ArrP Go.RowKit
theorem syA (f:Nat→Bool):∀ n,e9A f n=false→fB f n=0
 | 0,_=>rfl
 | n+1,h=>by
   simp only [e9A,Bool.or_eq_false_iff] at h;simp only [fB,syA f n h.1,h.2];rfl
theorem t5A {base br bc pos:Nat} {w:World} {sl:Value} {ys:List Int} {n:Nat} {f:Nat→Bool} (h:Rdr base w br bc sl ys pos 0) (hn:n≤8) (ha:e9A f n=false) (hA:AtB ys pos (csA n f)) :
 Fc Tryz.prog 50 #[.pointer (some ⟨br,0,none⟩)] w (λ en w'=>∃ fv fl,en=.returned (.tuple #[.int .i64 n,fv,.bool true])∧OwnI w.heap.size tB .u8 w' fv fl∧fl.length=(n+7) / 8∧(0<n→fl.getD 0 0=(fB f n:Int))∧Rdr base w' br bc sl ys (pos+(csA n f).length) 0∧w.grownBy w' (some bc)):=by
 have hck:csA n f=leS 12346 4++leS n 4:=by unfold csA;rw [ha,if_neg dZ]
 rw [hck] at hA ⊢;have hA0:=hA.left;have hA1:=hA.right;rw [anA] at hA1;have hle0:=hA0.le;have hle1:=hA1.le;rw [anA] at hle0 hle1;rw [List.length_append,anA,anA];have hhas:∀ w',Ext w w'→Fc Tryz.prog 51 #[.pointer (some ⟨br,0,none⟩),.int .i64 4] w' (Ret w' (.val (.bool true))):=λ w' e=>hzA (n:=4) (h.ext e) hle0
 have hrr:=h.hr;refine Fc.of (args:=[_]) Tryz.func50 rfl rfl Tryz.ntmps50 nZ ?_
 repeat' (first|(refine yL ?_;first|refine a0A rfl ?_|(refine oNc ?_;refine a8A rfl rfl ?_)|(refine oF 0 ?_;refine a1A (a':=⟨br,0,none⟩) rfl rfl (λ _=>rfl) ?_)|(refine oD 13 ?_;refine a6A (c:=.pointer (some ⟨bc,0,none⟩)) rfl (λ _=>rfl) rfl hrr rfl ?_)|(refine oD 14 ?_;refine a3A (hK _ _ (ciA rfl dZ rfl rfl (λ v w'=>v=.int .u32 12346∧RdI base w' bc sl ys (pos+4)∧w.grownBy w' (some bc)) (λ w8 e8=>(m0A w8 base bc sl ys _ 12346 (h.rd.ext e8) h.hy hA0 dZ dZ).mono λ en w' h=>⟨_,h.1,rfl,h.2.1,axA e8 h.2.2⟩) (λ vv wA hAA=>?_)));clear hK K;obtain ⟨rfl,hB1,hB2⟩:=hAA;dsimp only [LA.vals];have hR1:=h.step hB1 hB2;have hr1:=hR1.hr;refine adA kZ (λ K hK=>?_))|(refine oD 24 ?_;refine a6A (c:=.pointer (some ⟨bc,0,none⟩)) rfl (λ _=>rfl) rfl hr1 rfl ?_)|(refine oD 25 ?_;refine a3A (hK _ _ (ciA rfl dZ rfl rfl (λ v w'=>v=.int .u32 n∧RdI base w' bc sl ys (pos+4+4)∧wA.grownBy w' (some bc)) (λ w8 e8=>(m0A w8 base bc sl ys _ n (hR1.rd.ext e8) h.hy hA1 oZ oZ).mono λ en w' h=>⟨_,h.1,rfl,h.2.1,axA e8 h.2.2⟩) (λ vv wB hBB=>?_)));clear hK K;obtain ⟨rfl,hC1,hC2⟩:=hBB;dsimp only [LA.vals];have hR2:=hR1.step hC1 hC2;refine adA kZ (λ K hK=>?_))|refine dzA rfl rfl rfl ?_|(refine oD 35 ?_;refine d3A rfl rfl rfl oZ oZ fZ ?_;rw [show (min (n:Int) 65536+7) / 8=(((n+7) / 8:Nat):Int) by omega])|(refine oD 36 ?_;refine ebA (n:=(n+7) / 8) rfl esA rfl rfl oZ oZ ?_)|refine yO ?_|(refine yC ?_ ?_<;>intro hc)|(refine yV ?_;first|(refine oD 8 ?_;refine oC 51 ?_;refine a4A (f:=51) rfl rfl rfl rfl  (.val (.bool true)) (by intro u1 u2 w e hu1 hu2;(try obtain rfl:u1=_:=hu1);(try obtain rfl:u2=_:=hu2);exact hhas _ e) ?_)|(refine oD 19 ?_;refine oC 51 ?_;refine a4A (f:=51) rfl rfl rfl rfl  (.val (.bool true)) (by intro u1 u2 w e hu1 hu2;(try obtain rfl:u1=_:=hu1);(try obtain rfl:u2=_:=hu2);exact hzA (n:=4) (hR1.ext e) hle1) ?_)|(refine oC 53 ?_;refine a4A (f:=53) rfl rfl rfl rfl  (.val (.bool true)) (by intro u1 u2 w e hu1 hu2;(try obtain rfl:u1=_:=hu1);(try obtain rfl:u2=_:=hu2);exact euA (hR2.ext e)) ?_))|(refine yN hK ?_;clear hK K))|refine wG ?_|(refine yR ?_;intro K hK)|fail)
 refine lqA rfl (λ v5 v6 v7 w5 e5 h5 h6 h7=>?_);obtain rfl:v5=_:=h5;obtain rfl:v7=_:=h7;exact ⟨v6,_,rfl,Own.base h6 (Nat.le_trans (Fr.grown hB2).size (Fr.grown hC2).size),List.length_replicate,λ hp=>by rw [syA f n ha,show (n+7) / 8=((n+7) / 8-1)+1 by omega,List.replicate_succ];rfl,hR2.ext e5,arA (cvA hB2 hC2) e5⟩
theorem and16 (a:Nat) (ha:a<4294967296):bits .and .u32 (a:Int) 65535=((a % 65536:Nat):Int):=by
 have h:=u32_and_nat a 65535 ha dZ;rw [show ((65535:Nat):Int)=65535 from rfl] at h;rw [h,show (65535:Nat)=2 ^ 16-1 by decide,Nat.and_two_pow_sub_one_eq_mod]
theorem qjA {base br bc pos:Nat} {w:World} {sl:Value} {ys:List Int} {n:Nat} {f:Nat→Bool} (h:Rdr base w br bc sl ys pos 0) (hn:n≤8) (ha:e9A f n=true) (hA:AtB ys pos (csA n f)) :
 Fc Tryz.prog 50 #[.pointer (some ⟨br,0,none⟩)] w (λ en w'=>∃ fv fl,en=.returned (.tuple #[.int .i64 n,fv,.bool (decide (4≤n))])∧OwnI w.heap.size tB .u8 w' fv fl∧fl.length=(n+7) / 8∧(0<n→fl.getD 0 0=(fB f n:Int))∧Rdr base w' br bc sl ys (pos+(csA n f).length) 0∧w.grownBy w' (some bc)):=by
 have hn0:=h8A ha;have hfl:=nsA f n;obtain ⟨V,hV⟩:∃ V,V=12347+65536*(n-1):=⟨_,rfl⟩;obtain ⟨F,hF⟩:∃ F,F=fB f n:=⟨_,rfl⟩;have hck:csA n f=leS V 4++[(F:Int)]:=by
  unfold csA;rw [ha,if_pos rfl,← List.append_assoc,p7A _ _ dZ dZ oZ,hV,hF,show (12347:Int)+65536*((n-1:Nat):Int)=((12347+65536*(n-1):Nat):Int) by omega]
 rw [hck] at hA ⊢;rw [← hF] at hfl ⊢;have hA0:=hA.left;have hA1:=hA.right;rw [anA] at hA1;have hle0:=hA0.le;have hle1:=hA1.le;rw [anA] at hle0;rw [List.length_singleton] at hle1;rw [List.length_append,anA,List.length_singleton];have hhas:∀ w',Ext w w'→Fc Tryz.prog 51 #[.pointer (some ⟨br,0,none⟩),.int .i64 4] w' (Ret w' (.val (.bool true))):=λ w' e=>hzA (n:=4) (h.ext e) hle0
 have hrr:=h.hr;have hand:bits .and .u32 (V:Int) 65535=12347:=by rw [and16 V oZ,show V % 65536=12347 by omega];rfl
 have hshr:(V:Int) / 2 ^ Int.toNat 16=((n-1:Nat):Int):=by rw [show (2:Int) ^ Int.toNat 16=65536 by decide];omega
 have hF0:n<8→(F:Int) / 2 ^ Int.toNat (n:Int)=0:=λ _=>by
  rw [Int.toNat_natCast];norm_cast;exact Nat.div_eq_of_lt hfl
 have hF8:F<256:=Nat.lt_of_lt_of_le hfl (Nat.pow_le_pow_right dZ hn:2 ^ n≤2 ^ 8)
 rcases Nat.lt_or_ge n 8 with hn8|hn8
 ·replace hF0:=hF0 hn8
  refine Fc.of (args:=[_]) Tryz.func50 rfl rfl Tryz.ntmps50 nZ ?_
  repeat' (first|(refine yL ?_;first|refine a0A rfl ?_|(refine oNc ?_;refine a8A rfl rfl ?_)|(refine oF 0 ?_;refine a1A (a':=⟨br,0,none⟩) rfl rfl (λ _=>rfl) ?_)|(refine oD 13 ?_;refine a6A (c:=.pointer (some ⟨bc,0,none⟩)) rfl (λ _=>rfl) rfl hrr rfl ?_)|(refine oD 14 ?_;refine a3A (hK _ _ (ciA rfl dZ rfl rfl (λ v w'=>v=.int .u32 V∧RdI base w' bc sl ys (pos+4)∧w.grownBy w' (some bc)) (λ w8 e8=>(m0A w8 base bc sl ys _ V (h.rd.ext e8) h.hy hA0 oZ oZ).mono λ en w' h=>⟨_,h.1,rfl,h.2.1,axA e8 h.2.2⟩) (λ vv wA hAA=>?_)));clear hK K;obtain ⟨rfl,hB1,hB2⟩:=hAA;dsimp only [LA.vals];have hR1:=h.step hB1 hB2;have hr1:=hR1.hr;refine adA kZ (λ K hK=>?_))|(refine oD 40 ?_;refine c9A (.inl rfl) rfl rfl rfl ?_;rw [hand])|(refine oD 45 ?_;refine igA rfl rfl rfl ?_;rw [hshr])|(refine oD 47 ?_;refine b3A rfl rfl rfl fZ ?_;rw [show ((n-1:Nat):Int)+1=(n:Int) by omega])|(refine oD 51 ?_;refine d3A rfl rfl rfl oZ oZ fZ ?_;rw [show ((n:Int)+7) / 8=((1:Nat):Int) by omega])|(refine oD 60 ?_;refine d3A rfl rfl rfl oZ oZ fZ ?_;rw [show ((n:Int)+7) / 8=((1:Nat):Int) by omega])|(refine oD 57 ?_;refine a6A (c:=.pointer (some ⟨bc,0,none⟩)) rfl (λ _=>rfl) rfl hr1 rfl ?_)|(refine oD 61 ?_;refine a3A (hK _ _ (g0A rfl dZ rfl rfl rfl (λ v w'=>OwnI w.heap.size tB .u8 w' v [(F:Int)]∧RdI base w' bc sl ys (pos+4+1)∧wA.grownBy w' (some bc)) (λ w8 e8=>(tgA (l:=[(F:Int)]) (hR1.rd.ext e8) hA1).mono λ en w' ⟨v,g1,g2,g3,g4⟩=>⟨v,g1,Own.base g2 (Nat.le_trans (Fr.grown hB2).size e8.size),g3,axA e8 g4⟩) (λ vv wB hBB=>?_)));clear hK K;obtain ⟨hs2,hC1,hC2⟩:=hBB;dsimp only [LA.vals];have hR2:=hR1.step hC1 hC2;refine adA kZ (λ K hK=>?_))|(refine oD 64 ?_;refine fcA rfl rfl rfl oZ oZ fZ ?_;first|rw [show (n:Int) % 8=(n:Int) by omega]|rw [show (n:Int) % 8=0 by omega])|(refine oD 69 ?_;refine d3A rfl rfl rfl oZ oZ fZ ?_;rw [show (n:Int) / 8=((0:Nat):Int) by omega])|(refine oD 70 ?_;refine abA rfl _ rfl (λ _=>rfl) rfl (HasI.ownV hs2) rfl (by simp) ?_;rw [List.getD_cons_zero])|(refine oD 73 ?_;refine fcA rfl rfl rfl oZ oZ fZ ?_;rw [show (n:Int) % 8=(n:Int) by omega])|(refine oD 74 ?_;refine igA rfl rfl rfl ?_;rw [hF0])|refine yO ?_|(refine yC ?_ ?_<;>intro hc)|(refine yV ?_;first|(refine oD 8 ?_;refine oC 51 ?_;refine a4A (f:=51) rfl rfl rfl rfl  (.val (.bool true)) (by intro u1 u2 w e hu1 hu2;(try obtain rfl:u1=_:=hu1);(try obtain rfl:u2=_:=hu2);exact hhas _ e) ?_)|(refine oD 42 ?_;refine oC 53 ?_;refine a4A (f:=53) rfl rfl rfl rfl  (.val (.bool true)) (by intro u1 u2 w e hu1 hu2;(try obtain rfl:u1=_:=hu1);(try obtain rfl:u2=_:=hu2);exact euA (hR1.ext e)) ?_)|(refine oD 52 ?_;refine oC 51 ?_;refine a4A (f:=51) rfl rfl rfl rfl  (.val (.bool true)) (by intro u1 u2 w e hu1 hu2;(try obtain rfl:u1=_:=hu1);(try obtain rfl:u2=_:=hu2);exact hzA (n:=1) (hR1.ext e) hle1) ?_)|(refine oD 77 ?_;refine oC 53 ?_;refine a4A (f:=53) rfl rfl rfl rfl  (.val (.bool true)) (by intro u1 u2 w e hu1 hu2;(try obtain rfl:u1=_:=hu1);(try obtain rfl:u2=_:=hu2);exact euA (hR2.ext e)) ?_))|(refine yN hK ?_;clear hK K))|refine wG ?_|(refine yR ?_;intro K hK)|fail)
  all_goals
   refine lqA rfl (λ v5 v6 v7 w5 e5 h5 h6 h7=>?_);obtain rfl:v5=_:=h5;obtain rfl:v6=_:=h6;obtain rfl:v7=_:=h7;exact ⟨_,[(F:Int)],by first|rw [decide_eq_true (show 4≤n by omega)]|rw [decide_eq_false (show ¬ 4≤n by omega)],hs2.ext e5,by rw [List.length_singleton];omega,λ _=>rfl,hR2.ext e5,arA (cvA hB2 hC2) e5⟩
 ·refine Fc.of (args:=[_]) Tryz.func50 rfl rfl Tryz.ntmps50 nZ ?_
  repeat' (first|(refine yL ?_;first|refine a0A rfl ?_|(refine oNc ?_;refine a8A rfl rfl ?_)|(refine oF 0 ?_;refine a1A (a':=⟨br,0,none⟩) rfl rfl (λ _=>rfl) ?_)|(refine oD 13 ?_;refine a6A (c:=.pointer (some ⟨bc,0,none⟩)) rfl (λ _=>rfl) rfl hrr rfl ?_)|(refine oD 14 ?_;refine a3A (hK _ _ (ciA rfl dZ rfl rfl (λ v w'=>v=.int .u32 V∧RdI base w' bc sl ys (pos+4)∧w.grownBy w' (some bc)) (λ w8 e8=>(m0A w8 base bc sl ys _ V (h.rd.ext e8) h.hy hA0 oZ oZ).mono λ en w' h=>⟨_,h.1,rfl,h.2.1,axA e8 h.2.2⟩) (λ vv wA hAA=>?_)));clear hK K;obtain ⟨rfl,hB1,hB2⟩:=hAA;dsimp only [LA.vals];have hR1:=h.step hB1 hB2;have hr1:=hR1.hr;refine adA kZ (λ K hK=>?_))|(refine oD 40 ?_;refine c9A (.inl rfl) rfl rfl rfl ?_;rw [hand])|(refine oD 45 ?_;refine igA rfl rfl rfl ?_;rw [hshr])|(refine oD 47 ?_;refine b3A rfl rfl rfl fZ ?_;rw [show ((n-1:Nat):Int)+1=(n:Int) by omega])|(refine oD 51 ?_;refine d3A rfl rfl rfl oZ oZ fZ ?_;rw [show ((n:Int)+7) / 8=((1:Nat):Int) by omega])|(refine oD 60 ?_;refine d3A rfl rfl rfl oZ oZ fZ ?_;rw [show ((n:Int)+7) / 8=((1:Nat):Int) by omega])|(refine oD 57 ?_;refine a6A (c:=.pointer (some ⟨bc,0,none⟩)) rfl (λ _=>rfl) rfl hr1 rfl ?_)|(refine oD 61 ?_;refine a3A (hK _ _ (g0A rfl dZ rfl rfl rfl (λ v w'=>OwnI w.heap.size tB .u8 w' v [(F:Int)]∧RdI base w' bc sl ys (pos+4+1)∧wA.grownBy w' (some bc)) (λ w8 e8=>(tgA (l:=[(F:Int)]) (hR1.rd.ext e8) hA1).mono λ en w' ⟨v,g1,g2,g3,g4⟩=>⟨v,g1,Own.base g2 (Nat.le_trans (Fr.grown hB2).size e8.size),g3,axA e8 g4⟩) (λ vv wB hBB=>?_)));clear hK K;obtain ⟨hs2,hC1,hC2⟩:=hBB;dsimp only [LA.vals];have hR2:=hR1.step hC1 hC2;refine adA kZ (λ K hK=>?_))|(refine oD 64 ?_;refine fcA rfl rfl rfl oZ oZ fZ ?_;first|rw [show (n:Int) % 8=(n:Int) by omega]|rw [show (n:Int) % 8=0 by omega])|(refine oD 69 ?_;refine d3A rfl rfl rfl oZ oZ fZ ?_;rw [show (n:Int) / 8=((0:Nat):Int) by omega])|(refine oD 70 ?_;refine abA rfl _ rfl (λ _=>rfl) rfl (HasI.ownV hs2) rfl (by simp) ?_;rw [List.getD_cons_zero])|(refine oD 73 ?_;refine fcA rfl rfl rfl oZ oZ fZ ?_;rw [show (n:Int) % 8=(n:Int) by omega])|(refine oD 74 ?_;refine igA rfl rfl rfl ?_;rw [hF0])|refine yO ?_|(refine yC ?_ ?_<;>intro hc)|(refine yV ?_;first|(refine oD 8 ?_;refine oC 51 ?_;refine a4A (f:=51) rfl rfl rfl rfl  (.val (.bool true)) (by intro u1 u2 w e hu1 hu2;(try obtain rfl:u1=_:=hu1);(try obtain rfl:u2=_:=hu2);exact hhas _ e) ?_)|(refine oD 42 ?_;refine oC 53 ?_;refine a4A (f:=53) rfl rfl rfl rfl  (.val (.bool true)) (by intro u1 u2 w e hu1 hu2;(try obtain rfl:u1=_:=hu1);(try obtain rfl:u2=_:=hu2);exact euA (hR1.ext e)) ?_)|(refine oD 52 ?_;refine oC 51 ?_;refine a4A (f:=51) rfl rfl rfl rfl  (.val (.bool true)) (by intro u1 u2 w e hu1 hu2;(try obtain rfl:u1=_:=hu1);(try obtain rfl:u2=_:=hu2);exact hzA (n:=1) (hR1.ext e) hle1) ?_)|(refine oD 77 ?_;refine oC 53 ?_;refine a4A (f:=53) rfl rfl rfl rfl  (.val (.bool true)) (by intro u1 u2 w e hu1 hu2;(try obtain rfl:u1=_:=hu1);(try obtain rfl:u2=_:=hu2);exact euA (hR2.ext e)) ?_))|(refine yN hK ?_;clear hK K))|refine wG ?_|(refine yR ?_;intro K hK)|fail)
  all_goals
   refine lqA rfl (λ v5 v6 v7 w5 e5 h5 h6 h7=>?_);obtain rfl:v5=_:=h5;obtain rfl:v6=_:=h6;obtain rfl:v7=_:=h7;exact ⟨_,[(F:Int)],by first|rw [decide_eq_true (show 4≤n by omega)]|rw [decide_eq_false (show ¬ 4≤n by omega)],hs2.ext e5,by rw [List.length_singleton];omega,λ _=>rfl,hR2.ext e5,arA (cvA hB2 hC2) e5⟩
theorem wjA {base br bc pos:Nat} {w:World} {sl:Value} {ys:List Int} {n:Nat} {f:Nat→Bool} (h:Rdr base w br bc sl ys pos 0) (hn:n≤8) (hA:AtB ys pos (csA n f)) :
 Fc Tryz.prog 50 #[.pointer (some ⟨br,0,none⟩)] w (λ en w'=>∃ fv fl,en=.returned (.tuple #[.int .i64 n,fv,.bool (decide (¬ (e9A f n=true∧n<4)))])∧OwnI w.heap.size tB .u8 w' fv fl∧fl.length=(n+7) / 8∧(0<n→fl.getD 0 0=(fB f n:Int))∧Rdr base w' br bc sl ys (pos+(csA n f).length) 0∧w.grownBy w' (some bc)):=by
 cases ha:e9A f n with
 | true =>
   have hd:decide (¬ (true=true∧n<4))=decide (4≤n):=by by_cases h4:4≤n <;> simp [h4]
   rw [hd];exact qjA h hn ha hA
 | false =>
   have hd:decide (¬ (false=true∧n<4))=true:=by simp
   rw [hd];exact t5A h hn ha hA
theorem b0B (bc:Nat) (w:World):(Instr.build 85 #[(0,.pointer (some ⟨bc,0,none⟩))]).run Tryz.prog w=.ok (.agg #[.pointer (some ⟨bc,0,none⟩),.int .i64 0]) w:=run_build w _ _ _ (by rfl)
end Go.Proofs.YtbokphkfojijoaaGreatDoor.Pt
end
section
namespace Go.Proofs.YtbokphkfojijoaaGreatDoor
open Go.LA Go.ArrP Go.RowKit
def fwA (ks:Nat→Nat) (qs:Nat→Nat→Bool):Nat→Nat→Bool
 | 0=>λ _=>false
 | i+1=>upd (fwA ks qs i) (ks i) (qs i)
def Dir (ks:Nat→Nat) (qs:Nat→Nat→Bool) (n:Nat):Prop:=∀ i,i<n→0<cnt (qs i) 65536∧(0<i→ks (i-1)<ks i)
theorem jgA {ks:Nat→Nat} {qs:Nat→Nat→Bool} {n:Nat} (hD:Dir ks qs n) (hq:∀ i,i<n→∀ j,65536≤j→qs i j=false):∀ i,i≤n→∀ j,(0<i→ks (i-1)<j)→ne (fwA ks qs i) j=false
 | 0,_,j,_=>jdA j
 | i+1,hi,j,hj=>by
   have h1:=hj (Nat.succ_pos i);rw [Nat.add_sub_cancel] at h1;have h2:=jgA hD hq i oZ j (λ h=>by have:=(hD i oZ).2 h;omega);show ne (upd (fwA ks qs i) (ks i) (qs i)) j=false;rw [upd_ne _ (hq i oZ) (hD i oZ).1,h2,decide_eq_false oZ];rfl
def joinR (d:Bool) (p:Nat→Bool):AD:=match d with
 | true=>.tup2 (.pred (rsP TT TT p)) (.val (.int .i64 0))
 | false=>.tup2 (.val (.pointer none)) (.val (.int .i64 2))
theorem ctB {w:World} {ka la:Value} {xs:List Int} {n:Nat} {Q:List Qd} {kn:Nat→Nat} {qs:Nat→Nat→Bool} {kks:Nat→Int} (hk:SlI .u16 w ka xs) (hl:SlC w la n 4 (bdA Q)) (hn:xs.length=n) (hQ:Q.length=n) (hT:Tab w)
 (hkn:∀ i,i<n→kn i<65536∧xs.getD i 0=(kn i:Int)) (hc:∀ i,i<n→Cn TT w (qv (Q.getD i q0)) (qs i) (kks i)) (hqt:∀ i,i<n→∀ j,65536≤j→qs i j=false) (hn2:n≤1000000) {d:Bool} (hd:d=true↔Dir kn qs n) :
 Fc Tryz.prog 57 #[ka,la] w (Ret w (joinR d (fwA kn qs n))):=by
 have hlh:=hl.len;refine Fc.of (args:=[_,_]) Tryz.func57 rfl rfl Tryz.ntmps57 nZ ?_
 repeat' (first|(refine yL ?_;first|refine a0A rfl ?_|(refine oD 10 ?_;refine alA rfl _ rfl rfl (HasI.val hk).c ?_)|(refine oD 12 ?_;refine alA rfl _ rfl rfl (HasC.val hl) ?_)|(refine oD 16 ?_;refine alA rfl _ rfl rfl (HasC.val (hl.ext (Ext.refl _))) ?_)|refine yO ?_|(refine yC ?_ ?_<;>intro hc)|(refine yV ?_;first|(refine oC 40 ?_;refine dvA (f:=40) rfl rfl  (.pred (rsP (λ k=>w.heap.size≤k) TT (λ _=>false))) (by intro w e;exact new_c _ (λ k hk=>Nat.le_trans e.size hk)) ?_))|(refine yN hK ?_;clear hK K))|refine wG ?_|(refine yR ?_;intro K hK)|fail)
 refine c2A 6 rfl (λ v6 w6 e6 h6=>?_);obtain ⟨b,kv0,lv0,rfl,hS0,hB0⟩:=h6
 refine acA (ι:=Nat) (λ i=>[(0,.val ka),(1,.val la),(6,.val (.pointer (some ⟨b,0,none⟩))),(15,.val la),(16,.val (.int .i64 n)),(17,.val (.int .i64 i))])
  (λ i w'=>Ext w w'∧i≤n∧Dir kn qs i∧∃ kv lv,RS TT w' b kv lv (fwA kn qs i)∧∀ k,onw b kv lv k→w.heap.size≤k) (λ i=>n-i)
  (λ w' e=>⟨0,⟨e6.trans e,Nat.zero_le _,λ i hi=>absurd hi (Nat.not_lt_zero _),kv0,lv0,hS0.ext e,hB0⟩,sZ⟩) ?_
 rintro i w1 ⟨he,hi,hDi,kv,lv,hS,hB⟩;have hk1:=hk.ext he;have hl1:=hl.ext he;have hT1:=hT.ext he
 by_cases hil:i<n
 ·have hat:=gkA Q i oZ
  obtain ⟨qd,hqd,hone⟩:=(hc i hil).qd;have hqe:Q.getD i q0=qd:=ouA hqd;rw [hqe] at hat;have hcn:Cn (λ j=>j<w.heap.size) w1 (qv qd) (qs i) (kks i):=Cn.ext (Cn.mono (by rw [← hqe];exact hc i hil) λ j hj _=>hj) he;obtain ⟨hk0,hki⟩:=hkn i hil;have hlen:∀ w' u,Cn (λ j=>j<w.heap.size) w' u (qs i) (kks i)→_:=λ w' u h=>h3A h
  obtain ⟨c,hcc⟩:∃ c,c=cnt (qs i) 65536:=⟨_,rfl⟩;rw [← hcc] at hlen;have hnd:¬ (0<cnt (qs i) 65536∧(0<i→kn (i-1)<kn i))→d=false:=λ h=>by
   cases hdd:d with
   | false=>rfl
   | true=>exact absurd (hd.1 hdd i hil) h
  by_cases h0:c=0
  ·rw [hnd (λ h=>by omega)]
   clear hnd hd
   repeat' (first|(refine yL ?_;first|refine a0A rfl ?_|(refine oD 20 ?_;refine btA (s:=4) rfl _ rfl (λ _=>rfl) rfl (HasC.val hl1) rfl i rfl oZ ?_;rw [hat])|(refine oD 21 ?_;refine atA (cs:=qcs _) rfl (λ _=>rfl) (λ _=>rfl) rfl ?_)|(refine oD 8 ?_;refine a3A (hK _ _ (i6A rfl dZ (λ _=>rfl) (λ bv wv ev hbv hhv=>?_)));clear hK K;refine adA kZ (λ K hK=>?_))|(refine a3A (hK _ _ (djA (c:=qv qd) rfl rfl rfl hhv (λ _=>rfl) rfl hone (λ wu eu=>?_)));clear hK K;dsimp only [LA.vals];have hh9:=setRow_heap wu bv _ (qv qd).cells _ (0,0) (eu.block hhv);have x8:=((Ext.refl w1).trans (ev.trans eu)).setRow hbv (qv qd).cells;obtain ⟨W8,hW8⟩:∃ W,W=wu.setRow bv (qv qd).cells:=⟨_,rfl⟩;rw [← hW8] at hh9 x8 ⊢;clear hW8;have hS8:=hS.ext x8;have hcn8:=Cn.ext hcn x8;have hcA:Cn (λ j=>TT j∧kv.ownBlock≠some j∧True) W8 (qv qd) (qs i) (kks i):=Cn.mono hcn8 (λ j _ hj=>⟨trivial,λ hkv=>by have:=hB j (.inr (.inl hkv));omega,trivial⟩);have hT8:=hT1.ext x8;have hFA:∀ w',Ext W8 w'→Fsh (λ j=>TT j∧kv.ownBlock≠some j∧True) w':=λ w' e j hj=>⟨trivial,λ hkv=>by have:=(Own.lt hS8.hk j hkv).2;have:=e.size;omega,trivial⟩;refine adA kZ (λ K hK=>?_))|(refine oLt 96 ?_;refine blA (n:=4) rfl hh9 rfl rfl (λ _=>rfl) (λ _=>rfl) ?_)|(refine oD 36 ?_;refine abA rfl _ rfl (λ _=>rfl) rfl (HasI.val (hk1.ext x8)) rfl oZ ?_;rw [hki])|(refine oD 49 ?_;refine abA rfl _ rfl (λ _=>rfl) rfl (HasI.val (hk1.ext x8)) rfl oZ ?_;rw [hki])|(refine oNc ?_;refine a8A rfl rfl ?_)|(refine oF 0 ?_;refine a1A (a':=⟨b,0,none⟩) rfl rfl (λ _=>rfl) ?_)|(refine oF 1 ?_;refine a1A (a':=⟨b,1,none⟩) rfl rfl (λ _=>rfl) ?_)|(refine oLt 27 ?_;refine a6A (c:=kv) rfl (λ _=>rfl) rfl hS8.hb rfl ?_)|(refine oLt 92 ?_;refine a6A (c:=lv) rfl (λ _=>rfl) rfl hS8.hb rfl ?_)|(refine oD 51 ?_;refine dqA rfl c5A rfl rfl ?_)|(refine oD 59 ?_;refine dpA (base:=W8.heap.size) (Nat.le_refl _) rfl cqA rfl (λ v w e h=>h) ?_)|refine yO ?_|(refine yC ?_ ?_<;>intro hc)|(refine yV ?_;first|(refine oC 65 ?_;refine a2A (f:=65) rfl rfl rfl  (.val (.int .i64 c)) (by intro u1 w e hu1;(try obtain rfl:u1=_:=hu1);exact hlen _ _ (Cn.ext hcn8 e)) ?_)|(refine oC 93 ?_;refine a2A (f:=93) rfl rfl rfl  (.pred (cnP (λ j=>TT j∧kv.ownBlock≠some j∧True) (qs i) (avA (qs i)))) (by intro u1 w e hu1;(try obtain rfl:u1=_:=hu1);exact d7A (Cn.ext hcA e) (hT8.ext e) (hFA _ e)) ?_))|(refine yN hK ?_;clear hK K))|refine wG ?_|(refine yR ?_;intro K hK)|fail)
   exact dfA rfl rfl rfl (he.trans x8) rfl rfl
  ·rcases Nat.eq_zero_or_pos i with hi0|hip
   ·have hDn:Dir kn qs (i+1):=λ j hj=>by
     obtain rfl:j=i:=oZ;exact ⟨by omega,λ h=>by omega⟩
    clear hnd;have hlast:∀ j,kn i≤j→ne (fwA kn qs i) j=false:=λ j hj=>jgA hDi (λ j hj=>hqt j oZ) i (Nat.le_refl _) j (λ h=>by omega)
    have hq0:0<cnt (qs i) 65536:=oZ
    repeat' (first|(refine yL ?_;first|refine yB ?_|(refine oD 20 ?_;refine btA (s:=4) rfl _ rfl (λ _=>rfl) rfl (HasC.val hl1) rfl i rfl oZ ?_;rw [hat])|(refine oD 21 ?_;refine atA (cs:=qcs _) rfl (λ _=>rfl) (λ _=>rfl) rfl ?_)|(refine oD 8 ?_;refine a3A (hK _ _ (i6A rfl dZ (λ _=>rfl) (λ bv wv ev hbv hhv=>?_)));clear hK K;refine adA kZ (λ K hK=>?_))|(refine a3A (hK _ _ (djA (c:=qv qd) rfl rfl rfl hhv (λ _=>rfl) rfl hone (λ wu eu=>?_)));clear hK K;dsimp only [LA.vals];have hh9:=setRow_heap wu bv _ (qv qd).cells _ (0,0) (eu.block hhv);have x8:=((Ext.refl w1).trans (ev.trans eu)).setRow hbv (qv qd).cells;obtain ⟨W8,hW8⟩:∃ W,W=wu.setRow bv (qv qd).cells:=⟨_,rfl⟩;rw [← hW8] at hh9 x8 ⊢;clear hW8;have hS8:=hS.ext x8;have hcn8:=Cn.ext hcn x8;have hcA:Cn (λ j=>TT j∧kv.ownBlock≠some j∧True) W8 (qv qd) (qs i) (kks i):=Cn.mono hcn8 (λ j _ hj=>⟨trivial,λ hkv=>by have:=hB j (.inr (.inl hkv));omega,trivial⟩);have hT8:=hT1.ext x8;have hFA:∀ w',Ext W8 w'→Fsh (λ j=>TT j∧kv.ownBlock≠some j∧True) w':=λ w' e j hj=>⟨trivial,λ hkv=>by have:=(Own.lt hS8.hk j hkv).2;have:=e.size;omega,trivial⟩;refine adA kZ (λ K hK=>?_))|(refine oLt 96 ?_;refine blA (n:=4) rfl hh9 rfl rfl (λ _=>rfl) (λ _=>rfl) ?_)|(refine oD 36 ?_;refine abA rfl _ rfl (λ _=>rfl) rfl (HasI.val (hk1.ext x8)) rfl oZ ?_;rw [hki])|(refine oD 49 ?_;refine abA rfl _ rfl (λ _=>rfl) rfl (HasI.val (hk1.ext x8)) rfl oZ ?_;rw [hki])|(refine oNc ?_;refine a8A rfl rfl ?_)|(refine oF 0 ?_;refine a1A (a':=⟨b,0,none⟩) rfl rfl (λ _=>rfl) ?_)|(refine oF 1 ?_;refine a1A (a':=⟨b,1,none⟩) rfl rfl (λ _=>rfl) ?_)|(refine oLt 27 ?_;refine a6A (c:=kv) rfl (λ _=>rfl) rfl hS8.hb rfl ?_)|(refine oLt 92 ?_;refine a6A (c:=lv) rfl (λ _=>rfl) rfl hS8.hb rfl ?_)|(refine oD 51 ?_;refine dqA rfl c5A rfl rfl ?_)|(refine oD 59 ?_;refine dpA (base:=W8.heap.size) (Nat.le_refl _) rfl cqA rfl (λ v w e h=>h) ?_)|refine yO ?_|(refine yC ?_ ?_<;>intro hc)|(refine yV ?_;first|(refine oC 65 ?_;refine a2A (f:=65) rfl rfl rfl  (.val (.int .i64 c)) (by intro u1 w e hu1;(try obtain rfl:u1=_:=hu1);exact hlen _ _ (Cn.ext hcn8 e)) ?_)|(refine oC 93 ?_;refine a2A (f:=93) rfl rfl rfl  (.pred (cnP (λ j=>TT j∧kv.ownBlock≠some j∧True) (qs i) (avA (qs i)))) (by intro u1 w e hu1;(try obtain rfl:u1=_:=hu1);exact d7A (Cn.ext hcA e) (hT8.ext e) (hFA _ e)) ?_))|(refine yN hK ?_;clear hK K))|(refine oCX ?_;first|refine amA (id:=9) [11,19,22,25] kZ kZ kZ (a7A ?_))|refine wG ?_|(refine yR ?_;intro K hK)|refine wPh ?_|fail)
    have hplK:∀ (AA:Nat→Prop) w',Ext W8 w'→(∀ j,AA j→kv.ownBlock≠some j)→Plain AA (λ j=>kv.ownBlock=some j) w':=λ AA w' x hA j hj=>by
     obtain ⟨cur,hcur⟩:=awA (hS8.hk.ext x) hj;exact ⟨cur,_,_,hcur,by decide,by decide,λ ha=>absurd hj (hA j ha)⟩
    have hplL:∀ (AA:Nat→Prop) w' n cs,Own 0 tC 4 w' lv n cs→Plain AA (λ j=>lv.ownBlock=some j) w':=λ AA w' n cs ho j hj=>by
     obtain ⟨cur,hcur⟩:=awA ho hj;exact ⟨cur,_,_,hcur,by decide,by decide,λ _=>by decide⟩
    have lkv:∀ k,kv.ownBlock=some k→k<W8.heap.size:=λ k h=>hS8.lt (.inr (.inl h))
    have llv:∀ k,lv.ownBlock=some k→k<W8.heap.size:=λ k h=>hS8.lt (.inr (.inr h))
    have hsn:=slot_ne hS8;obtain ⟨Q',q1,q2,q3⟩:=hS8.hl;have hklen:=bqA (fwA kn qs i);have hnkl:=geA (fwA kn qs i);have hmv:∀ (kv' v:Value) (kk:Int) (w1' w2:World),Ext W8 w1'→Fr (λ j=>kv.ownBlock=some j) w1' w2→LocR w1' kv kv'→Cn (λ j=>TT j∧kv.ownBlock≠some j∧True) w1' v (qs i) kk→Cn (λ j=>TT j∧kv.ownBlock≠some j∧kv'.ownBlock≠some j) w2 v (qs i) kk:=λ kv' v kk w1' w2 x hf hl h =>
     Cn.fr (Cn.mono h (λ j hj ha=>⟨trivial,ha.2.1,λ hk'=>by
      rcases hl with hl|hl
      ·exact ha.2.1 (hl▸hk')
      ·have:=hl j hk';omega⟩)) hf (hplK _ _ x (λ j ha=>ha.2.1))
    refine d1A rfl c5A rfl hS8.hk rfl HasC.own (λ u hu=>by rw [List.mem_singleton] at hu;subst hu;rfl) (by unfold maxLen;omega) oZ (λ kv' w1' w2 e1 ho' hf hlo=>⟨_,λ t u _ hu=>b9A t u hu,a7A ?_⟩);have hb2:=hf.at (e1.block hS8.hb) (λ h=>hsn.1 h);have hh2:=hf.at (e1.block hh9) (λ h=>Own.apart hS8.hk hh9 dZ h);have q22:Own 0 tC 4 w2 lv (nk (fwA kn qs i)) (bdA Q'):=hf.own (q2.ext e1) (λ k h1 h2=>hsn.2.2 k h2 h1);have hcA2:=hmv _ _ _ _ _ e1 hf hlo (Cn.ext hcA e1);have hFA2:∀ w',Ext w2 w'→Fsh (λ j=>TT j∧kv.ownBlock≠some j∧kv'.ownBlock≠some j) w':=λ w' e j hj=>⟨trivial,λ h=>by have:=lkv j h;have:=e1.size;have:=hf.size;have:=e.size;omega,λ h=>by have:=(Own.lt ho' j h).2;have:=e.size;omega⟩
    have hT2:=hT.ext (Fr.ext (he.trans (x8.trans e1)) hf (λ j h=>hB j (.inr (.inl h))));have sz2:=Nat.le_trans e1.size hf.size
    repeat' (first|(refine yL ?_;first|refine yB ?_|(refine oNc ?_;refine a8A rfl rfl ?_)|(refine oF 0 ?_;refine a1A (a':=⟨b,0,none⟩) rfl rfl (λ _=>rfl) ?_)|(refine oF 1 ?_;refine a1A (a':=⟨b,1,none⟩) rfl rfl (λ _=>rfl) ?_)|(refine oLt 27 ?_;refine a6A (c:=kv) rfl (λ _=>rfl) rfl hb2 rfl ?_)|(refine oLt 92 ?_;refine a6A (c:=lv) rfl (λ _=>rfl) rfl hb2 rfl ?_)|(refine oLt 96 ?_;refine blA (n:=4) rfl hh2 rfl rfl (λ _=>rfl) (λ _=>rfl) ?_)|(refine oD 59 ?_;refine dpA (base:=W8.heap.size) sz2 rfl cqA rfl (λ v w e h=>h) ?_)|refine yO ?_|(refine yC ?_ ?_<;>intro hc)|(refine yV ?_;first|(refine oC 93 ?_;refine a2A (f:=93) rfl rfl rfl  (.pred (cnP (λ j=>TT j∧kv.ownBlock≠some j∧kv'.ownBlock≠some j) (qs i) (avA (qs i)))) (by intro u1 w e hu1;(try obtain rfl:u1=_:=hu1);exact d7A (Cn.ext hcA2 e) (hT2.ext e) (hFA2 _ e)) ?_))|(refine yN hK ?_;clear hK K))|refine wG ?_|(refine yR ?_;intro K hK)|refine wPh ?_|fail)
    refine haA 59 rfl dZ rfl (λ v53 w3 e3 h53=>?_);obtain ⟨qc,r1,r2,r3⟩:=h53;refine d1A rfl cqA rfl (q22.ext e3) rfl (HasC.ownV r1) r3 (by unfold maxLen;omega) oZ (λ lv' w3' w4 e3' hol hfl hll=>⟨_,λ t u _ hu=>b9A t u hu,a7A ?_⟩);have x23:=e3.trans e3';have hb4:=hfl.at (x23.block hb2) (λ h=>hsn.2.1 h);have r14:=hfl.own (ho'.ext x23) (λ k h1 h2=>by
     obtain ⟨cur,hcur⟩:=awA (ho'.ext x23) h1;exact Own.apart (q22.ext x23) hcur dZ h2)
    have rc4:=(r2.ext e3').fr hfl (hplL _ _ _ _ (q22.ext x23));obtain ⟨ck1,ck2⟩:=cyA r14;obtain ⟨cl1,cl2⟩:=cyA hol;have hF4:Fr (onw b kv lv) W8 w4:=(((Fr.of e1).trans (hf.mono λ k h=>.inr (.inl h))).trans (Fr.of x23)).trans (hfl.mono λ k h=>.inr (.inr h))
    repeat' (first|(refine yL ?_;first|refine yB ?_|(refine oNc ?_;refine a8A rfl rfl ?_)|(refine oF 0 ?_;refine a1A (a':=⟨b,0,none⟩) rfl rfl (λ _=>rfl) ?_)|(refine oF 1 ?_;refine a1A (a':=⟨b,1,none⟩) rfl rfl (λ _=>rfl) ?_)|(refine oLt 27 ?_;refine a6A (c:=kv) rfl (λ _=>rfl) rfl hb4 rfl ?_)|(refine oLt 92 ?_;refine a6A (c:=lv) rfl (λ _=>rfl) rfl hb4 rfl ?_)|refine yO ?_|(refine yC ?_ ?_<;>intro hc)|(refine yN hK ?_;clear hK K))|refine wG ?_|(refine yR ?_;intro K hK)|refine wPh ?_|fail)
    refine doA (news:=[kv']) rfl rfl rfl hb4 ck1 (λ _=>rfl) nZ (λ u hu=>by rw [List.mem_singleton] at hu;subst hu;exact ck2) (λ w6 e6=>⟨_,λ t u hu=>b9A t u hu,a7A ?_⟩);have hb6:(w6.setRow b #[kv',lv]).heap[b]?=_:=setRow_heap w6 b _ _ _ _ (e6.block hb4);have rc7:=(rc4.ext e6).setRow (e6.block hb4) ⟨by decide,by decide,by decide⟩ #[kv',lv];obtain ⟨w7,hw7⟩:∃ w7,w7=w6.setRow b #[kv',lv]:=⟨_,rfl⟩;have hF7:Fr (onw b kv lv) W8 w7:=hw7▸((hF4.trans (Fr.of e6)).setRow (.inl rfl) _);have r17:Own 0 tK 1 w7 kv' _ _:=hw7▸Own.setRow (r14.ext e6) _ (Own.apart (r14.ext e6) (e6.block hb4) dZ);have s17:Own 0 tC 4 w7 lv' _ _:=hw7▸Own.setRow (hol.ext e6) _ (Own.apart (hol.ext e6) (e6.block hb4) dZ);rw [show (#[kv,lv].toList.take 0++[kv']++#[kv,lv].toList.drop (0+[kv'].length)).toArray=#[kv',lv] from rfl];rw [← hw7] at hb6 rc7 ⊢;clear hw7
    repeat' (first|(refine yL ?_;first|refine yB ?_|(refine oNc ?_;refine a8A rfl rfl ?_)|(refine oF 0 ?_;refine a1A (a':=⟨b,0,none⟩) rfl rfl (λ _=>rfl) ?_)|(refine oF 1 ?_;refine a1A (a':=⟨b,1,none⟩) rfl rfl (λ _=>rfl) ?_)|(refine oLt 27 ?_;refine a6A (c:=kv) rfl (λ _=>rfl) rfl hb6 rfl ?_)|(refine oLt 92 ?_;refine a6A (c:=lv) rfl (λ _=>rfl) rfl hb6 rfl ?_)|refine yO ?_|(refine yC ?_ ?_<;>intro hc)|(refine yN hK ?_;clear hK K))|refine wG ?_|(refine yR ?_;intro K hK)|refine wPh ?_|fail)
    refine doA (news:=[lv']) rfl rfl rfl hb6 cl1 (λ _=>rfl) nZ (λ u hu=>by rw [List.mem_singleton] at hu;subst hu;exact cl2) (λ w8 e8=>⟨_,λ t u hu=>b9A t u hu,akA ?_⟩);have hb8:(w8.setRow b #[kv',lv']).heap[b]?=_:=setRow_heap w8 b _ _ _ _ (e8.block hb6);have rc9:=(rc7.ext e8).setRow (e8.block hb6) ⟨by decide,by decide,by decide⟩ #[kv',lv'];obtain ⟨w9,hw9⟩:∃ w9,w9=w8.setRow b #[kv',lv']:=⟨_,rfl⟩;have hF9:Fr (onw b kv lv) W8 w9:=hw9▸((hF7.trans (Fr.of e8)).setRow (.inl rfl) _);have r19:Own 0 tK 1 w9 kv' _ _:=hw9▸Own.setRow (r17.ext e8) _ (Own.apart (r17.ext e8) (e8.block hb6) dZ);have s19:Own 0 tC 4 w9 lv' _ _:=hw9▸Own.setRow (s17.ext e8) _ (Own.apart (s17.ext e8) (e8.block hb6) dZ);rw [show (#[kv',lv].toList.take 1++[lv']++#[kv',lv].toList.drop (1+[lv'].length)).toArray=#[kv',lv'] from rfl];rw [← hw9] at hb8 rc9 ⊢;clear hw9;have hkk9:OwnI 0 tK .u16 w9 kv' (b2A (fwA kn qs i)++[((kn i):Int)]):=by unfold OwnI;rw [List.map_append,List.length_append,List.length_singleton];exact r19
    have hmut:Mut TT W8 b kv lv _ w9:=hS8.app hk0 hlast (hqt i hil) hq0 q1 q3 (Cn.mono rc9 (λ j _ ha=>⟨trivial,ha.2.2⟩)) hF9 hb8 hkk9 s19 (hlo.le e1.size) (hll.le (by have:=x23.size;omega))
    repeat' (first|(refine yL ?_;first|refine yB ?_|(refine oNc ?_;refine a8A rfl rfl ?_)|(refine oF 0 ?_;refine a1A (a':=⟨b,0,none⟩) rfl rfl (λ _=>rfl) ?_)|(refine oF 1 ?_;refine a1A (a':=⟨b,1,none⟩) rfl rfl (λ _=>rfl) ?_)|(refine oLt 27 ?_;refine a6A (c:=kv) rfl (λ _=>rfl) rfl hb8 rfl ?_)|(refine oLt 92 ?_;refine a6A (c:=lv) rfl (λ _=>rfl) rfl hb8 rfl ?_)|refine yO ?_|(refine yC ?_ ?_<;>intro hc)|(refine yN hK ?_;clear hK K))|refine wG ?_|(refine yR ?_;intro K hK)|refine wPh ?_|fail)
    obtain ⟨kv9,lv9,m1,m2,m3,m4⟩:=hmut;have x9:=Fr.ext (he.trans x8) m2 (λ k hk=>hB k hk);have hon9:=jbA hB (he.trans x8).size m3 m4;exact a5A (i+1) (λ w5 e5=>⟨x9.trans e5,hil,hDn,kv9,lv9,m1.ext e5,hon9⟩) oZ sZ
   ·obtain ⟨hk2,hki2⟩:=hkn (i-1) oZ
    have hs1:(i:Int)-1=((i-1:Nat):Int):=oZ
    by_cases hlt:kn (i-1)<kn i
    ·have hDn:Dir kn qs (i+1):=λ j hj=>by
      by_cases e:j=i
      ·subst e;exact ⟨by omega,λ _=>hlt⟩
      ·exact hDi j oZ
     clear hnd;have hlast:=jgA hDi (λ j hj=>hqt j oZ) i (Nat.le_refl _);replace hlast:∀ j,kn i≤j→ne (fwA kn qs i) j=false:=λ j hj=>hlast j (λ h=>by omega)
     have hq0:0<cnt (qs i) 65536:=oZ
     repeat' (first|(refine yL ?_;first|refine yB ?_|(refine oD 20 ?_;refine btA (s:=4) rfl _ rfl (λ _=>rfl) rfl (HasC.val hl1) rfl i rfl oZ ?_;rw [hat])|(refine oD 21 ?_;refine atA (cs:=qcs _) rfl (λ _=>rfl) (λ _=>rfl) rfl ?_)|(refine oD 8 ?_;refine a3A (hK _ _ (i6A rfl dZ (λ _=>rfl) (λ bv wv ev hbv hhv=>?_)));clear hK K;refine adA kZ (λ K hK=>?_))|(refine a3A (hK _ _ (djA (c:=qv qd) rfl rfl rfl hhv (λ _=>rfl) rfl hone (λ wu eu=>?_)));clear hK K;dsimp only [LA.vals];have hh9:=setRow_heap wu bv _ (qv qd).cells _ (0,0) (eu.block hhv);have x8:=((Ext.refl w1).trans (ev.trans eu)).setRow hbv (qv qd).cells;obtain ⟨W8,hW8⟩:∃ W,W=wu.setRow bv (qv qd).cells:=⟨_,rfl⟩;rw [← hW8] at hh9 x8 ⊢;clear hW8;have hS8:=hS.ext x8;have hcn8:=Cn.ext hcn x8;have hcA:Cn (λ j=>TT j∧kv.ownBlock≠some j∧True) W8 (qv qd) (qs i) (kks i):=Cn.mono hcn8 (λ j _ hj=>⟨trivial,λ hkv=>by have:=hB j (.inr (.inl hkv));omega,trivial⟩);have hT8:=hT1.ext x8;have hFA:∀ w',Ext W8 w'→Fsh (λ j=>TT j∧kv.ownBlock≠some j∧True) w':=λ w' e j hj=>⟨trivial,λ hkv=>by have:=(Own.lt hS8.hk j hkv).2;have:=e.size;omega,trivial⟩;refine adA kZ (λ K hK=>?_))|(refine oLt 96 ?_;refine blA (n:=4) rfl hh9 rfl rfl (λ _=>rfl) (λ _=>rfl) ?_)|(refine oD 36 ?_;refine abA rfl _ rfl (λ _=>rfl) rfl (HasI.val (hk1.ext x8)) rfl oZ ?_;rw [hki])|(refine oD 49 ?_;refine abA rfl _ rfl (λ _=>rfl) rfl (HasI.val (hk1.ext x8)) rfl oZ ?_;rw [hki])|(refine oNc ?_;refine a8A rfl rfl ?_)|(refine oF 0 ?_;refine a1A (a':=⟨b,0,none⟩) rfl rfl (λ _=>rfl) ?_)|(refine oF 1 ?_;refine a1A (a':=⟨b,1,none⟩) rfl rfl (λ _=>rfl) ?_)|(refine oLt 27 ?_;refine a6A (c:=kv) rfl (λ _=>rfl) rfl hS8.hb rfl ?_)|(refine oLt 92 ?_;refine a6A (c:=lv) rfl (λ _=>rfl) rfl hS8.hb rfl ?_)|(refine oD 51 ?_;refine dqA rfl c5A rfl rfl ?_)|(refine oD 59 ?_;refine dpA (base:=W8.heap.size) (Nat.le_refl _) rfl cqA rfl (λ v w e h=>h) ?_)|(refine oD 31 ?_;refine aeA rfl rfl rfl fZ ?_;rw [hs1])|(refine oD 32 ?_;refine abA rfl _ rfl (λ _=>rfl) rfl (HasI.val (hk1.ext x8)) rfl oZ ?_;rw [hki2])|refine yO ?_|(refine yC ?_ ?_<;>intro hc)|(refine yV ?_;first|(refine oC 65 ?_;refine a2A (f:=65) rfl rfl rfl  (.val (.int .i64 c)) (by intro u1 w e hu1;(try obtain rfl:u1=_:=hu1);exact hlen _ _ (Cn.ext hcn8 e)) ?_)|(refine oC 93 ?_;refine a2A (f:=93) rfl rfl rfl  (.pred (cnP (λ j=>TT j∧kv.ownBlock≠some j∧True) (qs i) (avA (qs i)))) (by intro u1 w e hu1;(try obtain rfl:u1=_:=hu1);exact d7A (Cn.ext hcA e) (hT8.ext e) (hFA _ e)) ?_))|(refine yN hK ?_;clear hK K))|(refine oCX ?_;first|refine amA (id:=9) [11,19,22,25] kZ kZ kZ (a7A ?_))|refine wG ?_|(refine yR ?_;intro K hK)|refine wPh ?_|fail)
     have hplK:∀ (AA:Nat→Prop) w',Ext W8 w'→(∀ j,AA j→kv.ownBlock≠some j)→Plain AA (λ j=>kv.ownBlock=some j) w':=λ AA w' x hA j hj=>by
      obtain ⟨cur,hcur⟩:=awA (hS8.hk.ext x) hj;exact ⟨cur,_,_,hcur,by decide,by decide,λ ha=>absurd hj (hA j ha)⟩
     have hplL:∀ (AA:Nat→Prop) w' n cs,Own 0 tC 4 w' lv n cs→Plain AA (λ j=>lv.ownBlock=some j) w':=λ AA w' n cs ho j hj=>by
      obtain ⟨cur,hcur⟩:=awA ho hj;exact ⟨cur,_,_,hcur,by decide,by decide,λ _=>by decide⟩
     have lkv:∀ k,kv.ownBlock=some k→k<W8.heap.size:=λ k h=>hS8.lt (.inr (.inl h))
     have llv:∀ k,lv.ownBlock=some k→k<W8.heap.size:=λ k h=>hS8.lt (.inr (.inr h))
     have hsn:=slot_ne hS8;obtain ⟨Q',q1,q2,q3⟩:=hS8.hl;have hklen:=bqA (fwA kn qs i);have hnkl:=geA (fwA kn qs i);have hmv:∀ (kv' v:Value) (kk:Int) (w1' w2:World),Ext W8 w1'→Fr (λ j=>kv.ownBlock=some j) w1' w2→LocR w1' kv kv'→Cn (λ j=>TT j∧kv.ownBlock≠some j∧True) w1' v (qs i) kk→Cn (λ j=>TT j∧kv.ownBlock≠some j∧kv'.ownBlock≠some j) w2 v (qs i) kk:=λ kv' v kk w1' w2 x hf hl h =>
      Cn.fr (Cn.mono h (λ j hj ha=>⟨trivial,ha.2.1,λ hk'=>by
       rcases hl with hl|hl
       ·exact ha.2.1 (hl▸hk')
       ·have:=hl j hk';omega⟩)) hf (hplK _ _ x (λ j ha=>ha.2.1))
     refine d1A rfl c5A rfl hS8.hk rfl HasC.own (λ u hu=>by rw [List.mem_singleton] at hu;subst hu;rfl) (by unfold maxLen;omega) oZ (λ kv' w1' w2 e1 ho' hf hlo=>⟨_,λ t u _ hu=>b9A t u hu,a7A ?_⟩);have hb2:=hf.at (e1.block hS8.hb) (λ h=>hsn.1 h);have hh2:=hf.at (e1.block hh9) (λ h=>Own.apart hS8.hk hh9 dZ h);have q22:Own 0 tC 4 w2 lv (nk (fwA kn qs i)) (bdA Q'):=hf.own (q2.ext e1) (λ k h1 h2=>hsn.2.2 k h2 h1);have hcA2:=hmv _ _ _ _ _ e1 hf hlo (Cn.ext hcA e1);have hFA2:∀ w',Ext w2 w'→Fsh (λ j=>TT j∧kv.ownBlock≠some j∧kv'.ownBlock≠some j) w':=λ w' e j hj=>⟨trivial,λ h=>by have:=lkv j h;have:=e1.size;have:=hf.size;have:=e.size;omega,λ h=>by have:=(Own.lt ho' j h).2;have:=e.size;omega⟩
     have hT2:=hT.ext (Fr.ext (he.trans (x8.trans e1)) hf (λ j h=>hB j (.inr (.inl h))));have sz2:=Nat.le_trans e1.size hf.size
     repeat' (first|(refine yL ?_;first|refine yB ?_|(refine oNc ?_;refine a8A rfl rfl ?_)|(refine oF 0 ?_;refine a1A (a':=⟨b,0,none⟩) rfl rfl (λ _=>rfl) ?_)|(refine oF 1 ?_;refine a1A (a':=⟨b,1,none⟩) rfl rfl (λ _=>rfl) ?_)|(refine oLt 27 ?_;refine a6A (c:=kv) rfl (λ _=>rfl) rfl hb2 rfl ?_)|(refine oLt 92 ?_;refine a6A (c:=lv) rfl (λ _=>rfl) rfl hb2 rfl ?_)|(refine oLt 96 ?_;refine blA (n:=4) rfl hh2 rfl rfl (λ _=>rfl) (λ _=>rfl) ?_)|(refine oD 59 ?_;refine dpA (base:=W8.heap.size) sz2 rfl cqA rfl (λ v w e h=>h) ?_)|refine yO ?_|(refine yC ?_ ?_<;>intro hc)|(refine yV ?_;first|(refine oC 93 ?_;refine a2A (f:=93) rfl rfl rfl  (.pred (cnP (λ j=>TT j∧kv.ownBlock≠some j∧kv'.ownBlock≠some j) (qs i) (avA (qs i)))) (by intro u1 w e hu1;(try obtain rfl:u1=_:=hu1);exact d7A (Cn.ext hcA2 e) (hT2.ext e) (hFA2 _ e)) ?_))|(refine yN hK ?_;clear hK K))|refine wG ?_|(refine yR ?_;intro K hK)|refine wPh ?_|fail)
     refine haA 59 rfl dZ rfl (λ v53 w3 e3 h53=>?_);obtain ⟨qc,r1,r2,r3⟩:=h53;refine d1A rfl cqA rfl (q22.ext e3) rfl (HasC.ownV r1) r3 (by unfold maxLen;omega) oZ (λ lv' w3' w4 e3' hol hfl hll=>⟨_,λ t u _ hu=>b9A t u hu,a7A ?_⟩);have x23:=e3.trans e3';have hb4:=hfl.at (x23.block hb2) (λ h=>hsn.2.1 h);have r14:=hfl.own (ho'.ext x23) (λ k h1 h2=>by
      obtain ⟨cur,hcur⟩:=awA (ho'.ext x23) h1;exact Own.apart (q22.ext x23) hcur dZ h2)
     have rc4:=(r2.ext e3').fr hfl (hplL _ _ _ _ (q22.ext x23));obtain ⟨ck1,ck2⟩:=cyA r14;obtain ⟨cl1,cl2⟩:=cyA hol;have hF4:Fr (onw b kv lv) W8 w4:=(((Fr.of e1).trans (hf.mono λ k h=>.inr (.inl h))).trans (Fr.of x23)).trans (hfl.mono λ k h=>.inr (.inr h))
     repeat' (first|(refine yL ?_;first|refine yB ?_|(refine oNc ?_;refine a8A rfl rfl ?_)|(refine oF 0 ?_;refine a1A (a':=⟨b,0,none⟩) rfl rfl (λ _=>rfl) ?_)|(refine oF 1 ?_;refine a1A (a':=⟨b,1,none⟩) rfl rfl (λ _=>rfl) ?_)|(refine oLt 27 ?_;refine a6A (c:=kv) rfl (λ _=>rfl) rfl hb4 rfl ?_)|(refine oLt 92 ?_;refine a6A (c:=lv) rfl (λ _=>rfl) rfl hb4 rfl ?_)|refine yO ?_|(refine yC ?_ ?_<;>intro hc)|(refine yN hK ?_;clear hK K))|refine wG ?_|(refine yR ?_;intro K hK)|refine wPh ?_|fail)
     refine doA (news:=[kv']) rfl rfl rfl hb4 ck1 (λ _=>rfl) nZ (λ u hu=>by rw [List.mem_singleton] at hu;subst hu;exact ck2) (λ w6 e6=>⟨_,λ t u hu=>b9A t u hu,a7A ?_⟩);have hb6:(w6.setRow b #[kv',lv]).heap[b]?=_:=setRow_heap w6 b _ _ _ _ (e6.block hb4);have rc7:=(rc4.ext e6).setRow (e6.block hb4) ⟨by decide,by decide,by decide⟩ #[kv',lv];obtain ⟨w7,hw7⟩:∃ w7,w7=w6.setRow b #[kv',lv]:=⟨_,rfl⟩;have hF7:Fr (onw b kv lv) W8 w7:=hw7▸((hF4.trans (Fr.of e6)).setRow (.inl rfl) _);have r17:Own 0 tK 1 w7 kv' _ _:=hw7▸Own.setRow (r14.ext e6) _ (Own.apart (r14.ext e6) (e6.block hb4) dZ);have s17:Own 0 tC 4 w7 lv' _ _:=hw7▸Own.setRow (hol.ext e6) _ (Own.apart (hol.ext e6) (e6.block hb4) dZ);rw [show (#[kv,lv].toList.take 0++[kv']++#[kv,lv].toList.drop (0+[kv'].length)).toArray=#[kv',lv] from rfl];rw [← hw7] at hb6 rc7 ⊢;clear hw7
     repeat' (first|(refine yL ?_;first|refine yB ?_|(refine oNc ?_;refine a8A rfl rfl ?_)|(refine oF 0 ?_;refine a1A (a':=⟨b,0,none⟩) rfl rfl (λ _=>rfl) ?_)|(refine oF 1 ?_;refine a1A (a':=⟨b,1,none⟩) rfl rfl (λ _=>rfl) ?_)|(refine oLt 27 ?_;refine a6A (c:=kv) rfl (λ _=>rfl) rfl hb6 rfl ?_)|(refine oLt 92 ?_;refine a6A (c:=lv) rfl (λ _=>rfl) rfl hb6 rfl ?_)|refine yO ?_|(refine yC ?_ ?_<;>intro hc)|(refine yN hK ?_;clear hK K))|refine wG ?_|(refine yR ?_;intro K hK)|refine wPh ?_|fail)
     refine doA (news:=[lv']) rfl rfl rfl hb6 cl1 (λ _=>rfl) nZ (λ u hu=>by rw [List.mem_singleton] at hu;subst hu;exact cl2) (λ w8 e8=>⟨_,λ t u hu=>b9A t u hu,akA ?_⟩);have hb8:(w8.setRow b #[kv',lv']).heap[b]?=_:=setRow_heap w8 b _ _ _ _ (e8.block hb6);have rc9:=(rc7.ext e8).setRow (e8.block hb6) ⟨by decide,by decide,by decide⟩ #[kv',lv'];obtain ⟨w9,hw9⟩:∃ w9,w9=w8.setRow b #[kv',lv']:=⟨_,rfl⟩;have hF9:Fr (onw b kv lv) W8 w9:=hw9▸((hF7.trans (Fr.of e8)).setRow (.inl rfl) _);have r19:Own 0 tK 1 w9 kv' _ _:=hw9▸Own.setRow (r17.ext e8) _ (Own.apart (r17.ext e8) (e8.block hb6) dZ);have s19:Own 0 tC 4 w9 lv' _ _:=hw9▸Own.setRow (s17.ext e8) _ (Own.apart (s17.ext e8) (e8.block hb6) dZ);rw [show (#[kv',lv].toList.take 1++[lv']++#[kv',lv].toList.drop (1+[lv'].length)).toArray=#[kv',lv'] from rfl];rw [← hw9] at hb8 rc9 ⊢;clear hw9;have hkk9:OwnI 0 tK .u16 w9 kv' (b2A (fwA kn qs i)++[((kn i):Int)]):=by unfold OwnI;rw [List.map_append,List.length_append,List.length_singleton];exact r19
     have hmut:Mut TT W8 b kv lv _ w9:=hS8.app hk0 hlast (hqt i hil) hq0 q1 q3 (Cn.mono rc9 (λ j _ ha=>⟨trivial,ha.2.2⟩)) hF9 hb8 hkk9 s19 (hlo.le e1.size) (hll.le (by have:=x23.size;omega))
     repeat' (first|(refine yL ?_;first|refine yB ?_|(refine oNc ?_;refine a8A rfl rfl ?_)|(refine oF 0 ?_;refine a1A (a':=⟨b,0,none⟩) rfl rfl (λ _=>rfl) ?_)|(refine oF 1 ?_;refine a1A (a':=⟨b,1,none⟩) rfl rfl (λ _=>rfl) ?_)|(refine oLt 27 ?_;refine a6A (c:=kv) rfl (λ _=>rfl) rfl hb8 rfl ?_)|(refine oLt 92 ?_;refine a6A (c:=lv) rfl (λ _=>rfl) rfl hb8 rfl ?_)|refine yO ?_|(refine yC ?_ ?_<;>intro hc)|(refine yN hK ?_;clear hK K))|refine wG ?_|(refine yR ?_;intro K hK)|refine wPh ?_|fail)
     obtain ⟨kv9,lv9,m1,m2,m3,m4⟩:=hmut;have x9:=Fr.ext (he.trans x8) m2 (λ k hk=>hB k hk);have hon9:=jbA hB (he.trans x8).size m3 m4;exact a5A (i+1) (λ w5 e5=>⟨x9.trans e5,hil,hDn,kv9,lv9,m1.ext e5,hon9⟩) oZ sZ
    ·rw [hnd (λ h=>hlt (h.2 hip))]
     clear hnd hd
     repeat' (first|(refine yL ?_;first|refine a0A rfl ?_|(refine oD 20 ?_;refine btA (s:=4) rfl _ rfl (λ _=>rfl) rfl (HasC.val hl1) rfl i rfl oZ ?_;rw [hat])|(refine oD 21 ?_;refine atA (cs:=qcs _) rfl (λ _=>rfl) (λ _=>rfl) rfl ?_)|(refine oD 8 ?_;refine a3A (hK _ _ (i6A rfl dZ (λ _=>rfl) (λ bv wv ev hbv hhv=>?_)));clear hK K;refine adA kZ (λ K hK=>?_))|(refine a3A (hK _ _ (djA (c:=qv qd) rfl rfl rfl hhv (λ _=>rfl) rfl hone (λ wu eu=>?_)));clear hK K;dsimp only [LA.vals];have hh9:=setRow_heap wu bv _ (qv qd).cells _ (0,0) (eu.block hhv);have x8:=((Ext.refl w1).trans (ev.trans eu)).setRow hbv (qv qd).cells;obtain ⟨W8,hW8⟩:∃ W,W=wu.setRow bv (qv qd).cells:=⟨_,rfl⟩;rw [← hW8] at hh9 x8 ⊢;clear hW8;have hS8:=hS.ext x8;have hcn8:=Cn.ext hcn x8;have hcA:Cn (λ j=>TT j∧kv.ownBlock≠some j∧True) W8 (qv qd) (qs i) (kks i):=Cn.mono hcn8 (λ j _ hj=>⟨trivial,λ hkv=>by have:=hB j (.inr (.inl hkv));omega,trivial⟩);have hT8:=hT1.ext x8;have hFA:∀ w',Ext W8 w'→Fsh (λ j=>TT j∧kv.ownBlock≠some j∧True) w':=λ w' e j hj=>⟨trivial,λ hkv=>by have:=(Own.lt hS8.hk j hkv).2;have:=e.size;omega,trivial⟩;refine adA kZ (λ K hK=>?_))|(refine oLt 96 ?_;refine blA (n:=4) rfl hh9 rfl rfl (λ _=>rfl) (λ _=>rfl) ?_)|(refine oD 36 ?_;refine abA rfl _ rfl (λ _=>rfl) rfl (HasI.val (hk1.ext x8)) rfl oZ ?_;rw [hki])|(refine oD 49 ?_;refine abA rfl _ rfl (λ _=>rfl) rfl (HasI.val (hk1.ext x8)) rfl oZ ?_;rw [hki])|(refine oNc ?_;refine a8A rfl rfl ?_)|(refine oF 0 ?_;refine a1A (a':=⟨b,0,none⟩) rfl rfl (λ _=>rfl) ?_)|(refine oF 1 ?_;refine a1A (a':=⟨b,1,none⟩) rfl rfl (λ _=>rfl) ?_)|(refine oLt 27 ?_;refine a6A (c:=kv) rfl (λ _=>rfl) rfl hS8.hb rfl ?_)|(refine oLt 92 ?_;refine a6A (c:=lv) rfl (λ _=>rfl) rfl hS8.hb rfl ?_)|(refine oD 51 ?_;refine dqA rfl c5A rfl rfl ?_)|(refine oD 59 ?_;refine dpA (base:=W8.heap.size) (Nat.le_refl _) rfl cqA rfl (λ v w e h=>h) ?_)|(refine oD 31 ?_;refine aeA rfl rfl rfl fZ ?_;rw [hs1])|(refine oD 32 ?_;refine abA rfl _ rfl (λ _=>rfl) rfl (HasI.val (hk1.ext x8)) rfl oZ ?_;rw [hki2])|refine yO ?_|(refine yC ?_ ?_<;>intro hc)|(refine yV ?_;first|(refine oC 65 ?_;refine a2A (f:=65) rfl rfl rfl  (.val (.int .i64 c)) (by intro u1 w e hu1;(try obtain rfl:u1=_:=hu1);exact hlen _ _ (Cn.ext hcn8 e)) ?_)|(refine oC 93 ?_;refine a2A (f:=93) rfl rfl rfl  (.pred (cnP (λ j=>TT j∧kv.ownBlock≠some j∧True) (qs i) (avA (qs i)))) (by intro u1 w e hu1;(try obtain rfl:u1=_:=hu1);exact d7A (Cn.ext hcA e) (hT8.ext e) (hFA _ e)) ?_))|(refine yN hK ?_;clear hK K))|refine wG ?_|(refine yR ?_;intro K hK)|fail)
     exact dfA rfl rfl rfl (he.trans x8) rfl rfl
 ·obtain rfl:i=n:=oZ
  obtain rfl:d=true:=hd.2 hDi
  repeat' (first|(refine yL ?_;first|refine a0A rfl ?_|refine yO ?_|(refine yC ?_ ?_<;>intro hc)|(refine yN hK ?_;clear hK K))|refine wG ?_|(refine yR ?_;intro K hK)|fail)
  exact dyA rfl (λ x y w5 e5 hx hy=>⟨_,rfl,he.trans e5,x,y,rfl,⟨b,kv,lv,hx,hS.ext e5,λ _ _=>trivial⟩,hy⟩)
theorem smA {kn:Nat→Nat} {qs:Nat→Nat→Bool} {n:Nat} (hD:Dir kn qs n):∀ i,i≤n→∀ x,fwA kn qs i x=true↔∃ j,j<i∧x / 65536=kn j∧qs j (x % 65536)=true
 | 0,_,x=>by simp [fwA]
 | i+1,hi,x=>by
   have ih:=smA hD i oZ x;show upd (fwA kn qs i) (kn i) (qs i) x=true↔_;unfold upd
   by_cases e:x / 65536=kn i
   ·rw [if_pos e]
    constructor
    ·exact λ h=>⟨i,Nat.lt_succ_self i,e,h⟩
    ·rintro ⟨j,h1,h2,h3⟩
     obtain rfl:j=i:=by
      refine Classical.byContradiction λ hne=>?_
      have:∀ m,m≤n→∀ j,j<m→∀ i,i<m→j<i→kn j<kn i:=by
       intro m
       induction m with
       | zero=>intro _ j hj;omega
       | succ m ihm =>
         intro hm j hj i hi hji
         by_cases e1:i=m
         ·subst e1
          have h5:=(hD i oZ).2 oZ
          by_cases e2:j=i-1
          ·subst e2;exact h5
          ·exact Nat.lt_trans (ihm oZ j oZ (i-1) oZ oZ) h5
         ·exact ihm oZ j oZ i oZ hji
      have:=this n (Nat.le_refl _) j oZ i oZ oZ;omega
     exact h3
   ·rw [if_neg e,ih]
    constructor
    ·rintro ⟨j,h1,h2⟩;exact ⟨j,by omega,h2⟩
    ·rintro ⟨j,h1,h2,h3⟩
     exact ⟨j,by rcases Nat.lt_succ_iff_lt_or_eq.1 h1 with h|h
                 ·exact h
                 ·subst h;exact absurd h2 e,h2,h3⟩
end Go.Proofs.YtbokphkfojijoaaGreatDoor
end
section
namespace Go.Proofs.YtbokphkfojijoaaGreatDoor.Pt
open Go.LA Go.ArrP Go.RowKit
theorem t3A (p:Nat→Bool):Dir (kp p) (λ i=>blk p (kp p i)) (nk p):=λ i hi=>by
 obtain ⟨h1,h2,-,-⟩:=hvA hi;refine ⟨ne_cnt.1 h2,λ h0=>?_⟩;have:=h4A (p:=p) (i:=i-1) oZ;rw [show i-1+1=i by omega] at this;exact this
theorem w0A {p:Nat→Bool} (ht:∀ x,TOP≤x→p x=false):fwA (kp p) (λ i=>blk p (kp p i)) (nk p)=p:=by
 have htop:=eqA
 funext x
 rw [Bool.eq_iff_iff,smA (t3A p) _ (Nat.le_refl _)];have hm:x % 65536<65536:=Nat.mod_lt _ dZ
 constructor
 ·rintro ⟨j,h1,h2,h3⟩
  rw [czA hm,← h2,show x / 65536*65536+x % 65536=x by omega] at h3;exact h3
 ·intro hx
  have hlt:x<TOP:=by
   rcases Nat.lt_or_ge x TOP with h|h
   ·exact h
   ·rw [ht x h] at hx;cases hx
  have hk:x / 65536<65536:=oZ;have hne:ne p (x / 65536)=true:=ne_iff.2 ⟨x % 65536,hm,by rw [show x / 65536*65536+x % 65536=x by omega];exact hx⟩;obtain ⟨g1,g2⟩:=vwA hk hne;exact ⟨_,g1,g2.symm,by rw [g2,czA hm,show x / 65536*65536+x % 65536=x by omega];exact hx⟩
theorem ssA {p f:Nat→Bool} {ys:List Int} (hn:nk p≤8) (hA:AtB ys 0 (mwA p f)) :
 AtB ys 0 (csA (nk p) f)∧(∀ i,i<nk p→AtB ys ((csA (nk p) f).length+4*i) (exA p i)) ∧
 (¬ (e9A f (nk p)=true∧nk p<4)→∀ i,i<nk p→AtB ys ((csA (nk p) f).length+4*nk p+4*i) (h2A p f i)) ∧
 (∀ i,i<nk p→AtB ys (dxA (nk p) (e9A f (nk p))+(buA (dgA p f) i).length) (dgA p f i)):=by
 have hh:=imA (f:=f) hn;have hdl:∀ i,(buA (exA p) i).length=4*i:=λ i=>by rw [ctA i (λ j _=>fyA p j),Nat.mul_comm]
 have hol:∀ i,(buA (h2A p f) i).length=4*i:=λ i=>by rw [ctA i (λ j _=>ftA p f j),Nat.mul_comm]
 unfold mwA at hA;have h1:=hA.left;have h2:=hA.right;have h3:=h2.left;have h4:=h2.right;have h5:=h4.left;have h6:=h4.right;rw [Nat.zero_add] at h2 h3 h4 h5 h6;rw [hdl] at h4 h5 h6 hh;refine ⟨h1,λ i hi=>?_,λ ho i hi=>?_,λ i hi=>?_⟩
 ·have:=h3.cat hi
  rw [hdl] at this;exact this
 ·have ho':dwA p f=buA (h2A p f) (nk p):=by unfold dwA;rw [if_neg ho]
  rw [ho'] at h5;have:=h5.cat hi;rw [hol] at this;exact this
 ·have:=h6.cat hi
  rw [hh] at this;exact this
theorem peA {xs:List Int} {i:Nat} (hil:i<xs.length):(xs.take i++List.replicate (xs.length-i) 0).set i (xs.getD i 0)=xs.take (i+1)++List.replicate (xs.length-(i+1)) 0:=by
 rw [take_snoc 0 hil,show xs.length-i=(xs.length-(i+1))+1 by omega,List.replicate_succ,List.set_append_right _ _ (by rw [List.length_take];omega),List.length_take,Nat.min_eq_left oZ,Nat.sub_self,List.set_cons_zero,List.append_assoc];rfl
theorem pfA {xs:List Int} {i:Nat} (hil:i≤xs.length):(xs.take i++List.replicate (xs.length-i) (0:Int)).length=xs.length:=by
 rw [List.length_append,List.length_take,List.length_replicate];omega
noncomputable def n0A (g:Nat→Int) (n:Nat):List Int:=(List.range n).map g
theorem ktA (g:Nat→Int) (n:Nat):(n0A g n).length=n:=by simp [n0A]
theorem ogA {g:Nat→Int} {n i:Nat} (h:i<n):(n0A g n).getD i 0=g i:=by
 simp [n0A,List.getD_eq_getElem?_getD,List.getElem?_range h]
theorem rbA (g:Nat→Int) (n:Nat):n0A g (n+1)=n0A g n++[g n]:=by simp [n0A,List.range_succ]
noncomputable def arB (p:Nat→Bool):List Int:=n0A (λ i=>(cnt (blk p (kp p i)) 65536:Nat)) (nk p)
noncomputable def mxA (p f:Nat→Bool) (i:Nat):Int:=(dxA (nk p) (e9A f (nk p))+(buA (dgA p f) i).length:Nat)
abbrev xyA:Nat:=3
abbrev byB:Nat:=71
abbrev tRd':Nat:=136
theorem d6B:El Tryz.prog 46 3 (.int .i64 0) 1 8:=⟨rfl,rfl,rfl,by decide⟩
theorem ylA:El Tryz.prog 72 71 (.int .u32 0) 1 4:=⟨rfl,rfl,rfl,by decide⟩
def OffR (e:Nat):Prop:=e≠tPr∧e≠tRd'∧e≠tB
theorem Rdr.fr {base br bc pos:Nat} {w w':World} {sl:Value} {ys:List Int} {en:Int} {R:Nat→Prop} (h:Rdr base w br bc sl ys pos en) (hf:Fr R w w') (hR:∀ k,R k→∃ cur e j,w.heap[k]?=some (.cells cur e j)∧OffR e):Rdr base w' br bc sl ys pos en:=by
 refine ⟨h.hb,hf.at h.hr (λ hk=>?_),⟨h.rd.1,hf.at h.rd.2.1 (λ hk=>?_),hf.own h.rd.2.2.1 (λ k hk hr=>?_),h.rd.2.2.2⟩,h.hy⟩
 ·obtain ⟨cur,e,j,h1,h2,-⟩:=hR br hk
  rw [h.hr] at h1;cases h1;exact h2 rfl
 ·obtain ⟨cur,e,j,h1,-,h2,-⟩:=hR bc hk
  rw [h.rd.2.1] at h1;cases h1;exact h2 rfl
 ·obtain ⟨cur,e,j,h1,-,-,h2⟩:=hR k hr
  exact Own.apart h.rd.2.2.1 h1 (λ q=>h2 q.symm) hk
theorem cnA {base e s n:Nat} {w w':World} {v:Value} {cs:List Value} {R:Nat→Prop} (h:LA.Own base e s w v n cs) (hf:Fr R w w') (hR:∀ k,R k→∃ cur e' j,w.heap[k]?=some (.cells cur e' j)∧e≠e'):LA.Own base e s w' v n cs :=
 hf.own h (λ k hk hr=>by
  obtain ⟨cur,e',j,h1,h2⟩:=hR k hr;exact Own.apart h h1 h2 hk)
theorem Rdr.bcAt {base br bc pos:Nat} {w:World} {sl:Value} {ys:List Int} {en:Int} (h:Rdr base w br bc sl ys pos en):∀ k,some bc=some k→∃ cur,w.heap[k]?=some (.cells cur tRd' (0,0)):=λ k hk=>by
 cases hk;exact ⟨_,h.rd.2.1⟩
theorem Rdr.own {base br bc pos base' e s n:Nat} {w w':World} {sl:Value} {ys:List Int} {en:Int} {v:Value} {cs:List Value} (h:Rdr base w br bc sl ys pos en) (hg:w.grownBy w' (some bc)) (ho:LA.Own base' e s w v n cs) (he:e≠tRd'):LA.Own base' e s w' v n cs :=
 cnA ho (Fr.grown hg) (λ k hk=>by obtain ⟨cur,hc⟩:=h.bcAt k hk;exact ⟨cur,_,_,hc,he⟩)
theorem and1 (a:Nat) (ha:a<256):bits .and .u8 (a:Int) 1=((a % 2:Nat):Int):=by
 have h:=u8_and_nat a 1 ha dZ;rw [show ((1:Nat):Int)=1 from rfl] at h;rw [h,show (1:Nat)=2 ^ 1-1 by decide,Nat.and_two_pow_sub_one_eq_mod]
theorem akB {f:Nat→Bool} {n i:Nat} (hn:n≤8) (hi:i<n):bits .and .u8 ((fB f n:Int) / 2 ^ ((i:Nat):Int).toNat) 1=if f i then 1 else 0:=by
 have h1:=nsA f n;have h2:fB f n<256:=Nat.lt_of_lt_of_le h1 (Nat.pow_le_pow_right dZ hn:2 ^ n≤2 ^ 8);rw [Int.toNat_natCast];have h3:((fB f n:Nat):Int) / (2:Int) ^ i=((fB f n / 2 ^ i:Nat):Int):=by norm_cast
 rw [h3,and1 _ (Nat.lt_of_le_of_lt (Nat.div_le_self _ _) h2),d1B f n i hi];cases f i <;> rfl
def KRow (base:Nat) (p:Nat→Bool) (n:Nat) (w:World) (u:Value) (Q:List Qd):Prop:=LA.Own base tC 4 w u n (bdA Q)∧Q.length=n∧∀ i,i<n→∃ kk,Cn TT w (qv (Q.getD i q0)) (blk p (kp p i)) kk
theorem KRow.ext {base n:Nat} {p:Nat→Bool} {w w':World} {u:Value} {Q:List Qd} (h:KRow base p n w u Q) (e:Ext w w'):KRow base p n w' u Q:=⟨h.1.ext e,h.2.1,λ i hi=>(h.2.2 i hi).imp λ k hk=>hk.ext e⟩
theorem KRow.fr {base n:Nat} {p:Nat→Bool} {w w':World} {u:Value} {Q:List Qd} {R:Nat→Prop} (h:KRow base p n w u Q) (hf:Fr R w w') (hR:∀ k,R k→∃ cur e',w.heap[k]?=some (.cells cur e' (0,0))∧e'≠tC∧e'≠tK∧e'≠61∧e'≠105):KRow base p n w' u Q :=
 ⟨cnA h.1 hf (λ k hk=>by obtain ⟨cur,e',h1,h2,-⟩:=hR k hk;exact ⟨cur,e',_,h1,λ q=>h2 q.symm⟩),h.2.1,λ i hi=>(h.2.2 i hi).imp λ kk hc=>hc.fr hf (λ k hk=>by
  obtain ⟨cur,e',h1,h2,h3,h4,h5⟩:=hR k hk;exact ⟨cur,e',_,h1,λ q=>h4 q.symm,λ q=>h5 q.symm,λ _ q=>h3 q.symm⟩)⟩
theorem KRow.kinds {base n:Nat} {p:Nat→Bool} {w:World} {u:Value} {Q:List Qd} (h:KRow base p n w u Q):∃ kks:Nat→Int,∀ i,i<n→Cn TT w (qv (Q.getD i q0)) (blk p (kp p i)) (kks i):=by
 classical
 refine ⟨λ i=>if hi:i<n then Classical.choose (h.2.2 i hi) else 0,λ i hi=>?_⟩;show Cn _ _ _ _ (if hi:i<n then Classical.choose (h.2.2 i hi) else 0);rw [dif_pos hi];exact Classical.choose_spec (h.2.2 i hi)
structure Rds (base:Nat) (w:World) (br bc:Nat) (sl:Value) (zs:List Int) (pos:Nat) (fv vk vc:Value) (fl ks cs:List Int):Prop where
 rd:Rdr base w br bc sl zs pos 0
 f:OwnI base tB .u8 w fv fl
 k:OwnI base tK .u16 w vk ks
 c:OwnI base xyA .i64 w vc cs
theorem Rds.ext {base br bc pos:Nat} {w w':World} {sl fv vk vc:Value} {zs fl ks cs:List Int} (h:Rds base w br bc sl zs pos fv vk vc fl ks cs) (e:Ext w w'):Rds base w' br bc sl zs pos fv vk vc fl ks cs:=⟨h.rd.ext e,h.f.ext e,h.k.ext e,h.c.ext e⟩
theorem Rds.step {base br bc pos pos':Nat} {w w':World} {sl fv vk vc:Value} {zs fl ks cs:List Int} (h:Rds base w br bc sl zs pos fv vk vc fl ks cs) (h':RdI base w' bc sl zs pos') (hg:w.grownBy w' (some bc)):Rds base w' br bc sl zs pos' fv vk vc fl ks cs :=
 ⟨h.rd.step h' hg,h.rd.own hg h.f dZ,h.rd.own hg h.k dZ,h.rd.own hg h.c dZ⟩
theorem Rds.go {base br bc pos pos':Nat} {w w':World} {sl fv vk vc:Value} {zs fl ks cs:List Int} (h:Rds base w br bc sl zs pos fv vk vc fl ks cs) (h':Rdr base w' br bc sl zs pos' 0) (hg:w.grownBy w' (some bc)):Rds base w' br bc sl zs pos' fv vk vc fl ks cs :=
 ⟨h',h.rd.own hg h.f dZ,h.rd.own hg h.k dZ,h.rd.own hg h.c dZ⟩
theorem Rds.fr {base br bc pos:Nat} {w w':World} {sl fv vk vc:Value} {zs fl ks cs:List Int} {R:Nat→Prop} (h:Rds base w br bc sl zs pos fv vk vc fl ks cs) (hf:Fr R w w') (hR:∀ k,R k→∃ cur e j,w.heap[k]?=some (.cells cur e j)∧OffR e∧e≠tK∧e≠xyA):Rds base w' br bc sl zs pos fv vk vc fl ks cs :=
 ⟨h.rd.fr hf (λ k hk=>by obtain ⟨cur,e,j,h1,h2,-⟩:=hR k hk;exact ⟨cur,e,j,h1,h2⟩),
  cnA h.f hf (λ k hk=>by obtain ⟨cur,e,j,h1,h2,-⟩:=hR k hk;exact ⟨cur,e,j,h1,λ q=>h2.2.2 q.symm⟩),
  cnA h.k hf (λ k hk=>by obtain ⟨cur,e,j,h1,-,h2,-⟩:=hR k hk;exact ⟨cur,e,j,h1,λ q=>h2 q.symm⟩),
  cnA h.c hf (λ k hk=>by obtain ⟨cur,e,j,h1,-,-,h2⟩:=hR k hk;exact ⟨cur,e,j,h1,λ q=>h2 q.symm⟩)⟩
theorem Rds.setK {base br bc pos gb cap i:Nat} {w:World} {sl fv vc:Value} {zs fl ks cs:List Int} {cur:Array Value} (h:Rds base w br bc sl zs pos fv (.slice (some ⟨gb,0,none⟩) ks.length cap) vc fl ks cs)
 (hb:base≤gb) (hc:w.heap[gb]?=some (.cells cur tK (0,0))) (hnc:ks.length≤cap) (hm:cap≤maxLen) (hsz:cur.size=cap) (ht:cur.toList.take ks.length=ks.map (Value.int .u16)) (hi:i<ks.length) (x:Int) :
 Rds base (w.setRow gb (cur.setIfInBounds i (.int .u16 x))) br bc sl zs pos fv (.slice (some ⟨gb,0,none⟩) ks.length cap) vc fl (ks.set i x) cs:=by
 have hf:Fr (λ k=>k=gb) w (w.setRow gb (cur.setIfInBounds i (.int .u16 x))):=Fr.setRow (R:=λ k=>k=gb) (Fr.of (Ext.refl _)) rfl _;have hR:∀ k,k=gb→w.heap[k]?=some (.cells cur tK (0,0)):=λ k hk=>by rw [hk];exact hc
 refine ⟨h.rd.fr hf (λ k hk=>⟨cur,tK,_,hR k hk,by decide,by decide,by decide⟩),cnA h.f hf (λ k hk=>⟨cur,tK,_,hR k hk,by decide⟩),?_,cnA h.c hf (λ k hk=>⟨cur,tK,_,hR k hk,by decide⟩)⟩;exact OwnI.set hb hc hnc hm hsz ht i hi x
theorem Rds.setC {base br bc pos gb cap i:Nat} {w:World} {sl fv vk:Value} {zs fl ks cs:List Int} {cur:Array Value} (h:Rds base w br bc sl zs pos fv vk (.slice (some ⟨gb,0,none⟩) cs.length cap) fl ks cs)
 (hb:base≤gb) (hc:w.heap[gb]?=some (.cells cur xyA (0,0))) (hnc:cs.length≤cap) (hm:cap≤maxLen) (hsz:cur.size=cap) (ht:cur.toList.take cs.length=cs.map (Value.int .i64)) (hi:i<cs.length) (x:Int) :
 Rds base (w.setRow gb (cur.setIfInBounds i (.int .i64 x))) br bc sl zs pos fv vk (.slice (some ⟨gb,0,none⟩) cs.length cap) fl ks (cs.set i x):=by
 have hf:Fr (λ k=>k=gb) w (w.setRow gb (cur.setIfInBounds i (.int .i64 x))):=Fr.setRow (R:=λ k=>k=gb) (Fr.of (Ext.refl _)) rfl _;have hR:∀ k,k=gb→w.heap[k]?=some (.cells cur xyA (0,0)):=λ k hk=>by rw [hk];exact hc
 refine ⟨h.rd.fr hf (λ k hk=>⟨cur,xyA,_,hR k hk,by decide,by decide,by decide⟩),cnA h.f hf (λ k hk=>⟨cur,xyA,_,hR k hk,by decide⟩),cnA h.k hf (λ k hk=>⟨cur,xyA,_,hR k hk,by decide⟩),?_⟩;exact OwnI.set hb hc hnc hm hsz ht i hi x
theorem fkA {w0 w w':World} {b:Nat} (e:Ext w0 w) (h:w.grownBy w' (some b)) (hb:w0.heap.size≤b):Ext w0 w':=Fr.ext e (Fr.grown h) (λ k hk=>by cases hk;exact hb)
theorem KRow.snoc {base t:Nat} {p:Nat→Bool} {w w':World} {u v':Value} {Q:List Qd} {qc:Qd} (hQ:KRow base p t w u Q) (hc:∃ kk,Cn TT w (qv qc) (blk p (kp p t)) kk) (ho:LA.Own 0 tC 4 w' v' (t+1) (bdA Q++bdA [qc])) (hf:Fr (λ k=>u.ownBlock=some k) w w') (hl:LocR w u v') (hb:base≤w.heap.size):KRow base p (t+1) w' v' (Q++[qc]):=by
 have hfr:∀ {q:Qd} {s:Nat→Bool} {kk:Int},Cn TT w (qv q) s kk→Cn TT w' (qv q) s kk:=λ h=>h.fr hf (λ k hk=>by
  obtain ⟨cur,hcur⟩:=awA hQ.1 hk;exact ⟨cur,_,_,hcur,by decide,by decide,λ _=>by decide⟩)
 refine ⟨by rw [dlA];exact Own.rebase ho (hl.ge (λ k hk=>(Own.lt hQ.1 k hk).1) hb),by rw [List.length_append,hQ.2.1];rfl,λ j hj=>?_⟩
 by_cases e:j<t
 ·rw [show (Q++[qc]).getD j q0=Q.getD j q0 by simp [List.getD,List.getElem?_append_left (show j<Q.length by rw [hQ.2.1];omega)]]
  exact (hQ.2.2 j e).imp λ kk h=>hfr h
 ·obtain rfl:j=t:=oZ
  rw [show (Q++[qc]).getD j q0=qc by rw [List.getD_eq_getElem?_getD,List.getElem?_append_right (by rw [hQ.2.1];exact Nat.le_refl _),hQ.2.1,Nat.sub_self];rfl];exact hc.imp λ kk h=>hfr h
end Go.Proofs.YtbokphkfojijoaaGreatDoor.Pt
end
