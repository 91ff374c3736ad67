import Derived.Laws.BitsAllLaws
import Derived.Test.YtbokphkfojijoaaGreatDoorM20
import Derived.Test.YtbokphkfojijoaaGreatDoorM23
section
set_option linter.unusedSimpArgs false
set_option linter.unusedVariables false
set_option maxRecDepth 3000
namespace Go.Proofs.YtbokphkfojijoaaGreatDoor.Pt
open Go.LA Go.ArrP Go.RowKit
theorem t5A {q:Nat → Bool} (h:0 < cnt q 65536):0 < (auA q).length:=by
  have hl:ldA (auA q)=cnt q 65536:=mbA q 65536
  cases hr:auA q with
  | nil=>rw [hr,show ldA []=0 from rfl] at hl;omega
  | cons r rs=>simp
set_option maxHeartbeats 4000000 in
theorem one_r {base br bc pos:Nat} {w:World} {sl:Value} {ys:List Int} {q:Nat → Bool} (h:Rdr base w br bc sl ys pos 0) (f:Bool) (hA:AtB ys pos (deA q f)) (hc0:0 < cnt q 65536) (hp:q 65536=false) :
    Fc Tryz.prog 56 #[.pointer (some ⟨br,0,none⟩),.int .i64 (cnt q 65536:Nat),.bool f] w (fun en w'=>∃ v,en=.returned v ∧ (∃ kk,Cn TT w' v q kk) ∧ Rdr base w' br bc sl ys (pos + (deA q f).length) 0 ∧ w.grownBy w' (some bc)):=by
  have hbcl:=(Array.getElem?_eq_some_iff.1 h.rd.2.1).1
  have hcl:=cnt_le q 65536
  cases f with
  | true =>
    have hbl:(deA q true).length=2 + 4 * (auA q).length:=by rw [glA];rfl
    have hcall:∀ w',Ext w w' → Fc Tryz.prog 91 #[.pointer (some ⟨br,0,none⟩),.int .i64 (cnt q 65536:Nat)] w' (fun en w''=>∃ v,en=.returned (.tuple #[v,.bool true]) ∧ Cn TT w'' v q 3 ∧ Rdr base w'' br bc sl ys (pos + (deA q true).length) 0 ∧ w'.grownBy w'' (some bc)):=fun w' e=>by
      have:=zuA (h.ext e) (q:=q) (by have:=hA;unfold deA at this;exact this) (t5A hc0) hp (cnt q 65536:Nat)
      rw [hbl,← Nat.add_assoc];exact this
    refine Fc.of (args:=[_,_,_]) Tryz.func56 rfl rfl Tryz.ntmps56 (Nat.le_of_ble_eq_true rfl) ?_
    repeat' (first|(refine oLA ?_;first|refine a0A rfl ?_|(refine oD 6 ?_;refine a4A (hK _ _ (hbA rfl (by decide) (fun _=>rfl) (fun b6 w6 e6 hb6 hh6=>?_)));clear hK K;refine aeA (by kernel_rfl) (fun K hK=>?_))|(refine oD 11 ?_;refine eaA rfl rfl ?_)|(refine oD 15 ?_;refine eaA rfl rfl ?_)|(refine oD 20 ?_;refine eaA rfl rfl ?_)|(refine oD 24 ?_;refine a4A (hK _ _ (itA rfl (by decide) rfl rfl (fun v w'=>∃ qd:Qd,v=.tuple #[qv qd,.bool true] ∧ (∀ u ∈ qcs qd,u.oneCell'=true) ∧ Cn TT w' (qv qd) q 3 ∧ Rdr base w' br bc sl ys (pos + (deA q true).length) 0 ∧ w6.grownBy w' (some bc)) (fun w8 e8=>(hcall w8 (e6.trans e8)).mono (fun en w' h=>?_)) (fun vv wA hAA=>?_)));clear hK K)|refine wOp ?_|(refine wCm ?_ ?_<;>intro hc)|(refine wNl hK ?_;clear hK K))|refine wG ?_|(refine wCR ?_;intro K hK)|fail)
    all_goals skip
    · obtain ⟨u,h1,h2,h3,h4⟩:=h
      obtain ⟨qd,rfl,hone⟩:=h2.qd
      exact ⟨_,h1,qd,rfl,hone,h2,h3,arA e8 h4⟩
    obtain ⟨qd,rfl,hone,hcn,hRA,hGA⟩:=hAA
    have hh6A:=(Fr.grown hGA).at hh6 (fun e=>by cases e;omega)
    refine aeA (by kernel_rfl) (fun K hK=>?_)
    repeat' (first|(refine oLA ?_;first|refine a0A rfl ?_|(refine oD 25 ?_;refine ceA rfl rfl ?_)|(refine oD 26 ?_;refine cdA rfl rfl ?_)|(refine oD 8 ?_;refine a4A (hK _ _ (cbA rfl rfl (by decide) (fun _=>rfl) (fun _=>rfl) (fun _=>rfl) rfl hone (fun b8 w8 e8 hb8 hh8=>?_)));clear hK K;refine aeA (by kernel_rfl) (fun K hK=>?_))|(refine oLt 96 ?_;refine bnA (n:=4) rfl hh8 rfl rfl (fun _=>rfl) (fun _=>rfl) ?_)|(refine a4A (hK _ _ (d5A (c:=qv qd) rfl rfl rfl (e8.block hh6A) (fun _=>rfl) rfl hone (fun wB eB=>?_)));clear hK K;dsimp only [LA.vals];refine aeA (by kernel_rfl) (fun K hK=>?_))|refine wOp ?_|(refine wCm ?_ ?_<;>intro hc)|(refine oCv ?_;first|(refine oC 65 ?_;refine a2A (f:=65) rfl rfl rfl  (.val (.int .i64 (cnt q 65536:Nat))) (by intro u1 w e hu1;(try obtain rfl:u1=_:=hu1);exact g6A (Cn.ext hcn (e8.trans e))) ?_)|(refine oC 53 ?_;refine a3A (f:=53) rfl rfl rfl rfl  (.val (.bool true)) (by intro u1 u2 w e hu1 hu2;(try obtain rfl:u1=_:=hu1);(try obtain rfl:u2=_:=hu2);exact e2A ((hRA.ext e8).ext e)) ?_))|(refine wNl hK ?_;clear hK K))|refine wG ?_|(refine wCR ?_;intro K hK)|fail)
    all_goals skip
    have hcb:=eB.block (e8.block hh6A)
    refine iqA rfl rfl (setRow_heap wB b6 _ (qv qd).cells _ (0,0) hcb) rfl rfl rfl rfl (fun w5 e5=>?_)
    have hRB:=Rdr.setRow ((hRA.ext e8).ext eB) hcb (by decide) (by omega) (fun hq=>by
      have hlt:=(Own.lt h.rd.2.2.1 b6 hq).2
      omega) (qv qd).cells
    have hGB:=euA (aoA (aoA (arA e6 hGA) e8) eB) hb6 (qv qd).cells
    exact ⟨_,rfl,⟨_,(Cn.setRow (Cn.ext hcn (e8.trans eB)) hcb ⟨by decide,by decide,by decide⟩ (qv qd).cells).ext e5⟩,hRB.ext e5,aoA hGB e5⟩
  | false =>
    by_cases h4:cnt q 65536 ≤ 4096
    · have hbf:deA q false=flG (fun x=>leS x 2) (ahA q 65536):=by unfold deA;rw [if_neg (by decide),if_pos h4]
      have hbl:(deA q false).length=2 * (ahA q 65536).length:=by rw [hbf,diA _ (fun x=>b4A x 2)];omega
      have hll:=b7A q 65536
      have hcall:∀ w',Ext w w' → Fc Tryz.prog 90 #[.pointer (some ⟨br,0,none⟩),.int .i64 (cnt q 65536:Nat)] w' (fun en w''=>∃ v,en=.returned (.tuple #[v,.bool true]) ∧ Cn TT w'' v q 1 ∧ Rdr base w'' br bc sl ys (pos + (deA q false).length) 0 ∧ w'.grownBy w'' (some bc)):=fun w' e=>by
        have hu:∀ x ∈ ahA q 65536,0 ≤ x ∧ x < 65536:=fun x hx=>by
          obtain ⟨i,g1,-,g3⟩:=(c9A _ _ _).1 hx;omega
        have:=yuA (h.ext e) (by rw [← hbf];exact hA) hu (by omega) (bvA q _) hu
        rw [hll] at this
        rw [hbl,hll]
        exact this.mono (fun en w'' ⟨v,g1,g2,g3⟩=>⟨v,g1,ygA hp g2,g3⟩)
      refine Fc.of (args:=[_,_,_]) Tryz.func56 rfl rfl Tryz.ntmps56 (Nat.le_of_ble_eq_true rfl) ?_
      repeat' (first|(refine oLA ?_;first|refine a0A rfl ?_|(refine oD 6 ?_;refine a4A (hK _ _ (hbA rfl (by decide) (fun _=>rfl) (fun b6 w6 e6 hb6 hh6=>?_)));clear hK K;refine aeA (by kernel_rfl) (fun K hK=>?_))|(refine oD 11 ?_;refine eaA rfl rfl ?_)|(refine oD 15 ?_;refine eaA rfl rfl ?_)|(refine oD 20 ?_;refine eaA rfl rfl ?_)|(refine oD 24 ?_;refine a4A (hK _ _ (itA rfl (by decide) rfl rfl (fun v w'=>∃ qd:Qd,v=.tuple #[qv qd,.bool true] ∧ (∀ u ∈ qcs qd,u.oneCell'=true) ∧ Cn TT w' (qv qd) q 1 ∧ Rdr base w' br bc sl ys (pos + (deA q false).length) 0 ∧ w6.grownBy w' (some bc)) (fun w8 e8=>(hcall w8 (e6.trans e8)).mono (fun en w' h=>?_)) (fun vv wA hAA=>?_)));clear hK K)|refine wOp ?_|(refine wCm ?_ ?_<;>intro hc)|(refine wNl hK ?_;clear hK K))|refine wG ?_|(refine wCR ?_;intro K hK)|fail)
      all_goals skip
      · obtain ⟨u,h1,h2,h3,h4⟩:=h
        obtain ⟨qd,rfl,hone⟩:=h2.qd
        exact ⟨_,h1,qd,rfl,hone,h2,h3,arA e8 h4⟩
      obtain ⟨qd,rfl,hone,hcn,hRA,hGA⟩:=hAA
      have hh6A:=(Fr.grown hGA).at hh6 (fun e=>by cases e;omega)
      refine aeA (by kernel_rfl) (fun K hK=>?_)
      repeat' (first|(refine oLA ?_;first|refine a0A rfl ?_|(refine oD 25 ?_;refine ceA rfl rfl ?_)|(refine oD 26 ?_;refine cdA rfl rfl ?_)|(refine oD 8 ?_;refine a4A (hK _ _ (cbA rfl rfl (by decide) (fun _=>rfl) (fun _=>rfl) (fun _=>rfl) rfl hone (fun b8 w8 e8 hb8 hh8=>?_)));clear hK K;refine aeA (by kernel_rfl) (fun K hK=>?_))|(refine oLt 96 ?_;refine bnA (n:=4) rfl hh8 rfl rfl (fun _=>rfl) (fun _=>rfl) ?_)|(refine a4A (hK _ _ (d5A (c:=qv qd) rfl rfl rfl (e8.block hh6A) (fun _=>rfl) rfl hone (fun wB eB=>?_)));clear hK K;dsimp only [LA.vals];refine aeA (by kernel_rfl) (fun K hK=>?_))|refine wOp ?_|(refine wCm ?_ ?_<;>intro hc)|(refine oCv ?_;first|(refine oC 65 ?_;refine a2A (f:=65) rfl rfl rfl  (.val (.int .i64 (cnt q 65536:Nat))) (by intro u1 w e hu1;(try obtain rfl:u1=_:=hu1);exact g6A (Cn.ext hcn (e8.trans e))) ?_)|(refine oC 53 ?_;refine a3A (f:=53) rfl rfl rfl rfl  (.val (.bool true)) (by intro u1 u2 w e hu1 hu2;(try obtain rfl:u1=_:=hu1);(try obtain rfl:u2=_:=hu2);exact e2A ((hRA.ext e8).ext e)) ?_))|(refine wNl hK ?_;clear hK K))|refine wG ?_|(refine wCR ?_;intro K hK)|fail)
      all_goals skip
      have hcb:=eB.block (e8.block hh6A)
      refine iqA rfl rfl (setRow_heap wB b6 _ (qv qd).cells _ (0,0) hcb) rfl rfl rfl rfl (fun w5 e5=>?_)
      have hRB:=Rdr.setRow ((hRA.ext e8).ext eB) hcb (by decide) (by omega) (fun hq=>by
        have hlt:=(Own.lt h.rd.2.2.1 b6 hq).2
        omega) (qv qd).cells
      have hGB:=euA (aoA (aoA (arA e6 hGA) e8) eB) hb6 (qv qd).cells
      exact ⟨_,rfl,⟨_,(Cn.setRow (Cn.ext hcn (e8.trans eB)) hcb ⟨by decide,by decide,by decide⟩ (qv qd).cells).ext e5⟩,hRB.ext e5,aoA hGB e5⟩
    · have hbf:deA q false=flG (fun x=>leS x 8) (wordsOf q):=by unfold deA;rw [if_neg (by decide),if_neg h4]
      have hbl:(deA q false).length=8 * (wordsOf q).length:=by rw [hbf,diA _ (fun x=>b4A x 8)];omega
      have hcall:∀ w',Ext w w' → Fc Tryz.prog 92 #[.pointer (some ⟨br,0,none⟩),.int .i64 (cnt q 65536:Nat)] w' (fun en w''=>∃ v,en=.returned (.tuple #[v,.bool true]) ∧ Cn TT w'' v q 2 ∧ Rdr base w'' br bc sl ys (pos + (deA q false).length) 0 ∧ w'.grownBy w'' (some bc)):=fun w' e=>by
        have hu:∀ x ∈ wordsOf q,0 ≤ x ∧ x < 18446744073709551616:=fun x hx=>c0A q x hx
        have:=wmA (h.ext e) (by rw [← hbf];exact hA) hu (by rw [b6A];decide) rfl hp (b6A q) (cnt q 65536:Nat)
        rw [hbl];exact this
      refine Fc.of (args:=[_,_,_]) Tryz.func56 rfl rfl Tryz.ntmps56 (Nat.le_of_ble_eq_true rfl) ?_
      repeat' (first|(refine oLA ?_;first|refine a0A rfl ?_|(refine oD 6 ?_;refine a4A (hK _ _ (hbA rfl (by decide) (fun _=>rfl) (fun b6 w6 e6 hb6 hh6=>?_)));clear hK K;refine aeA (by kernel_rfl) (fun K hK=>?_))|(refine oD 11 ?_;refine eaA rfl rfl ?_)|(refine oD 15 ?_;refine eaA rfl rfl ?_)|(refine oD 20 ?_;refine eaA rfl rfl ?_)|(refine oD 24 ?_;refine a4A (hK _ _ (itA rfl (by decide) rfl rfl (fun v w'=>∃ qd:Qd,v=.tuple #[qv qd,.bool true] ∧ (∀ u ∈ qcs qd,u.oneCell'=true) ∧ Cn TT w' (qv qd) q 2 ∧ Rdr base w' br bc sl ys (pos + (deA q false).length) 0 ∧ w6.grownBy w' (some bc)) (fun w8 e8=>(hcall w8 (e6.trans e8)).mono (fun en w' h=>?_)) (fun vv wA hAA=>?_)));clear hK K)|refine wOp ?_|(refine wCm ?_ ?_<;>intro hc)|(refine wNl hK ?_;clear hK K))|refine wG ?_|(refine wCR ?_;intro K hK)|fail)
      all_goals skip
      · obtain ⟨u,h1,h2,h3,h4⟩:=h
        obtain ⟨qd,rfl,hone⟩:=h2.qd
        exact ⟨_,h1,qd,rfl,hone,h2,h3,arA e8 h4⟩
      obtain ⟨qd,rfl,hone,hcn,hRA,hGA⟩:=hAA
      have hh6A:=(Fr.grown hGA).at hh6 (fun e=>by cases e;omega)
      refine aeA (by kernel_rfl) (fun K hK=>?_)
      repeat' (first|(refine oLA ?_;first|refine a0A rfl ?_|(refine oD 25 ?_;refine ceA rfl rfl ?_)|(refine oD 26 ?_;refine cdA rfl rfl ?_)|(refine oD 8 ?_;refine a4A (hK _ _ (cbA rfl rfl (by decide) (fun _=>rfl) (fun _=>rfl) (fun _=>rfl) rfl hone (fun b8 w8 e8 hb8 hh8=>?_)));clear hK K;refine aeA (by kernel_rfl) (fun K hK=>?_))|(refine oLt 96 ?_;refine bnA (n:=4) rfl hh8 rfl rfl (fun _=>rfl) (fun _=>rfl) ?_)|(refine a4A (hK _ _ (d5A (c:=qv qd) rfl rfl rfl (e8.block hh6A) (fun _=>rfl) rfl hone (fun wB eB=>?_)));clear hK K;dsimp only [LA.vals];refine aeA (by kernel_rfl) (fun K hK=>?_))|refine wOp ?_|(refine wCm ?_ ?_<;>intro hc)|(refine oCv ?_;first|(refine oC 65 ?_;refine a2A (f:=65) rfl rfl rfl  (.val (.int .i64 (cnt q 65536:Nat))) (by intro u1 w e hu1;(try obtain rfl:u1=_:=hu1);exact g6A (Cn.ext hcn (e8.trans e))) ?_)|(refine oC 53 ?_;refine a3A (f:=53) rfl rfl rfl rfl  (.val (.bool true)) (by intro u1 u2 w e hu1 hu2;(try obtain rfl:u1=_:=hu1);(try obtain rfl:u2=_:=hu2);exact e2A ((hRA.ext e8).ext e)) ?_))|(refine wNl hK ?_;clear hK K))|refine wG ?_|(refine wCR ?_;intro K hK)|fail)
      all_goals skip
      have hcb:=eB.block (e8.block hh6A)
      refine iqA rfl rfl (setRow_heap wB b6 _ (qv qd).cells _ (0,0) hcb) rfl rfl rfl rfl (fun w5 e5=>?_)
      have hRB:=Rdr.setRow ((hRA.ext e8).ext eB) hcb (by decide) (by omega) (fun hq=>by
        have hlt:=(Own.lt h.rd.2.2.1 b6 hq).2
        omega) (qv qd).cells
      have hGB:=euA (aoA (aoA (arA e6 hGA) e8) eB) hb6 (qv qd).cells
      exact ⟨_,rfl,⟨_,(Cn.setRow (Cn.ext hcn (e8.trans eB)) hcb ⟨by decide,by decide,by decide⟩ (qv qd).cells).ext e5⟩,hRB.ext e5,aoA hGB e5⟩
end Go.Proofs.YtbokphkfojijoaaGreatDoor.Pt
end
section
set_option linter.unusedSimpArgs false
set_option linter.unusedVariables false
set_option maxRecDepth 3000
namespace Go.Proofs.YtbokphkfojijoaaGreatDoor.Pt
open Go.LA Go.ArrP Go.RowKit
theorem ttA (a b:Int) (ha:0 ≤ a) (ha2:a < 65536) (hb:0 ≤ b):leS a 2 ++ leS b 2=leS (a + 65536 * b) 4:=by
  simp only [leS,List.cons_append,List.nil_append]
  have h1:(a + 65536 * b) % 256=a % 256:=by omega
  have h2:(a + 65536 * b) / 256 % 256=a / 256 % 256:=by omega
  have h3:(a + 65536 * b) / 256 / 256=b:=by omega
  rw [h1,h2,h3]
theorem rwA {base b at_:Nat} {w:World} {sl:Value} {xs l:List Int} (h:RdI base w b sl xs at_) (hA:AtB xs at_ l) :
    Fc Tryz.prog 87 #[.pointer (some ⟨b,0,none⟩),.int .i64 l.length] w (fun en w'=>∃ v,en=.returned v ∧ OwnI w.heap.size tB .u8 w' v l ∧ RdI base w' b sl xs (at_ + l.length) ∧ w.grownBy w' (some b)):=by
  have hle:=hA.le
  have hxl:=h.2.2.2.2.2
  have hcut:=odA hA rfl
  refine Fc.of (args:=[_,_]) Tryz.func87 rfl rfl Tryz.ntmps87 (Nat.le_of_ble_eq_true rfl) ?_
  repeat' (first|(refine oLA ?_;first|refine a0A rfl ?_|(refine oD 7 ?_;refine a4A (hK _ _ (e7A rfl (by decide) rfl rfl rfl (fun sub w'=>RdI base w' b sl xs (at_ + l.length) ∧ w.grownBy w' (some b) ∧ SlI .u8 w' sub l) (fun w2 e2=>(vrA w2 base b sl xs at_ l.length (h.ext e2) hle).mono (fun en w' ⟨sub,h1,h2,h3,h4⟩=>⟨sub,h1,h2,arA e2 h3,by rw [hcut] at h4;exact h4⟩)) (fun sub w3 hr=>?_)));clear hK K;obtain ⟨hr1,hr2,hr3⟩:=hr;refine aeA (by kernel_rfl) (fun K hK=>?_))|refine wOp ?_|(refine wCm ?_ ?_<;>intro hc)|(refine oCv ?_;first|(refine oC 86 ?_;refine a2A (f:=86) rfl rfl rfl  (.pred (bfA w3.heap.size tB .u8 l)) (by intro u1 w e hu1;(try obtain rfl:u1=_:=hu1);exact (mtA _ _ l (hr3.ext e) (by omega)).mono (aaA e.size)) ?_))|(refine wNl hK ?_;clear hK K))|refine wG ?_|(refine wCR ?_;intro K hK)|fail)
  all_goals skip
  refine bxA rfl (fun v5 w5 e5 h5=>?_)
  exact ⟨v5,rfl,Own.base h5 (Fr.grown hr2).size,hr1.ext e5,aoA hr2 e5⟩
end Go.Proofs.YtbokphkfojijoaaGreatDoor.Pt
end
section
set_option linter.unusedSimpArgs false
set_option linter.unusedVariables false
set_option maxRecDepth 3000
namespace Go.Proofs.YtbokphkfojijoaaGreatDoor.Pt
open Go.LA Go.ArrP Go.RowKit
theorem rdA (f:Nat → Bool):∀ n,e6A f n=false → fB f n=0
  | 0,_=>rfl
  | n + 1,h=>by
    simp only [e6A,Bool.or_eq_false_iff] at h
    simp only [fB,rdA f n h.1,h.2];rfl
set_option maxHeartbeats 4000000 in
theorem rkA {base br bc pos:Nat} {w:World} {sl:Value} {ys:List Int} {n:Nat} {f:Nat → Bool} (h:Rdr base w br bc sl ys pos 0) (hn:n ≤ 8) (ha:e6A f n=false) (hA:AtB ys pos (ddA n f)) :
    Fc Tryz.prog 50 #[.pointer (some ⟨br,0,none⟩)] w (fun en w'=>∃ fv fl,en=.returned (.tuple #[.int .i64 n,fv,.bool true]) ∧ OwnI w.heap.size tB .u8 w' fv fl ∧ fl.length=(n + 7) / 8 ∧ (0 < n → fl.getD 0 0=(fB f n:Int)) ∧ Rdr base w' br bc sl ys (pos + (ddA n f).length) 0 ∧ w.grownBy w' (some bc)):=by
  have hck:ddA n f=leS 12346 4 ++ leS n 4:=by unfold ddA;rw [ha,if_neg (by decide)]
  rw [hck] at hA ⊢
  have hA0:=hA.left
  have hA1:=hA.right
  rw [b4A] at hA1
  have hle0:=hA0.le
  have hle1:=hA1.le
  rw [b4A] at hle0 hle1
  rw [List.length_append,b4A,b4A]
  have hhas:∀ w',Ext w w' → Fc Tryz.prog 51 #[.pointer (some ⟨br,0,none⟩),.int .i64 4] w' (Ret w' (.val (.bool true))):=fun w' e=>ghA (n:=4) (h.ext e) hle0
  have hrr:=h.hr
  refine Fc.of (args:=[_]) Tryz.func50 rfl rfl Tryz.ntmps50 (Nat.le_of_ble_eq_true rfl) ?_
  repeat' (first|(refine oLA ?_;first|refine a0A rfl ?_|(refine oNc ?_;refine a8A rfl rfl ?_)|(refine oF 0 ?_;refine a1A (a':=⟨br,0,none⟩) rfl rfl (fun _=>rfl) ?_)|(refine oD 13 ?_;refine a5A (c:=.pointer (some ⟨bc,0,none⟩)) rfl (fun _=>rfl) rfl hrr rfl ?_)|(refine oD 14 ?_;refine a4A (hK _ _ (c3A rfl (by decide) rfl rfl (fun v w'=>v=.int .u32 12346 ∧ RdI base w' bc sl ys (pos + 4) ∧ w.grownBy w' (some bc)) (fun w8 e8=>(l0A w8 base bc sl ys _ 12346 (h.rd.ext e8) h.hy hA0 (by decide) (by decide)).mono fun en w' h=>⟨_,h.1,rfl,h.2.1,arA e8 h.2.2⟩) (fun vv wA hAA=>?_)));clear hK K;obtain ⟨rfl,hB1,hB2⟩:=hAA;dsimp only [LA.vals];have hR1:=h.step hB1 hB2;have hr1:=hR1.hr;refine aeA (by kernel_rfl) (fun K hK=>?_))|(refine oD 24 ?_;refine a5A (c:=.pointer (some ⟨bc,0,none⟩)) rfl (fun _=>rfl) rfl hr1 rfl ?_)|(refine oD 25 ?_;refine a4A (hK _ _ (c3A rfl (by decide) rfl rfl (fun v w'=>v=.int .u32 n ∧ RdI base w' bc sl ys (pos + 4 + 4) ∧ wA.grownBy w' (some bc)) (fun w8 e8=>(l0A w8 base bc sl ys _ n (hR1.rd.ext e8) h.hy hA1 (by omega) (by omega)).mono fun en w' h=>⟨_,h.1,rfl,h.2.1,arA e8 h.2.2⟩) (fun vv wB hBB=>?_)));clear hK K;obtain ⟨rfl,hC1,hC2⟩:=hBB;dsimp only [LA.vals];have hR2:=hR1.step hC1 hC2;refine aeA (by kernel_rfl) (fun K hK=>?_))|refine dxA rfl rfl rfl ?_|(refine oD 35 ?_;refine duA rfl rfl rfl (by omega) (by omega) (by dsimp only [fits];omega) ?_;rw [show (min (n:Int) 65536 + 7) / 8=(((n + 7) / 8:Nat):Int) by omega])|(refine oD 36 ?_;refine e8A (n:=(n + 7) / 8) rfl jqA rfl rfl (by omega) (by omega) ?_)|refine wOp ?_|(refine wCm ?_ ?_<;>intro hc)|(refine oCv ?_;first|(refine oD 8 ?_;refine oC 51 ?_;refine a3A (f:=51) rfl rfl rfl rfl  (.val (.bool true)) (by intro u1 u2 w e hu1 hu2;(try obtain rfl:u1=_:=hu1);(try obtain rfl:u2=_:=hu2);exact hhas _ e) ?_)|(refine oD 19 ?_;refine oC 51 ?_;refine a3A (f:=51) rfl rfl rfl rfl  (.val (.bool true)) (by intro u1 u2 w e hu1 hu2;(try obtain rfl:u1=_:=hu1);(try obtain rfl:u2=_:=hu2);exact ghA (n:=4) (hR1.ext e) hle1) ?_)|(refine oC 53 ?_;refine a3A (f:=53) rfl rfl rfl rfl  (.val (.bool true)) (by intro u1 u2 w e hu1 hu2;(try obtain rfl:u1=_:=hu1);(try obtain rfl:u2=_:=hu2);exact e2A (hR2.ext e)) ?_))|(refine wNl hK ?_;clear hK K))|refine wG ?_|(refine wCR ?_;intro K hK)|fail)
  all_goals skip
  refine gyA rfl (fun v5 v6 v7 w5 e5 h5 h6 h7=>?_)
  obtain rfl:v5=_:=h5
  obtain rfl:v7=_:=h7
  exact ⟨v6,_,rfl,Own.base h6 (Nat.le_trans (Fr.grown hB2).size (Fr.grown hC2).size),List.length_replicate,fun hp=>by rw [rdA f n ha,show (n + 7) / 8=((n + 7) / 8 - 1) + 1 by omega,List.replicate_succ];rfl,hR2.ext e5,aoA (d2A hB2 hC2) e5⟩
theorem and16 (a:Nat) (ha:a < 4294967296):bits .and .u32 (a:Int) 65535=((a % 65536:Nat):Int):=by
  have h:=u32_and_nat a 65535 ha (by decide)
  rw [show ((65535:Nat):Int)=65535 from rfl] at h
  rw [h,show (65535:Nat)=2 ^ 16 - 1 by decide,Nat.and_two_pow_sub_one_eq_mod]
set_option maxHeartbeats 4000000 in
theorem p9A {base br bc pos:Nat} {w:World} {sl:Value} {ys:List Int} {n:Nat} {f:Nat → Bool} (h:Rdr base w br bc sl ys pos 0) (hn:n ≤ 8) (ha:e6A f n=true) (hA:AtB ys pos (ddA n f)) :
    Fc Tryz.prog 50 #[.pointer (some ⟨br,0,none⟩)] w (fun en w'=>∃ fv fl,en=.returned (.tuple #[.int .i64 n,fv,.bool (decide (4 ≤ n))]) ∧ OwnI w.heap.size tB .u8 w' fv fl ∧ fl.length=(n + 7) / 8 ∧ (0 < n → fl.getD 0 0=(fB f n:Int)) ∧ Rdr base w' br bc sl ys (pos + (ddA n f).length) 0 ∧ w.grownBy w' (some bc)):=by
  have hn0:=ioA ha
  have hfl:=p7A f n
  obtain ⟨V,hV⟩:∃ V,V=12347 + 65536 * (n - 1):=⟨_,rfl⟩
  obtain ⟨F,hF⟩:∃ F,F=fB f n:=⟨_,rfl⟩
  have hck:ddA n f=leS V 4 ++ [(F:Int)]:=by
    unfold ddA;rw [ha,if_pos rfl,← List.append_assoc,ttA _ _ (by decide) (by decide) (by omega),hV,hF,show (12347:Int) + 65536 * ((n - 1:Nat):Int)=((12347 + 65536 * (n - 1):Nat):Int) by omega]
  rw [hck] at hA ⊢
  rw [← hF] at hfl ⊢
  have hA0:=hA.left
  have hA1:=hA.right
  rw [b4A] at hA1
  have hle0:=hA0.le
  have hle1:=hA1.le
  rw [b4A] at hle0
  rw [List.length_singleton] at hle1
  rw [List.length_append,b4A,List.length_singleton]
  have hhas:∀ w',Ext w w' → Fc Tryz.prog 51 #[.pointer (some ⟨br,0,none⟩),.int .i64 4] w' (Ret w' (.val (.bool true))):=fun w' e=>ghA (n:=4) (h.ext e) hle0
  have hrr:=h.hr
  have hand:bits .and .u32 (V:Int) 65535=12347:=by rw [and16 V (by omega),show V % 65536=12347 by omega];rfl
  have hshr:(V:Int) / 2 ^ Int.toNat 16=((n - 1:Nat):Int):=by rw [show (2:Int) ^ Int.toNat 16=65536 by decide];omega
  have hF0:n < 8 → (F:Int) / 2 ^ Int.toNat (n:Int)=0:=fun _=>by
    rw [Int.toNat_natCast];norm_cast;exact Nat.div_eq_of_lt hfl
  have hF8:F < 256:=Nat.lt_of_lt_of_le hfl (Nat.pow_le_pow_right (by decide) hn:2 ^ n ≤ 2 ^ 8)
  rcases Nat.lt_or_ge n 8 with hn8 | hn8
  · replace hF0:=hF0 hn8
    refine Fc.of (args:=[_]) Tryz.func50 rfl rfl Tryz.ntmps50 (Nat.le_of_ble_eq_true rfl) ?_
    repeat' (first|(refine oLA ?_;first|refine a0A rfl ?_|(refine oNc ?_;refine a8A rfl rfl ?_)|(refine oF 0 ?_;refine a1A (a':=⟨br,0,none⟩) rfl rfl (fun _=>rfl) ?_)|(refine oD 13 ?_;refine a5A (c:=.pointer (some ⟨bc,0,none⟩)) rfl (fun _=>rfl) rfl hrr rfl ?_)|(refine oD 14 ?_;refine a4A (hK _ _ (c3A rfl (by decide) rfl rfl (fun v w'=>v=.int .u32 V ∧ RdI base w' bc sl ys (pos + 4) ∧ w.grownBy w' (some bc)) (fun w8 e8=>(l0A w8 base bc sl ys _ V (h.rd.ext e8) h.hy hA0 (by omega) (by omega)).mono fun en w' h=>⟨_,h.1,rfl,h.2.1,arA e8 h.2.2⟩) (fun vv wA hAA=>?_)));clear hK K;obtain ⟨rfl,hB1,hB2⟩:=hAA;dsimp only [LA.vals];have hR1:=h.step hB1 hB2;have hr1:=hR1.hr;refine aeA (by kernel_rfl) (fun K hK=>?_))|(refine oD 40 ?_;refine bzA (.inl rfl) rfl rfl rfl ?_;rw [hand])|(refine oD 45 ?_;refine hyA rfl rfl rfl ?_;rw [hshr])|(refine oD 47 ?_;refine avA rfl rfl rfl (by dsimp only [fits];omega) ?_;rw [show ((n - 1:Nat):Int) + 1=(n:Int) by omega])|(refine oD 51 ?_;refine duA rfl rfl rfl (by omega) (by omega) (by dsimp only [fits];omega) ?_;rw [show ((n:Int) + 7) / 8=((1:Nat):Int) by omega])|(refine oD 60 ?_;refine duA rfl rfl rfl (by omega) (by omega) (by dsimp only [fits];omega) ?_;rw [show ((n:Int) + 7) / 8=((1:Nat):Int) by omega])|(refine oD 57 ?_;refine a5A (c:=.pointer (some ⟨bc,0,none⟩)) rfl (fun _=>rfl) rfl hr1 rfl ?_)|(refine oD 61 ?_;refine a4A (hK _ _ (e7A rfl (by decide) rfl rfl rfl (fun v w'=>OwnI w.heap.size tB .u8 w' v [(F:Int)] ∧ RdI base w' bc sl ys (pos + 4 + 1) ∧ wA.grownBy w' (some bc)) (fun w8 e8=>(rwA (l:=[(F:Int)]) (hR1.rd.ext e8) hA1).mono fun en w' ⟨v,g1,g2,g3,g4⟩=>⟨v,g1,Own.base g2 (Nat.le_trans (Fr.grown hB2).size e8.size),g3,arA e8 g4⟩) (fun vv wB hBB=>?_)));clear hK K;obtain ⟨hs2,hC1,hC2⟩:=hBB;dsimp only [LA.vals];have hR2:=hR1.step hC1 hC2;refine aeA (by kernel_rfl) (fun K hK=>?_))|(refine oD 64 ?_;refine f8A rfl rfl rfl (by omega) (by omega) (by dsimp only [fits];omega) ?_;first | rw [show (n:Int) % 8=(n:Int) by omega] | rw [show (n:Int) % 8=0 by omega])|(refine oD 69 ?_;refine duA rfl rfl rfl (by omega) (by omega) (by dsimp only [fits];omega) ?_;rw [show (n:Int) / 8=((0:Nat):Int) by omega])|(refine oD 70 ?_;refine acA rfl _ rfl (fun _=>rfl) rfl (HasI.ownV hs2) rfl (by simp) ?_;rw [List.getD_cons_zero])|(refine oD 73 ?_;refine f8A rfl rfl rfl (by omega) (by omega) (by dsimp only [fits];omega) ?_;rw [show (n:Int) % 8=(n:Int) by omega])|(refine oD 74 ?_;refine hyA rfl rfl rfl ?_;rw [hF0])|refine wOp ?_|(refine wCm ?_ ?_<;>intro hc)|(refine oCv ?_;first|(refine oD 8 ?_;refine oC 51 ?_;refine a3A (f:=51) rfl rfl rfl rfl  (.val (.bool true)) (by intro u1 u2 w e hu1 hu2;(try obtain rfl:u1=_:=hu1);(try obtain rfl:u2=_:=hu2);exact hhas _ e) ?_)|(refine oD 42 ?_;refine oC 53 ?_;refine a3A (f:=53) rfl rfl rfl rfl  (.val (.bool true)) (by intro u1 u2 w e hu1 hu2;(try obtain rfl:u1=_:=hu1);(try obtain rfl:u2=_:=hu2);exact e2A (hR1.ext e)) ?_)|(refine oD 52 ?_;refine oC 51 ?_;refine a3A (f:=51) rfl rfl rfl rfl  (.val (.bool true)) (by intro u1 u2 w e hu1 hu2;(try obtain rfl:u1=_:=hu1);(try obtain rfl:u2=_:=hu2);exact ghA (n:=1) (hR1.ext e) hle1) ?_)|(refine oD 77 ?_;refine oC 53 ?_;refine a3A (f:=53) rfl rfl rfl rfl  (.val (.bool true)) (by intro u1 u2 w e hu1 hu2;(try obtain rfl:u1=_:=hu1);(try obtain rfl:u2=_:=hu2);exact e2A (hR2.ext e)) ?_))|(refine wNl hK ?_;clear hK K))|refine wG ?_|(refine wCR ?_;intro K hK)|fail)
    all_goals skip
    all_goals
      refine gyA rfl (fun v5 v6 v7 w5 e5 h5 h6 h7=>?_)
      obtain rfl:v5=_:=h5
      obtain rfl:v6=_:=h6
      obtain rfl:v7=_:=h7
      exact ⟨_,[(F:Int)],by first | rw [decide_eq_true (show 4 ≤ n by omega)] | rw [decide_eq_false (show ¬ 4 ≤ n by omega)],hs2.ext e5,by rw [List.length_singleton];omega,fun _=>rfl,hR2.ext e5,aoA (d2A hB2 hC2) e5⟩
  · refine Fc.of (args:=[_]) Tryz.func50 rfl rfl Tryz.ntmps50 (Nat.le_of_ble_eq_true rfl) ?_
    repeat' (first|(refine oLA ?_;first|refine a0A rfl ?_|(refine oNc ?_;refine a8A rfl rfl ?_)|(refine oF 0 ?_;refine a1A (a':=⟨br,0,none⟩) rfl rfl (fun _=>rfl) ?_)|(refine oD 13 ?_;refine a5A (c:=.pointer (some ⟨bc,0,none⟩)) rfl (fun _=>rfl) rfl hrr rfl ?_)|(refine oD 14 ?_;refine a4A (hK _ _ (c3A rfl (by decide) rfl rfl (fun v w'=>v=.int .u32 V ∧ RdI base w' bc sl ys (pos + 4) ∧ w.grownBy w' (some bc)) (fun w8 e8=>(l0A w8 base bc sl ys _ V (h.rd.ext e8) h.hy hA0 (by omega) (by omega)).mono fun en w' h=>⟨_,h.1,rfl,h.2.1,arA e8 h.2.2⟩) (fun vv wA hAA=>?_)));clear hK K;obtain ⟨rfl,hB1,hB2⟩:=hAA;dsimp only [LA.vals];have hR1:=h.step hB1 hB2;have hr1:=hR1.hr;refine aeA (by kernel_rfl) (fun K hK=>?_))|(refine oD 40 ?_;refine bzA (.inl rfl) rfl rfl rfl ?_;rw [hand])|(refine oD 45 ?_;refine hyA rfl rfl rfl ?_;rw [hshr])|(refine oD 47 ?_;refine avA rfl rfl rfl (by dsimp only [fits];omega) ?_;rw [show ((n - 1:Nat):Int) + 1=(n:Int) by omega])|(refine oD 51 ?_;refine duA rfl rfl rfl (by omega) (by omega) (by dsimp only [fits];omega) ?_;rw [show ((n:Int) + 7) / 8=((1:Nat):Int) by omega])|(refine oD 60 ?_;refine duA rfl rfl rfl (by omega) (by omega) (by dsimp only [fits];omega) ?_;rw [show ((n:Int) + 7) / 8=((1:Nat):Int) by omega])|(refine oD 57 ?_;refine a5A (c:=.pointer (some ⟨bc,0,none⟩)) rfl (fun _=>rfl) rfl hr1 rfl ?_)|(refine oD 61 ?_;refine a4A (hK _ _ (e7A rfl (by decide) rfl rfl rfl (fun v w'=>OwnI w.heap.size tB .u8 w' v [(F:Int)] ∧ RdI base w' bc sl ys (pos + 4 + 1) ∧ wA.grownBy w' (some bc)) (fun w8 e8=>(rwA (l:=[(F:Int)]) (hR1.rd.ext e8) hA1).mono fun en w' ⟨v,g1,g2,g3,g4⟩=>⟨v,g1,Own.base g2 (Nat.le_trans (Fr.grown hB2).size e8.size),g3,arA e8 g4⟩) (fun vv wB hBB=>?_)));clear hK K;obtain ⟨hs2,hC1,hC2⟩:=hBB;dsimp only [LA.vals];have hR2:=hR1.step hC1 hC2;refine aeA (by kernel_rfl) (fun K hK=>?_))|(refine oD 64 ?_;refine f8A rfl rfl rfl (by omega) (by omega) (by dsimp only [fits];omega) ?_;first | rw [show (n:Int) % 8=(n:Int) by omega] | rw [show (n:Int) % 8=0 by omega])|(refine oD 69 ?_;refine duA rfl rfl rfl (by omega) (by omega) (by dsimp only [fits];omega) ?_;rw [show (n:Int) / 8=((0:Nat):Int) by omega])|(refine oD 70 ?_;refine acA rfl _ rfl (fun _=>rfl) rfl (HasI.ownV hs2) rfl (by simp) ?_;rw [List.getD_cons_zero])|(refine oD 73 ?_;refine f8A rfl rfl rfl (by omega) (by omega) (by dsimp only [fits];omega) ?_;rw [show (n:Int) % 8=(n:Int) by omega])|(refine oD 74 ?_;refine hyA rfl rfl rfl ?_;rw [hF0])|refine wOp ?_|(refine wCm ?_ ?_<;>intro hc)|(refine oCv ?_;first|(refine oD 8 ?_;refine oC 51 ?_;refine a3A (f:=51) rfl rfl rfl rfl  (.val (.bool true)) (by intro u1 u2 w e hu1 hu2;(try obtain rfl:u1=_:=hu1);(try obtain rfl:u2=_:=hu2);exact hhas _ e) ?_)|(refine oD 42 ?_;refine oC 53 ?_;refine a3A (f:=53) rfl rfl rfl rfl  (.val (.bool true)) (by intro u1 u2 w e hu1 hu2;(try obtain rfl:u1=_:=hu1);(try obtain rfl:u2=_:=hu2);exact e2A (hR1.ext e)) ?_)|(refine oD 52 ?_;refine oC 51 ?_;refine a3A (f:=51) rfl rfl rfl rfl  (.val (.bool true)) (by intro u1 u2 w e hu1 hu2;(try obtain rfl:u1=_:=hu1);(try obtain rfl:u2=_:=hu2);exact ghA (n:=1) (hR1.ext e) hle1) ?_)|(refine oD 77 ?_;refine oC 53 ?_;refine a3A (f:=53) rfl rfl rfl rfl  (.val (.bool true)) (by intro u1 u2 w e hu1 hu2;(try obtain rfl:u1=_:=hu1);(try obtain rfl:u2=_:=hu2);exact e2A (hR2.ext e)) ?_))|(refine wNl hK ?_;clear hK K))|refine wG ?_|(refine wCR ?_;intro K hK)|fail)
    all_goals skip
    all_goals
      refine gyA rfl (fun v5 v6 v7 w5 e5 h5 h6 h7=>?_)
      obtain rfl:v5=_:=h5
      obtain rfl:v6=_:=h6
      obtain rfl:v7=_:=h7
      exact ⟨_,[(F:Int)],by first | rw [decide_eq_true (show 4 ≤ n by omega)] | rw [decide_eq_false (show ¬ 4 ≤ n by omega)],hs2.ext e5,by rw [List.length_singleton];omega,fun _=>rfl,hR2.ext e5,aoA (d2A hB2 hC2) e5⟩
theorem ueA {base br bc pos:Nat} {w:World} {sl:Value} {ys:List Int} {n:Nat} {f:Nat → Bool} (h:Rdr base w br bc sl ys pos 0) (hn:n ≤ 8) (hA:AtB ys pos (ddA n f)) :
    Fc Tryz.prog 50 #[.pointer (some ⟨br,0,none⟩)] w (fun en w'=>∃ fv fl,en=.returned (.tuple #[.int .i64 n,fv,.bool (decide (¬ (e6A f n=true ∧ n < 4)))]) ∧ OwnI w.heap.size tB .u8 w' fv fl ∧ fl.length=(n + 7) / 8 ∧ (0 < n → fl.getD 0 0=(fB f n:Int)) ∧ Rdr base w' br bc sl ys (pos + (ddA n f).length) 0 ∧ w.grownBy w' (some bc)):=by
  cases ha:e6A f n with
  | true =>
    have hd:decide (¬ (true=true ∧ n < 4))=decide (4 ≤ n):=by by_cases h4:4 ≤ n <;> simp [h4]
    rw [hd]
    exact p9A h hn ha hA
  | false =>
    have hd:decide (¬ (false=true ∧ n < 4))=true:=by simp
    rw [hd]
    exact rkA h hn ha hA
end Go.Proofs.YtbokphkfojijoaaGreatDoor.Pt
end
section
set_option linter.unusedSimpArgs false
set_option linter.unusedVariables false
set_option maxRecDepth 3000
namespace Go.Proofs.YtbokphkfojijoaaGreatDoor.Pt
open Go.LA Go.ArrP Go.RowKit
theorem lkA {base br bc pos:Nat} {w:World} {sl:Value} {ys:List Int} (h:Rdr base w br bc sl ys pos 0) (hs:ys.length < pos + 4) :
    Fc Tryz.prog 50 #[.pointer (some ⟨br,0,none⟩)] w (fun en w'=>en=.returned (.tuple #[.int .i64 0,nilS,.bool false]) ∧ Rdr base w' br bc sl ys pos 4 ∧ w.grownBy w' (some br)):=by
  have hno:∀ w8,Ext w w8 → Fc Tryz.prog 51 #[.pointer (some ⟨br,0,none⟩),.int .i64 4] w8 (fun en w'=>∃ v,en=.returned v ∧ (v=.bool false ∧ Rdr base w' br bc sl ys pos 4 ∧ w.grownBy w' (some br))):=fun w8 e8=>(aqB (n:=4) (h.ext e8) hs (by decide)).mono (fun en w' ⟨g1,g2,g3⟩=>⟨_,g1,rfl,g2,arA e8 g3⟩)
  refine Fc.of (args:=[_]) Tryz.func50 rfl rfl Tryz.ntmps50 (Nat.le_of_ble_eq_true rfl) ?_
  repeat' (first|(refine oLA ?_;first|refine a0A rfl ?_|(refine oD 8 ?_;refine a4A (hK _ _ (e7A rfl (by decide) rfl rfl rfl (fun v w'=>v=.bool false ∧ Rdr base w' br bc sl ys pos 4 ∧ w.grownBy w' (some br)) (fun w8 e8=>hno w8 e8) (fun vv wA hAA=>?_)));clear hK K;obtain ⟨rfl,hB1,hB2⟩:=hAA;dsimp only [LA.vals];refine aeA (by kernel_rfl) (fun K hK=>?_))|refine wOp ?_|(refine wCm ?_ ?_<;>intro hc)|(refine wNl hK ?_;clear hK K))|refine wG ?_|(refine wCR ?_;intro K hK)|fail)
  all_goals skip
  refine gyA rfl (fun v5 v6 v7 w5 e5 h5 h6 h7=>?_)
  obtain rfl:v5=_:=h5
  obtain rfl:v6=_:=h6
  obtain rfl:v7=_:=h7
  exact ⟨rfl,hB1.ext e5,aoA hB2 e5⟩
theorem rzA (bc:Nat) (w:World):(Instr.build 85 #[(0,.pointer (some ⟨bc,0,none⟩))]).run Tryz.prog w=.ok (.agg #[.pointer (some ⟨bc,0,none⟩),.int .i64 0]) w:=run_build w _ _ _ (by rfl)
theorem read_short {w:World} {v:Value} {ys:List Int} (h:SlI .u8 w v ys) (hl:ys.length ≤ 1000000000) :
    Fc Tryz.prog 15 #[v,.int .i64 ys.length] w (Ret w (.tup3 (.val (.pointer none)) (.val (.int .i64 0)) (.val (.int .i64 4)))):=by
  have hlh:=h.len
  have hsub:SlI .u8 w (eoA v ys.length ys.length 1) []:=by
    have:=SlI.sub h (Nat.le_refl ys.length) (Nat.le_refl ys.length)
    rw [List.take_length,List.drop_length] at this;exact this
  refine Fc.of (args:=[_,_]) Tryz.func15 rfl rfl Tryz.ntmps15 (Nat.le_of_ble_eq_true rfl) ?_
  repeat' (first|(refine oLA ?_;first|refine a0A rfl ?_|(refine dkA ?_;refine azA rfl _ rfl rfl (HasI.val h).c ?_)|(refine oD 29 ?_;refine a4A (hK _ _ (c3A rfl (Nat.le_of_ble_eq_true rfl) rfl rfl (fun v' w'=>∃ b sl,v'=.pointer (some ⟨b,0,none⟩) ∧ Ext w w' ∧ RdI w.heap.size w' b sl [] 0) (fun w8 e8=>(new_c w8 _ [] (hsub.ext e8) (by decide)).mono fun en w' ⟨b,sl,g1,g2,g3⟩=>⟨_,g1,b,sl,rfl,e8.trans g2,⟨Nat.le_trans e8.size g3.1,g3.2.1,Own.base g3.2.2.1 e8.size,g3.2.2.2⟩⟩) (fun vv wA hAA=>?_)));clear hK K;obtain ⟨bc,sl,rfl,hxA,hrd⟩:=hAA;dsimp only [LA.vals];refine aeA (by kernel_rfl) (fun K hK=>?_))|(refine oD 30 ?_;refine fqA rfl rfl (rzA bc) ?_)|(refine oD 31 ?_;refine enA rfl rfl ?_)|(refine oD 33 ?_;refine a4A (hK _ _ (b8A 7 rfl (fun v7 w7 e7 h7=>?_)));clear hK K;obtain ⟨br,hbr,rfl,hbrc⟩:=h7;have hR:Rdr w.heap.size w7 br bc sl [] 0 0:=⟨Nat.le_trans hxA.size hbr,hbrc,hrd.ext e7,fun x hx=>by cases hx⟩;refine aeA (by kernel_rfl) (fun K hK=>cmA rfl rfl ?_))|(refine oD 34 ?_;refine a4A (hK _ _ (c3A rfl (Nat.le_of_ble_eq_true rfl) rfl rfl (fun v' w'=>v'=.tuple #[.int .i64 0,nilS,.bool false] ∧ Rdr w.heap.size w' br bc sl [] 0 4 ∧ w7.grownBy w' (some br)) (fun w8 e8=>(lkA (hR.ext e8) (by decide)).mono fun en w' ⟨g1,g2,g3⟩=>⟨_,g1,rfl,g2,arA e8 g3⟩) (fun vv wB hBB=>?_)));clear hK K;obtain ⟨rfl,hR2,hG⟩:=hBB;dsimp only [LA.vals];have hr2:=hR2.hr;refine aeA (by kernel_rfl) (fun K hK=>?_))|(refine oD 35 ?_;refine ovA rfl rfl ?_)|(refine oD 36 ?_;refine ouA rfl rfl ?_)|(refine oD 37 ?_;refine otA rfl rfl ?_)|(refine oNc ?_;refine a8A rfl rfl ?_)|(refine oF 1 ?_;refine a1A (a':=⟨br,1,none⟩) rfl rfl (fun _=>rfl) ?_)|(refine oD 46 ?_;refine a5A (c:=.int .i64 4) rfl (fun _=>rfl) rfl hr2 rfl ?_)|refine wOp ?_|(refine wCm ?_ ?_<;>intro hc)|(refine oCv ?_;first|(refine oD 41 ?_;refine oC 51 ?_;refine a3A (f:=51) rfl rfl rfl rfl  (.val (.bool false)) (by intro u1 u2 w e hu1 hu2;(try obtain rfl:u1=_:=hu1);(try obtain rfl:u2=_:=hu2);exact y3A (n:=0) (hR2.ext e) (by decide)) ?_))|(refine wNl hK ?_;clear hK K))|refine wG ?_|(refine wCR ?_;intro K hK)|fail)
  all_goals skip
  have hx:Ext w wB:=Fr.ext (hxA.trans e7) (Fr.grown hG) (fun k hk=>by cases hk;exact Nat.le_trans hxA.size hbr)
  refine gyA rfl (fun v5 v6 v8 w5 e5 h5 h6 h8=>?_)
  exact ⟨_,rfl,hx.trans e5,v5,v6,v8,rfl,h5,h6,h8⟩
end Go.Proofs.YtbokphkfojijoaaGreatDoor.Pt
end
section
set_option linter.unusedSimpArgs false
set_option linter.unusedVariables false
set_option maxRecDepth 3000
namespace Go.Proofs.YtbokphkfojijoaaGreatDoor
open Go.LA Go.ArrP Go.RowKit
def f4A (ks:Nat → Nat) (qs:Nat → Nat → Bool):Nat → Nat → Bool
  | 0=>fun _=>false
  | i + 1=>upd (f4A ks qs i) (ks i) (qs i)
def Dir (ks:Nat → Nat) (qs:Nat → Nat → Bool) (n:Nat):Prop:=∀ i,i < n → 0 < cnt (qs i) 65536 ∧ (0 < i → ks (i - 1) < ks i)
theorem ibA {ks:Nat → Nat} {qs:Nat → Nat → Bool} {n:Nat} (hD:Dir ks qs n) (hq:∀ i,i < n → ∀ j,65536 ≤ j → qs i j=false):∀ i,i ≤ n → ∀ j,(0 < i → ks (i - 1) < j) → ne (f4A ks qs i) j=false
  | 0,_,j,_=>i8A j
  | i + 1,hi,j,hj=>by
    have h1:=hj (Nat.succ_pos i)
    rw [Nat.add_sub_cancel] at h1
    have h2:=ibA hD hq i (by omega) j (fun h=>by have:=(hD i (by omega)).2 h;omega)
    show ne (upd (f4A ks qs i) (ks i) (qs i)) j=false
    rw [upd_ne _ (hq i (by omega)) (hD i (by omega)).1,h2,decide_eq_false (by omega)];rfl
def joinR (d:Bool) (p:Nat → Bool):AD:=match d with
  | true=>.tup2 (.pred (rsP TT TT p)) (.val (.int .i64 0))
  | false=>.tup2 (.val (.pointer none)) (.val (.int .i64 2))
set_option maxHeartbeats 4000000 in
theorem ajB {w:World} {ka la:Value} {xs:List Int} {n:Nat} {Q:List Qd} {kn:Nat → Nat} {qs:Nat → Nat → Bool} {kks:Nat → Int} (hk:SlI .u16 w ka xs) (hl:SlC w la n 4 (clA Q)) (hn:xs.length=n) (hQ:Q.length=n) (hT:Tab w)
    (hkn:∀ i,i < n → kn i < 65536 ∧ xs.getD i 0=(kn i:Int)) (hc:∀ i,i < n → Cn TT w (qv (Q.getD i q0)) (qs i) (kks i)) (hqt:∀ i,i < n → ∀ j,65536 ≤ j → qs i j=false) (hn2:n ≤ 1000000) {d:Bool} (hd:d=true ↔ Dir kn qs n) :
    Fc Tryz.prog 57 #[ka,la] w (Ret w (joinR d (f4A kn qs n))):=by
  have hlh:=hl.len
  refine Fc.of (args:=[_,_]) Tryz.func57 rfl rfl Tryz.ntmps57 (Nat.le_of_ble_eq_true rfl) ?_
  repeat' (first|(refine oLA ?_;first|refine a0A rfl ?_|(refine oD 10 ?_;refine azA rfl _ rfl rfl (HasI.val hk).c ?_)|(refine oD 12 ?_;refine azA rfl _ rfl rfl (HasC.val hl) ?_)|(refine oD 16 ?_;refine azA rfl _ rfl rfl (HasC.val (hl.ext (Ext.refl _))) ?_)|refine wOp ?_|(refine wCm ?_ ?_<;>intro hc)|(refine oCv ?_;first|(refine oC 40 ?_;refine c4A (f:=40) rfl rfl  (.pred (rsP (fun k=>w.heap.size ≤ k) TT (fun _=>false))) (by intro w e;exact new_c _ (fun k hk=>Nat.le_trans e.size hk)) ?_))|(refine wNl hK ?_;clear hK K))|refine wG ?_|(refine wCR ?_;intro K hK)|fail)
  all_goals skip
  refine buA 6 rfl (fun v6 w6 e6 h6=>?_)
  obtain ⟨b,kv0,lv0,rfl,hS0,hB0⟩:=h6
  refine adA (ι:=Nat) (fun i=>[(0,.val ka),(1,.val la),(6,.val (.pointer (some ⟨b,0,none⟩))),(15,.val la),(16,.val (.int .i64 n)),(17,.val (.int .i64 i))])
    (fun i w'=>Ext w w' ∧ i ≤ n ∧ Dir kn qs i ∧ ∃ kv lv,RS TT w' b kv lv (f4A kn qs i) ∧ ∀ k,onw b kv lv k → w.heap.size ≤ k) (fun i=>n - i)
    (fun w' e=>⟨0,⟨e6.trans e,Nat.zero_le _,fun i hi=>absurd hi (Nat.not_lt_zero _),kv0,lv0,hS0.ext e,hB0⟩,(by repeat' (first | exact Sub.nil | refine Sub.val rfl (by first | with_reducible rfl | (congr 1;omega)) ?_ | refine Sub.same rfl ?_))⟩) ?_
  rintro i w1 ⟨he,hi,hDi,kv,lv,hS,hB⟩
  have hk1:=hk.ext he
  have hl1:=hl.ext he
  have hT1:=hT.ext he
  by_cases hil:i < n
  · have hat:=fjA Q i (by omega)
    obtain ⟨qd,hqd,hone⟩:=(hc i hil).qd
    have hqe:Q.getD i q0=qd:=qaA hqd
    rw [hqe] at hat
    have hcn:Cn (fun j=>j < w.heap.size) w1 (qv qd) (qs i) (kks i):=Cn.ext (Cn.mono (by rw [← hqe];exact hc i hil) fun j hj _=>hj) he
    obtain ⟨hk0,hki⟩:=hkn i hil
    have hlen:∀ w' u,Cn (fun j=>j < w.heap.size) w' u (qs i) (kks i) → _:=fun w' u h=>g6A h
    obtain ⟨c,hcc⟩:∃ c,c=cnt (qs i) 65536:=⟨_,rfl⟩
    rw [← hcc] at hlen
    have hnd:¬ (0 < cnt (qs i) 65536 ∧ (0 < i → kn (i - 1) < kn i)) → d=false:=fun h=>by
      cases hdd:d with
      | false=>rfl
      | true=>exact absurd (hd.1 hdd i hil) h
    by_cases h0:c=0
    · rw [hnd (fun h=>by omega)]
      clear hnd hd
      repeat' (first|(refine oLA ?_;first|refine a0A rfl ?_|(refine oD 20 ?_;refine boA (s:=4) rfl _ rfl (fun _=>rfl) rfl (HasC.val hl1) rfl i rfl (by omega) ?_;rw [hat])|(refine oD 21 ?_;refine aqA (cs:=qcs _) rfl (fun _=>rfl) (fun _=>rfl) rfl ?_)|(refine oD 8 ?_;refine a4A (hK _ _ (hbA rfl (by decide) (fun _=>rfl) (fun bv wv ev hbv hhv=>?_)));clear hK K;refine aeA (by kernel_rfl) (fun K hK=>?_))|(refine a4A (hK _ _ (d5A (c:=qv qd) rfl rfl rfl hhv (fun _=>rfl) rfl hone (fun wu eu=>?_)));clear hK K;dsimp only [LA.vals];have hh9:=setRow_heap wu bv _ (qv qd).cells _ (0,0) (eu.block hhv);have x8:=((Ext.refl w1).trans (ev.trans eu)).setRow hbv (qv qd).cells;obtain ⟨W8,hW8⟩:∃ W,W=wu.setRow bv (qv qd).cells:=⟨_,rfl⟩;rw [← hW8] at hh9 x8 ⊢;clear hW8;have hS8:=hS.ext x8;have hcn8:=Cn.ext hcn x8;have hcA:Cn (fun j=>TT j ∧ kv.ownBlock ≠ some j ∧ True) W8 (qv qd) (qs i) (kks i):=Cn.mono hcn8 (fun j _ hj=>⟨trivial,fun hkv=>by have:=hB j (.inr (.inl hkv));omega,trivial⟩);have hT8:=hT1.ext x8;have hFA:∀ w',Ext W8 w' → Fsh (fun j=>TT j ∧ kv.ownBlock ≠ some j ∧ True) w':=fun w' e j hj=>⟨trivial,fun hkv=>by have:=(Own.lt hS8.hk j hkv).2;have:=e.size;omega,trivial⟩;refine aeA (by kernel_rfl) (fun K hK=>?_))|(refine oLt 96 ?_;refine bnA (n:=4) rfl hh9 rfl rfl (fun _=>rfl) (fun _=>rfl) ?_)|(refine oD 36 ?_;refine acA rfl _ rfl (fun _=>rfl) rfl (HasI.val (hk1.ext x8)) rfl (by omega) ?_;rw [hki])|(refine oD 49 ?_;refine acA rfl _ rfl (fun _=>rfl) rfl (HasI.val (hk1.ext x8)) rfl (by omega) ?_;rw [hki])|(refine oNc ?_;refine a8A rfl rfl ?_)|(refine oF 0 ?_;refine a1A (a':=⟨b,0,none⟩) rfl rfl (fun _=>rfl) ?_)|(refine oF 1 ?_;refine a1A (a':=⟨b,1,none⟩) rfl rfl (fun _=>rfl) ?_)|(refine oLt 27 ?_;refine a5A (c:=kv) rfl (fun _=>rfl) rfl hS8.hb rfl ?_)|(refine oLt 92 ?_;refine a5A (c:=lv) rfl (fun _=>rfl) rfl hS8.hb rfl ?_)|(refine oD 51 ?_;refine d6A rfl czA rfl rfl ?_)|(refine oD 59 ?_;refine daA (base:=W8.heap.size) (Nat.le_refl _) rfl dbA rfl (fun v w e h=>h) ?_)|refine wOp ?_|(refine wCm ?_ ?_<;>intro hc)|(refine oCv ?_;first|(refine oC 65 ?_;refine a2A (f:=65) rfl rfl rfl  (.val (.int .i64 c)) (by intro u1 w e hu1;(try obtain rfl:u1=_:=hu1);exact hlen _ _ (Cn.ext hcn8 e)) ?_)|(refine oC 93 ?_;refine a2A (f:=93) rfl rfl rfl  (.pred (cnP (fun j=>TT j ∧ kv.ownBlock ≠ some j ∧ True) (qs i) (apA (qs i)))) (by intro u1 w e hu1;(try obtain rfl:u1=_:=hu1);exact d3A (Cn.ext hcA e) (hT8.ext e) (hFA _ e)) ?_))|(refine wNl hK ?_;clear hK K))|refine wG ?_|(refine wCR ?_;intro K hK)|fail)
      all_goals skip
      exact c2A rfl rfl rfl (he.trans x8) rfl rfl
    · rcases Nat.eq_zero_or_pos i with hi0 | hip
      · have hDn:Dir kn qs (i + 1):=fun j hj=>by
          obtain rfl:j=i:=by omega
          exact ⟨by omega,fun h=>by omega⟩
        clear hnd
        have hlast:∀ j,kn i ≤ j → ne (f4A kn qs i) j=false:=fun j hj=>ibA hDi (fun j hj=>hqt j (by omega)) i (Nat.le_refl _) j (fun h=>by omega)
        have hq0:0 < cnt (qs i) 65536:=by omega
        repeat' (first|(refine oLA ?_;first|refine wBk ?_|(refine oD 20 ?_;refine boA (s:=4) rfl _ rfl (fun _=>rfl) rfl (HasC.val hl1) rfl i rfl (by omega) ?_;rw [hat])|(refine oD 21 ?_;refine aqA (cs:=qcs _) rfl (fun _=>rfl) (fun _=>rfl) rfl ?_)|(refine oD 8 ?_;refine a4A (hK _ _ (hbA rfl (by decide) (fun _=>rfl) (fun bv wv ev hbv hhv=>?_)));clear hK K;refine aeA (by kernel_rfl) (fun K hK=>?_))|(refine a4A (hK _ _ (d5A (c:=qv qd) rfl rfl rfl hhv (fun _=>rfl) rfl hone (fun wu eu=>?_)));clear hK K;dsimp only [LA.vals];have hh9:=setRow_heap wu bv _ (qv qd).cells _ (0,0) (eu.block hhv);have x8:=((Ext.refl w1).trans (ev.trans eu)).setRow hbv (qv qd).cells;obtain ⟨W8,hW8⟩:∃ W,W=wu.setRow bv (qv qd).cells:=⟨_,rfl⟩;rw [← hW8] at hh9 x8 ⊢;clear hW8;have hS8:=hS.ext x8;have hcn8:=Cn.ext hcn x8;have hcA:Cn (fun j=>TT j ∧ kv.ownBlock ≠ some j ∧ True) W8 (qv qd) (qs i) (kks i):=Cn.mono hcn8 (fun j _ hj=>⟨trivial,fun hkv=>by have:=hB j (.inr (.inl hkv));omega,trivial⟩);have hT8:=hT1.ext x8;have hFA:∀ w',Ext W8 w' → Fsh (fun j=>TT j ∧ kv.ownBlock ≠ some j ∧ True) w':=fun w' e j hj=>⟨trivial,fun hkv=>by have:=(Own.lt hS8.hk j hkv).2;have:=e.size;omega,trivial⟩;refine aeA (by kernel_rfl) (fun K hK=>?_))|(refine oLt 96 ?_;refine bnA (n:=4) rfl hh9 rfl rfl (fun _=>rfl) (fun _=>rfl) ?_)|(refine oD 36 ?_;refine acA rfl _ rfl (fun _=>rfl) rfl (HasI.val (hk1.ext x8)) rfl (by omega) ?_;rw [hki])|(refine oD 49 ?_;refine acA rfl _ rfl (fun _=>rfl) rfl (HasI.val (hk1.ext x8)) rfl (by omega) ?_;rw [hki])|(refine oNc ?_;refine a8A rfl rfl ?_)|(refine oF 0 ?_;refine a1A (a':=⟨b,0,none⟩) rfl rfl (fun _=>rfl) ?_)|(refine oF 1 ?_;refine a1A (a':=⟨b,1,none⟩) rfl rfl (fun _=>rfl) ?_)|(refine oLt 27 ?_;refine a5A (c:=kv) rfl (fun _=>rfl) rfl hS8.hb rfl ?_)|(refine oLt 92 ?_;refine a5A (c:=lv) rfl (fun _=>rfl) rfl hS8.hb rfl ?_)|(refine oD 51 ?_;refine d6A rfl czA rfl rfl ?_)|(refine oD 59 ?_;refine daA (base:=W8.heap.size) (Nat.le_refl _) rfl dbA rfl (fun v w e h=>h) ?_)|refine wOp ?_|(refine wCm ?_ ?_<;>intro hc)|(refine oCv ?_;first|(refine oC 65 ?_;refine a2A (f:=65) rfl rfl rfl  (.val (.int .i64 c)) (by intro u1 w e hu1;(try obtain rfl:u1=_:=hu1);exact hlen _ _ (Cn.ext hcn8 e)) ?_)|(refine oC 93 ?_;refine a2A (f:=93) rfl rfl rfl  (.pred (cnP (fun j=>TT j ∧ kv.ownBlock ≠ some j ∧ True) (qs i) (apA (qs i)))) (by intro u1 w e hu1;(try obtain rfl:u1=_:=hu1);exact d3A (Cn.ext hcA e) (hT8.ext e) (hFA _ e)) ?_))|(refine wNl hK ?_;clear hK K))|(refine oCX ?_;first|refine ajA (id:=9) [11,19,22,25] (by kernel_rfl) (by kernel_rfl) (by kernel_rfl) (a7A ?_))|refine wG ?_|(refine wCR ?_;intro K hK)|refine wPh ?_|fail)
        all_goals skip
        have hplK:∀ (AA:Nat → Prop) w',Ext W8 w' → (∀ j,AA j → kv.ownBlock ≠ some j) → Plain AA (fun j=>kv.ownBlock=some j) w':=fun AA w' x hA j hj=>by
          obtain ⟨cur,hcur⟩:=atA (hS8.hk.ext x) hj
          exact ⟨cur,_,_,hcur,by decide,by decide,fun ha=>absurd hj (hA j ha)⟩
        have hplL:∀ (AA:Nat → Prop) w' n cs,Own 0 tC 4 w' lv n cs → Plain AA (fun j=>lv.ownBlock=some j) w':=fun AA w' n cs ho j hj=>by
          obtain ⟨cur,hcur⟩:=atA ho hj
          exact ⟨cur,_,_,hcur,by decide,by decide,fun _=>by decide⟩
        have lkv:∀ k,kv.ownBlock=some k → k < W8.heap.size:=fun k h=>hS8.lt (.inr (.inl h))
        have llv:∀ k,lv.ownBlock=some k → k < W8.heap.size:=fun k h=>hS8.lt (.inr (.inr h))
        have hsn:=slot_ne hS8
        obtain ⟨Q',q1,q2,q3⟩:=hS8.hl
        have hklen:=bsA (f4A kn qs i)
        have hnkl:=g5A (f4A kn qs i)
        have hmv:∀ (kv' v:Value) (kk:Int) (w1' w2:World),Ext W8 w1' → Fr (fun j=>kv.ownBlock=some j) w1' w2 → LocR w1' kv kv' → Cn (fun j=>TT j ∧ kv.ownBlock ≠ some j ∧ True) w1' v (qs i) kk → Cn (fun j=>TT j ∧ kv.ownBlock ≠ some j ∧ kv'.ownBlock ≠ some j) w2 v (qs i) kk:=fun kv' v kk w1' w2 x hf hl h =>
          Cn.fr (Cn.mono h (fun j hj ha=>⟨trivial,ha.2.1,fun hk'=>by
            rcases hl with hl | hl
            · exact ha.2.1 (hl ▸ hk')
            · have:=hl j hk';omega⟩)) hf (hplK _ _ x (fun j ha=>ha.2.1))
        refine cqA rfl czA rfl hS8.hk rfl HasC.own (fun u hu=>by rw [List.mem_singleton] at hu;subst hu;rfl) (by unfold maxLen;omega) (by omega) (fun kv' w1' w2 e1 ho' hf hlo=>⟨_,fun t u _ hu=>bbA t u hu,a7A ?_⟩)
        have hb2:=hf.at (e1.block hS8.hb) (fun h=>hsn.1 h)
        have hh2:=hf.at (e1.block hh9) (fun h=>Own.apart hS8.hk hh9 (by decide) h)
        have q22:Own 0 tC 4 w2 lv (nk (f4A kn qs i)) (clA Q'):=hf.own (q2.ext e1) (fun k h1 h2=>hsn.2.2 k h2 h1)
        have hcA2:=hmv _ _ _ _ _ e1 hf hlo (Cn.ext hcA e1)
        have hFA2:∀ w',Ext w2 w' → Fsh (fun j=>TT j ∧ kv.ownBlock ≠ some j ∧ kv'.ownBlock ≠ some j) w':=fun w' e j hj=>⟨trivial,fun h=>by have:=lkv j h;have:=e1.size;have:=hf.size;have:=e.size;omega,fun h=>by have:=(Own.lt ho' j h).2;have:=e.size;omega⟩
        have hT2:=hT.ext (Fr.ext (he.trans (x8.trans e1)) hf (fun j h=>hB j (.inr (.inl h))))
        have sz2:=Nat.le_trans e1.size hf.size
        repeat' (first|(refine oLA ?_;first|refine wBk ?_|(refine oNc ?_;refine a8A rfl rfl ?_)|(refine oF 0 ?_;refine a1A (a':=⟨b,0,none⟩) rfl rfl (fun _=>rfl) ?_)|(refine oF 1 ?_;refine a1A (a':=⟨b,1,none⟩) rfl rfl (fun _=>rfl) ?_)|(refine oLt 27 ?_;refine a5A (c:=kv) rfl (fun _=>rfl) rfl hb2 rfl ?_)|(refine oLt 92 ?_;refine a5A (c:=lv) rfl (fun _=>rfl) rfl hb2 rfl ?_)|(refine oLt 96 ?_;refine bnA (n:=4) rfl hh2 rfl rfl (fun _=>rfl) (fun _=>rfl) ?_)|(refine oD 59 ?_;refine daA (base:=W8.heap.size) sz2 rfl dbA rfl (fun v w e h=>h) ?_)|refine wOp ?_|(refine wCm ?_ ?_<;>intro hc)|(refine oCv ?_;first|(refine oC 93 ?_;refine a2A (f:=93) rfl rfl rfl  (.pred (cnP (fun j=>TT j ∧ kv.ownBlock ≠ some j ∧ kv'.ownBlock ≠ some j) (qs i) (apA (qs i)))) (by intro u1 w e hu1;(try obtain rfl:u1=_:=hu1);exact d3A (Cn.ext hcA2 e) (hT2.ext e) (hFA2 _ e)) ?_))|(refine wNl hK ?_;clear hK K))|refine wG ?_|(refine wCR ?_;intro K hK)|refine wPh ?_|fail)
        refine gaA 59 rfl (by decide) rfl (fun v53 w3 e3 h53=>?_)
        obtain ⟨qc,r1,r2,r3⟩:=h53
        refine cqA rfl dbA rfl (q22.ext e3) rfl (HasC.ownV r1) r3 (by unfold maxLen;omega) (by omega) (fun lv' w3' w4 e3' hol hfl hll=>⟨_,fun t u _ hu=>bbA t u hu,a7A ?_⟩)
        have x23:=e3.trans e3'
        have hb4:=hfl.at (x23.block hb2) (fun h=>hsn.2.1 h)
        have r14:=hfl.own (ho'.ext x23) (fun k h1 h2=>by
          obtain ⟨cur,hcur⟩:=atA (ho'.ext x23) h1
          exact Own.apart (q22.ext x23) hcur (by decide) h2)
        have rc4:=(r2.ext e3').fr hfl (hplL _ _ _ _ (q22.ext x23))
        obtain ⟨ck1,ck2⟩:=c8A r14
        obtain ⟨cl1,cl2⟩:=c8A hol
        have hF4:Fr (onw b kv lv) W8 w4:=(((Fr.of e1).trans (hf.mono fun k h=>.inr (.inl h))).trans (Fr.of x23)).trans (hfl.mono fun k h=>.inr (.inr h))
        repeat' (first|(refine oLA ?_;first|refine wBk ?_|(refine oNc ?_;refine a8A rfl rfl ?_)|(refine oF 0 ?_;refine a1A (a':=⟨b,0,none⟩) rfl rfl (fun _=>rfl) ?_)|(refine oF 1 ?_;refine a1A (a':=⟨b,1,none⟩) rfl rfl (fun _=>rfl) ?_)|(refine oLt 27 ?_;refine a5A (c:=kv) rfl (fun _=>rfl) rfl hb4 rfl ?_)|(refine oLt 92 ?_;refine a5A (c:=lv) rfl (fun _=>rfl) rfl hb4 rfl ?_)|refine wOp ?_|(refine wCm ?_ ?_<;>intro hc)|(refine wNl hK ?_;clear hK K))|refine wG ?_|(refine wCR ?_;intro K hK)|refine wPh ?_|fail)
        refine dpA (news:=[kv']) rfl rfl rfl hb4 ck1 (fun _=>rfl) (Nat.le_of_ble_eq_true rfl) (fun u hu=>by rw [List.mem_singleton] at hu;subst hu;exact ck2) (fun w6 e6=>⟨_,fun t u hu=>bbA t u hu,a7A ?_⟩)
        have hb6:(w6.setRow b #[kv',lv]).heap[b]?=_:=setRow_heap w6 b _ _ _ _ (e6.block hb4)
        have rc7:=(rc4.ext e6).setRow (e6.block hb4) ⟨by decide,by decide,by decide⟩ #[kv',lv]
        obtain ⟨w7,hw7⟩:∃ w7,w7=w6.setRow b #[kv',lv]:=⟨_,rfl⟩
        have hF7:Fr (onw b kv lv) W8 w7:=hw7 ▸ ((hF4.trans (Fr.of e6)).setRow (.inl rfl) _)
        have r17:Own 0 tK 1 w7 kv' _ _:=hw7 ▸ Own.setRow (r14.ext e6) _ (Own.apart (r14.ext e6) (e6.block hb4) (by decide))
        have s17:Own 0 tC 4 w7 lv' _ _:=hw7 ▸ Own.setRow (hol.ext e6) _ (Own.apart (hol.ext e6) (e6.block hb4) (by decide))
        rw [show (#[kv,lv].toList.take 0 ++ [kv'] ++ #[kv,lv].toList.drop (0 + [kv'].length)).toArray=#[kv',lv] from rfl]
        rw [← hw7] at hb6 rc7 ⊢
        clear hw7
        repeat' (first|(refine oLA ?_;first|refine wBk ?_|(refine oNc ?_;refine a8A rfl rfl ?_)|(refine oF 0 ?_;refine a1A (a':=⟨b,0,none⟩) rfl rfl (fun _=>rfl) ?_)|(refine oF 1 ?_;refine a1A (a':=⟨b,1,none⟩) rfl rfl (fun _=>rfl) ?_)|(refine oLt 27 ?_;refine a5A (c:=kv) rfl (fun _=>rfl) rfl hb6 rfl ?_)|(refine oLt 92 ?_;refine a5A (c:=lv) rfl (fun _=>rfl) rfl hb6 rfl ?_)|refine wOp ?_|(refine wCm ?_ ?_<;>intro hc)|(refine wNl hK ?_;clear hK K))|refine wG ?_|(refine wCR ?_;intro K hK)|refine wPh ?_|fail)
        refine dpA (news:=[lv']) rfl rfl rfl hb6 cl1 (fun _=>rfl) (Nat.le_of_ble_eq_true rfl) (fun u hu=>by rw [List.mem_singleton] at hu;subst hu;exact cl2) (fun w8 e8=>⟨_,fun t u hu=>bbA t u hu,aiA ?_⟩)
        have hb8:(w8.setRow b #[kv',lv']).heap[b]?=_:=setRow_heap w8 b _ _ _ _ (e8.block hb6)
        have rc9:=(rc7.ext e8).setRow (e8.block hb6) ⟨by decide,by decide,by decide⟩ #[kv',lv']
        obtain ⟨w9,hw9⟩:∃ w9,w9=w8.setRow b #[kv',lv']:=⟨_,rfl⟩
        have hF9:Fr (onw b kv lv) W8 w9:=hw9 ▸ ((hF7.trans (Fr.of e8)).setRow (.inl rfl) _)
        have r19:Own 0 tK 1 w9 kv' _ _:=hw9 ▸ Own.setRow (r17.ext e8) _ (Own.apart (r17.ext e8) (e8.block hb6) (by decide))
        have s19:Own 0 tC 4 w9 lv' _ _:=hw9 ▸ Own.setRow (s17.ext e8) _ (Own.apart (s17.ext e8) (e8.block hb6) (by decide))
        rw [show (#[kv',lv].toList.take 1 ++ [lv'] ++ #[kv',lv].toList.drop (1 + [lv'].length)).toArray=#[kv',lv'] from rfl]
        rw [← hw9] at hb8 rc9 ⊢
        clear hw9
        have hkk9:OwnI 0 tK .u16 w9 kv' (blA (f4A kn qs i) ++ [((kn i):Int)]):=by unfold OwnI;rw [List.map_append,List.length_append,List.length_singleton];exact r19
        have hmut:Mut TT W8 b kv lv _ w9:=hS8.app hk0 hlast (hqt i hil) hq0 q1 q3 (Cn.mono rc9 (fun j _ ha=>⟨trivial,ha.2.2⟩)) hF9 hb8 hkk9 s19 (hlo.le e1.size) (hll.le (by have:=x23.size;omega))
        repeat' (first|(refine oLA ?_;first|refine wBk ?_|(refine oNc ?_;refine a8A rfl rfl ?_)|(refine oF 0 ?_;refine a1A (a':=⟨b,0,none⟩) rfl rfl (fun _=>rfl) ?_)|(refine oF 1 ?_;refine a1A (a':=⟨b,1,none⟩) rfl rfl (fun _=>rfl) ?_)|(refine oLt 27 ?_;refine a5A (c:=kv) rfl (fun _=>rfl) rfl hb8 rfl ?_)|(refine oLt 92 ?_;refine a5A (c:=lv) rfl (fun _=>rfl) rfl hb8 rfl ?_)|refine wOp ?_|(refine wCm ?_ ?_<;>intro hc)|(refine wNl hK ?_;clear hK K))|refine wG ?_|(refine wCR ?_;intro K hK)|refine wPh ?_|fail)
        obtain ⟨kv9,lv9,m1,m2,m3,m4⟩:=hmut
        have x9:=Fr.ext (he.trans x8) m2 (fun k hk=>hB k hk)
        have hon9:=k4A hB (he.trans x8).size m3 m4
        exact a6A (i + 1) (fun w5 e5=>⟨x9.trans e5,hil,hDn,kv9,lv9,m1.ext e5,hon9⟩) (by omega) (by repeat' (first | exact Sub.nil | refine Sub.val rfl (by first | with_reducible rfl | (congr 1;omega)) ?_ | refine Sub.same rfl ?_))
      · obtain ⟨hk2,hki2⟩:=hkn (i - 1) (by omega)
        have hs1:(i:Int) - 1=((i - 1:Nat):Int):=by omega
        by_cases hlt:kn (i - 1) < kn i
        · have hDn:Dir kn qs (i + 1):=fun j hj=>by
            by_cases e:j=i
            · subst e;exact ⟨by omega,fun _=>hlt⟩
            · exact hDi j (by omega)
          clear hnd
          have hlast:=ibA hDi (fun j hj=>hqt j (by omega)) i (Nat.le_refl _)
          replace hlast:∀ j,kn i ≤ j → ne (f4A kn qs i) j=false:=fun j hj=>hlast j (fun h=>by omega)
          have hq0:0 < cnt (qs i) 65536:=by omega
          repeat' (first|(refine oLA ?_;first|refine wBk ?_|(refine oD 20 ?_;refine boA (s:=4) rfl _ rfl (fun _=>rfl) rfl (HasC.val hl1) rfl i rfl (by omega) ?_;rw [hat])|(refine oD 21 ?_;refine aqA (cs:=qcs _) rfl (fun _=>rfl) (fun _=>rfl) rfl ?_)|(refine oD 8 ?_;refine a4A (hK _ _ (hbA rfl (by decide) (fun _=>rfl) (fun bv wv ev hbv hhv=>?_)));clear hK K;refine aeA (by kernel_rfl) (fun K hK=>?_))|(refine a4A (hK _ _ (d5A (c:=qv qd) rfl rfl rfl hhv (fun _=>rfl) rfl hone (fun wu eu=>?_)));clear hK K;dsimp only [LA.vals];have hh9:=setRow_heap wu bv _ (qv qd).cells _ (0,0) (eu.block hhv);have x8:=((Ext.refl w1).trans (ev.trans eu)).setRow hbv (qv qd).cells;obtain ⟨W8,hW8⟩:∃ W,W=wu.setRow bv (qv qd).cells:=⟨_,rfl⟩;rw [← hW8] at hh9 x8 ⊢;clear hW8;have hS8:=hS.ext x8;have hcn8:=Cn.ext hcn x8;have hcA:Cn (fun j=>TT j ∧ kv.ownBlock ≠ some j ∧ True) W8 (qv qd) (qs i) (kks i):=Cn.mono hcn8 (fun j _ hj=>⟨trivial,fun hkv=>by have:=hB j (.inr (.inl hkv));omega,trivial⟩);have hT8:=hT1.ext x8;have hFA:∀ w',Ext W8 w' → Fsh (fun j=>TT j ∧ kv.ownBlock ≠ some j ∧ True) w':=fun w' e j hj=>⟨trivial,fun hkv=>by have:=(Own.lt hS8.hk j hkv).2;have:=e.size;omega,trivial⟩;refine aeA (by kernel_rfl) (fun K hK=>?_))|(refine oLt 96 ?_;refine bnA (n:=4) rfl hh9 rfl rfl (fun _=>rfl) (fun _=>rfl) ?_)|(refine oD 36 ?_;refine acA rfl _ rfl (fun _=>rfl) rfl (HasI.val (hk1.ext x8)) rfl (by omega) ?_;rw [hki])|(refine oD 49 ?_;refine acA rfl _ rfl (fun _=>rfl) rfl (HasI.val (hk1.ext x8)) rfl (by omega) ?_;rw [hki])|(refine oNc ?_;refine a8A rfl rfl ?_)|(refine oF 0 ?_;refine a1A (a':=⟨b,0,none⟩) rfl rfl (fun _=>rfl) ?_)|(refine oF 1 ?_;refine a1A (a':=⟨b,1,none⟩) rfl rfl (fun _=>rfl) ?_)|(refine oLt 27 ?_;refine a5A (c:=kv) rfl (fun _=>rfl) rfl hS8.hb rfl ?_)|(refine oLt 92 ?_;refine a5A (c:=lv) rfl (fun _=>rfl) rfl hS8.hb rfl ?_)|(refine oD 51 ?_;refine d6A rfl czA rfl rfl ?_)|(refine oD 59 ?_;refine daA (base:=W8.heap.size) (Nat.le_refl _) rfl dbA rfl (fun v w e h=>h) ?_)|(refine oD 31 ?_;refine afA rfl rfl rfl (by dsimp only [fits];omega) ?_;rw [hs1])|(refine oD 32 ?_;refine acA rfl _ rfl (fun _=>rfl) rfl (HasI.val (hk1.ext x8)) rfl (by omega) ?_;rw [hki2])|refine wOp ?_|(refine wCm ?_ ?_<;>intro hc)|(refine oCv ?_;first|(refine oC 65 ?_;refine a2A (f:=65) rfl rfl rfl  (.val (.int .i64 c)) (by intro u1 w e hu1;(try obtain rfl:u1=_:=hu1);exact hlen _ _ (Cn.ext hcn8 e)) ?_)|(refine oC 93 ?_;refine a2A (f:=93) rfl rfl rfl  (.pred (cnP (fun j=>TT j ∧ kv.ownBlock ≠ some j ∧ True) (qs i) (apA (qs i)))) (by intro u1 w e hu1;(try obtain rfl:u1=_:=hu1);exact d3A (Cn.ext hcA e) (hT8.ext e) (hFA _ e)) ?_))|(refine wNl hK ?_;clear hK K))|(refine oCX ?_;first|refine ajA (id:=9) [11,19,22,25] (by kernel_rfl) (by kernel_rfl) (by kernel_rfl) (a7A ?_))|refine wG ?_|(refine wCR ?_;intro K hK)|refine wPh ?_|fail)
          all_goals skip
          have hplK:∀ (AA:Nat → Prop) w',Ext W8 w' → (∀ j,AA j → kv.ownBlock ≠ some j) → Plain AA (fun j=>kv.ownBlock=some j) w':=fun AA w' x hA j hj=>by
            obtain ⟨cur,hcur⟩:=atA (hS8.hk.ext x) hj
            exact ⟨cur,_,_,hcur,by decide,by decide,fun ha=>absurd hj (hA j ha)⟩
          have hplL:∀ (AA:Nat → Prop) w' n cs,Own 0 tC 4 w' lv n cs → Plain AA (fun j=>lv.ownBlock=some j) w':=fun AA w' n cs ho j hj=>by
            obtain ⟨cur,hcur⟩:=atA ho hj
            exact ⟨cur,_,_,hcur,by decide,by decide,fun _=>by decide⟩
          have lkv:∀ k,kv.ownBlock=some k → k < W8.heap.size:=fun k h=>hS8.lt (.inr (.inl h))
          have llv:∀ k,lv.ownBlock=some k → k < W8.heap.size:=fun k h=>hS8.lt (.inr (.inr h))
          have hsn:=slot_ne hS8
          obtain ⟨Q',q1,q2,q3⟩:=hS8.hl
          have hklen:=bsA (f4A kn qs i)
          have hnkl:=g5A (f4A kn qs i)
          have hmv:∀ (kv' v:Value) (kk:Int) (w1' w2:World),Ext W8 w1' → Fr (fun j=>kv.ownBlock=some j) w1' w2 → LocR w1' kv kv' → Cn (fun j=>TT j ∧ kv.ownBlock ≠ some j ∧ True) w1' v (qs i) kk → Cn (fun j=>TT j ∧ kv.ownBlock ≠ some j ∧ kv'.ownBlock ≠ some j) w2 v (qs i) kk:=fun kv' v kk w1' w2 x hf hl h =>
            Cn.fr (Cn.mono h (fun j hj ha=>⟨trivial,ha.2.1,fun hk'=>by
              rcases hl with hl | hl
              · exact ha.2.1 (hl ▸ hk')
              · have:=hl j hk';omega⟩)) hf (hplK _ _ x (fun j ha=>ha.2.1))
          refine cqA rfl czA rfl hS8.hk rfl HasC.own (fun u hu=>by rw [List.mem_singleton] at hu;subst hu;rfl) (by unfold maxLen;omega) (by omega) (fun kv' w1' w2 e1 ho' hf hlo=>⟨_,fun t u _ hu=>bbA t u hu,a7A ?_⟩)
          have hb2:=hf.at (e1.block hS8.hb) (fun h=>hsn.1 h)
          have hh2:=hf.at (e1.block hh9) (fun h=>Own.apart hS8.hk hh9 (by decide) h)
          have q22:Own 0 tC 4 w2 lv (nk (f4A kn qs i)) (clA Q'):=hf.own (q2.ext e1) (fun k h1 h2=>hsn.2.2 k h2 h1)
          have hcA2:=hmv _ _ _ _ _ e1 hf hlo (Cn.ext hcA e1)
          have hFA2:∀ w',Ext w2 w' → Fsh (fun j=>TT j ∧ kv.ownBlock ≠ some j ∧ kv'.ownBlock ≠ some j) w':=fun w' e j hj=>⟨trivial,fun h=>by have:=lkv j h;have:=e1.size;have:=hf.size;have:=e.size;omega,fun h=>by have:=(Own.lt ho' j h).2;have:=e.size;omega⟩
          have hT2:=hT.ext (Fr.ext (he.trans (x8.trans e1)) hf (fun j h=>hB j (.inr (.inl h))))
          have sz2:=Nat.le_trans e1.size hf.size
          repeat' (first|(refine oLA ?_;first|refine wBk ?_|(refine oNc ?_;refine a8A rfl rfl ?_)|(refine oF 0 ?_;refine a1A (a':=⟨b,0,none⟩) rfl rfl (fun _=>rfl) ?_)|(refine oF 1 ?_;refine a1A (a':=⟨b,1,none⟩) rfl rfl (fun _=>rfl) ?_)|(refine oLt 27 ?_;refine a5A (c:=kv) rfl (fun _=>rfl) rfl hb2 rfl ?_)|(refine oLt 92 ?_;refine a5A (c:=lv) rfl (fun _=>rfl) rfl hb2 rfl ?_)|(refine oLt 96 ?_;refine bnA (n:=4) rfl hh2 rfl rfl (fun _=>rfl) (fun _=>rfl) ?_)|(refine oD 59 ?_;refine daA (base:=W8.heap.size) sz2 rfl dbA rfl (fun v w e h=>h) ?_)|refine wOp ?_|(refine wCm ?_ ?_<;>intro hc)|(refine oCv ?_;first|(refine oC 93 ?_;refine a2A (f:=93) rfl rfl rfl  (.pred (cnP (fun j=>TT j ∧ kv.ownBlock ≠ some j ∧ kv'.ownBlock ≠ some j) (qs i) (apA (qs i)))) (by intro u1 w e hu1;(try obtain rfl:u1=_:=hu1);exact d3A (Cn.ext hcA2 e) (hT2.ext e) (hFA2 _ e)) ?_))|(refine wNl hK ?_;clear hK K))|refine wG ?_|(refine wCR ?_;intro K hK)|refine wPh ?_|fail)
          refine gaA 59 rfl (by decide) rfl (fun v53 w3 e3 h53=>?_)
          obtain ⟨qc,r1,r2,r3⟩:=h53
          refine cqA rfl dbA rfl (q22.ext e3) rfl (HasC.ownV r1) r3 (by unfold maxLen;omega) (by omega) (fun lv' w3' w4 e3' hol hfl hll=>⟨_,fun t u _ hu=>bbA t u hu,a7A ?_⟩)
          have x23:=e3.trans e3'
          have hb4:=hfl.at (x23.block hb2) (fun h=>hsn.2.1 h)
          have r14:=hfl.own (ho'.ext x23) (fun k h1 h2=>by
            obtain ⟨cur,hcur⟩:=atA (ho'.ext x23) h1
            exact Own.apart (q22.ext x23) hcur (by decide) h2)
          have rc4:=(r2.ext e3').fr hfl (hplL _ _ _ _ (q22.ext x23))
          obtain ⟨ck1,ck2⟩:=c8A r14
          obtain ⟨cl1,cl2⟩:=c8A hol
          have hF4:Fr (onw b kv lv) W8 w4:=(((Fr.of e1).trans (hf.mono fun k h=>.inr (.inl h))).trans (Fr.of x23)).trans (hfl.mono fun k h=>.inr (.inr h))
          repeat' (first|(refine oLA ?_;first|refine wBk ?_|(refine oNc ?_;refine a8A rfl rfl ?_)|(refine oF 0 ?_;refine a1A (a':=⟨b,0,none⟩) rfl rfl (fun _=>rfl) ?_)|(refine oF 1 ?_;refine a1A (a':=⟨b,1,none⟩) rfl rfl (fun _=>rfl) ?_)|(refine oLt 27 ?_;refine a5A (c:=kv) rfl (fun _=>rfl) rfl hb4 rfl ?_)|(refine oLt 92 ?_;refine a5A (c:=lv) rfl (fun _=>rfl) rfl hb4 rfl ?_)|refine wOp ?_|(refine wCm ?_ ?_<;>intro hc)|(refine wNl hK ?_;clear hK K))|refine wG ?_|(refine wCR ?_;intro K hK)|refine wPh ?_|fail)
          refine dpA (news:=[kv']) rfl rfl rfl hb4 ck1 (fun _=>rfl) (Nat.le_of_ble_eq_true rfl) (fun u hu=>by rw [List.mem_singleton] at hu;subst hu;exact ck2) (fun w6 e6=>⟨_,fun t u hu=>bbA t u hu,a7A ?_⟩)
          have hb6:(w6.setRow b #[kv',lv]).heap[b]?=_:=setRow_heap w6 b _ _ _ _ (e6.block hb4)
          have rc7:=(rc4.ext e6).setRow (e6.block hb4) ⟨by decide,by decide,by decide⟩ #[kv',lv]
          obtain ⟨w7,hw7⟩:∃ w7,w7=w6.setRow b #[kv',lv]:=⟨_,rfl⟩
          have hF7:Fr (onw b kv lv) W8 w7:=hw7 ▸ ((hF4.trans (Fr.of e6)).setRow (.inl rfl) _)
          have r17:Own 0 tK 1 w7 kv' _ _:=hw7 ▸ Own.setRow (r14.ext e6) _ (Own.apart (r14.ext e6) (e6.block hb4) (by decide))
          have s17:Own 0 tC 4 w7 lv' _ _:=hw7 ▸ Own.setRow (hol.ext e6) _ (Own.apart (hol.ext e6) (e6.block hb4) (by decide))
          rw [show (#[kv,lv].toList.take 0 ++ [kv'] ++ #[kv,lv].toList.drop (0 + [kv'].length)).toArray=#[kv',lv] from rfl]
          rw [← hw7] at hb6 rc7 ⊢
          clear hw7
          repeat' (first|(refine oLA ?_;first|refine wBk ?_|(refine oNc ?_;refine a8A rfl rfl ?_)|(refine oF 0 ?_;refine a1A (a':=⟨b,0,none⟩) rfl rfl (fun _=>rfl) ?_)|(refine oF 1 ?_;refine a1A (a':=⟨b,1,none⟩) rfl rfl (fun _=>rfl) ?_)|(refine oLt 27 ?_;refine a5A (c:=kv) rfl (fun _=>rfl) rfl hb6 rfl ?_)|(refine oLt 92 ?_;refine a5A (c:=lv) rfl (fun _=>rfl) rfl hb6 rfl ?_)|refine wOp ?_|(refine wCm ?_ ?_<;>intro hc)|(refine wNl hK ?_;clear hK K))|refine wG ?_|(refine wCR ?_;intro K hK)|refine wPh ?_|fail)
          refine dpA (news:=[lv']) rfl rfl rfl hb6 cl1 (fun _=>rfl) (Nat.le_of_ble_eq_true rfl) (fun u hu=>by rw [List.mem_singleton] at hu;subst hu;exact cl2) (fun w8 e8=>⟨_,fun t u hu=>bbA t u hu,aiA ?_⟩)
          have hb8:(w8.setRow b #[kv',lv']).heap[b]?=_:=setRow_heap w8 b _ _ _ _ (e8.block hb6)
          have rc9:=(rc7.ext e8).setRow (e8.block hb6) ⟨by decide,by decide,by decide⟩ #[kv',lv']
          obtain ⟨w9,hw9⟩:∃ w9,w9=w8.setRow b #[kv',lv']:=⟨_,rfl⟩
          have hF9:Fr (onw b kv lv) W8 w9:=hw9 ▸ ((hF7.trans (Fr.of e8)).setRow (.inl rfl) _)
          have r19:Own 0 tK 1 w9 kv' _ _:=hw9 ▸ Own.setRow (r17.ext e8) _ (Own.apart (r17.ext e8) (e8.block hb6) (by decide))
          have s19:Own 0 tC 4 w9 lv' _ _:=hw9 ▸ Own.setRow (s17.ext e8) _ (Own.apart (s17.ext e8) (e8.block hb6) (by decide))
          rw [show (#[kv',lv].toList.take 1 ++ [lv'] ++ #[kv',lv].toList.drop (1 + [lv'].length)).toArray=#[kv',lv'] from rfl]
          rw [← hw9] at hb8 rc9 ⊢
          clear hw9
          have hkk9:OwnI 0 tK .u16 w9 kv' (blA (f4A kn qs i) ++ [((kn i):Int)]):=by unfold OwnI;rw [List.map_append,List.length_append,List.length_singleton];exact r19
          have hmut:Mut TT W8 b kv lv _ w9:=hS8.app hk0 hlast (hqt i hil) hq0 q1 q3 (Cn.mono rc9 (fun j _ ha=>⟨trivial,ha.2.2⟩)) hF9 hb8 hkk9 s19 (hlo.le e1.size) (hll.le (by have:=x23.size;omega))
          repeat' (first|(refine oLA ?_;first|refine wBk ?_|(refine oNc ?_;refine a8A rfl rfl ?_)|(refine oF 0 ?_;refine a1A (a':=⟨b,0,none⟩) rfl rfl (fun _=>rfl) ?_)|(refine oF 1 ?_;refine a1A (a':=⟨b,1,none⟩) rfl rfl (fun _=>rfl) ?_)|(refine oLt 27 ?_;refine a5A (c:=kv) rfl (fun _=>rfl) rfl hb8 rfl ?_)|(refine oLt 92 ?_;refine a5A (c:=lv) rfl (fun _=>rfl) rfl hb8 rfl ?_)|refine wOp ?_|(refine wCm ?_ ?_<;>intro hc)|(refine wNl hK ?_;clear hK K))|refine wG ?_|(refine wCR ?_;intro K hK)|refine wPh ?_|fail)
          obtain ⟨kv9,lv9,m1,m2,m3,m4⟩:=hmut
          have x9:=Fr.ext (he.trans x8) m2 (fun k hk=>hB k hk)
          have hon9:=k4A hB (he.trans x8).size m3 m4
          exact a6A (i + 1) (fun w5 e5=>⟨x9.trans e5,hil,hDn,kv9,lv9,m1.ext e5,hon9⟩) (by omega) (by repeat' (first | exact Sub.nil | refine Sub.val rfl (by first | with_reducible rfl | (congr 1;omega)) ?_ | refine Sub.same rfl ?_))
        · rw [hnd (fun h=>hlt (h.2 hip))]
          clear hnd hd
          repeat' (first|(refine oLA ?_;first|refine a0A rfl ?_|(refine oD 20 ?_;refine boA (s:=4) rfl _ rfl (fun _=>rfl) rfl (HasC.val hl1) rfl i rfl (by omega) ?_;rw [hat])|(refine oD 21 ?_;refine aqA (cs:=qcs _) rfl (fun _=>rfl) (fun _=>rfl) rfl ?_)|(refine oD 8 ?_;refine a4A (hK _ _ (hbA rfl (by decide) (fun _=>rfl) (fun bv wv ev hbv hhv=>?_)));clear hK K;refine aeA (by kernel_rfl) (fun K hK=>?_))|(refine a4A (hK _ _ (d5A (c:=qv qd) rfl rfl rfl hhv (fun _=>rfl) rfl hone (fun wu eu=>?_)));clear hK K;dsimp only [LA.vals];have hh9:=setRow_heap wu bv _ (qv qd).cells _ (0,0) (eu.block hhv);have x8:=((Ext.refl w1).trans (ev.trans eu)).setRow hbv (qv qd).cells;obtain ⟨W8,hW8⟩:∃ W,W=wu.setRow bv (qv qd).cells:=⟨_,rfl⟩;rw [← hW8] at hh9 x8 ⊢;clear hW8;have hS8:=hS.ext x8;have hcn8:=Cn.ext hcn x8;have hcA:Cn (fun j=>TT j ∧ kv.ownBlock ≠ some j ∧ True) W8 (qv qd) (qs i) (kks i):=Cn.mono hcn8 (fun j _ hj=>⟨trivial,fun hkv=>by have:=hB j (.inr (.inl hkv));omega,trivial⟩);have hT8:=hT1.ext x8;have hFA:∀ w',Ext W8 w' → Fsh (fun j=>TT j ∧ kv.ownBlock ≠ some j ∧ True) w':=fun w' e j hj=>⟨trivial,fun hkv=>by have:=(Own.lt hS8.hk j hkv).2;have:=e.size;omega,trivial⟩;refine aeA (by kernel_rfl) (fun K hK=>?_))|(refine oLt 96 ?_;refine bnA (n:=4) rfl hh9 rfl rfl (fun _=>rfl) (fun _=>rfl) ?_)|(refine oD 36 ?_;refine acA rfl _ rfl (fun _=>rfl) rfl (HasI.val (hk1.ext x8)) rfl (by omega) ?_;rw [hki])|(refine oD 49 ?_;refine acA rfl _ rfl (fun _=>rfl) rfl (HasI.val (hk1.ext x8)) rfl (by omega) ?_;rw [hki])|(refine oNc ?_;refine a8A rfl rfl ?_)|(refine oF 0 ?_;refine a1A (a':=⟨b,0,none⟩) rfl rfl (fun _=>rfl) ?_)|(refine oF 1 ?_;refine a1A (a':=⟨b,1,none⟩) rfl rfl (fun _=>rfl) ?_)|(refine oLt 27 ?_;refine a5A (c:=kv) rfl (fun _=>rfl) rfl hS8.hb rfl ?_)|(refine oLt 92 ?_;refine a5A (c:=lv) rfl (fun _=>rfl) rfl hS8.hb rfl ?_)|(refine oD 51 ?_;refine d6A rfl czA rfl rfl ?_)|(refine oD 59 ?_;refine daA (base:=W8.heap.size) (Nat.le_refl _) rfl dbA rfl (fun v w e h=>h) ?_)|(refine oD 31 ?_;refine afA rfl rfl rfl (by dsimp only [fits];omega) ?_;rw [hs1])|(refine oD 32 ?_;refine acA rfl _ rfl (fun _=>rfl) rfl (HasI.val (hk1.ext x8)) rfl (by omega) ?_;rw [hki2])|refine wOp ?_|(refine wCm ?_ ?_<;>intro hc)|(refine oCv ?_;first|(refine oC 65 ?_;refine a2A (f:=65) rfl rfl rfl  (.val (.int .i64 c)) (by intro u1 w e hu1;(try obtain rfl:u1=_:=hu1);exact hlen _ _ (Cn.ext hcn8 e)) ?_)|(refine oC 93 ?_;refine a2A (f:=93) rfl rfl rfl  (.pred (cnP (fun j=>TT j ∧ kv.ownBlock ≠ some j ∧ True) (qs i) (apA (qs i)))) (by intro u1 w e hu1;(try obtain rfl:u1=_:=hu1);exact d3A (Cn.ext hcA e) (hT8.ext e) (hFA _ e)) ?_))|(refine wNl hK ?_;clear hK K))|refine wG ?_|(refine wCR ?_;intro K hK)|fail)
          all_goals skip
          exact c2A rfl rfl rfl (he.trans x8) rfl rfl
  · obtain rfl:i=n:=by omega
    obtain rfl:d=true:=hd.2 hDi
    repeat' (first|(refine oLA ?_;first|refine a0A rfl ?_|refine wOp ?_|(refine wCm ?_ ?_<;>intro hc)|(refine wNl hK ?_;clear hK K))|refine wG ?_|(refine wCR ?_;intro K hK)|fail)
    all_goals skip
    exact d4A rfl (fun x y w5 e5 hx hy=>⟨_,rfl,he.trans e5,x,y,rfl,⟨b,kv,lv,hx,hS.ext e5,fun _ _=>trivial⟩,hy⟩)
end Go.Proofs.YtbokphkfojijoaaGreatDoor
end
section
set_option linter.unusedSimpArgs false
set_option linter.unusedVariables false
namespace Go.Proofs.YtbokphkfojijoaaGreatDoor
open Go.LA Go.ArrP Go.RowKit
theorem r5A {kn:Nat → Nat} {qs:Nat → Nat → Bool} {n:Nat} (hD:Dir kn qs n):∀ i,i ≤ n → ∀ x,f4A kn qs i x=true ↔ ∃ j,j < i ∧ x / 65536=kn j ∧ qs j (x % 65536)=true
  | 0,_,x=>by simp [f4A]
  | i + 1,hi,x=>by
    have ih:=r5A hD i (by omega) x
    show upd (f4A kn qs i) (kn i) (qs i) x=true ↔ _
    unfold upd
    by_cases e:x / 65536=kn i
    · rw [if_pos e]
      constructor
      · exact fun h=>⟨i,Nat.lt_succ_self i,e,h⟩
      · rintro ⟨j,h1,h2,h3⟩
        obtain rfl:j=i:=by
          refine Classical.byContradiction fun hne=>?_
          have:∀ m,m ≤ n → ∀ j,j < m → ∀ i,i < m → j < i → kn j < kn i:=by
            intro m
            induction m with
            | zero=>intro _ j hj;omega
            | succ m ihm =>
              intro hm j hj i hi hji
              by_cases e1:i=m
              · subst e1
                have h5:=(hD i (by omega)).2 (by omega)
                by_cases e2:j=i - 1
                · subst e2;exact h5
                · exact Nat.lt_trans (ihm (by omega) j (by omega) (i - 1) (by omega) (by omega)) h5
              · exact ihm (by omega) j (by omega) i (by omega) hji
          have:=this n (Nat.le_refl _) j (by omega) i (by omega) (by omega)
          omega
        exact h3
    · rw [if_neg e,ih]
      constructor
      · rintro ⟨j,h1,h2⟩;exact ⟨j,by omega,h2⟩
      · rintro ⟨j,h1,h2,h3⟩
        exact ⟨j,by rcases Nat.lt_succ_iff_lt_or_eq.1 h1 with h | h
                    · exact h
                    · subst h;exact absurd h2 e,h2,h3⟩
end Go.Proofs.YtbokphkfojijoaaGreatDoor
end
section
set_option linter.unusedSimpArgs false
set_option linter.unusedVariables false
namespace Go.Proofs.YtbokphkfojijoaaGreatDoor.Pt
open Go.LA Go.ArrP Go.RowKit
theorem rhA (p:Nat → Bool):Dir (kp p) (fun i=>blk p (kp p i)) (nk p):=fun i hi=>by
  obtain ⟨h1,h2,-,-⟩:=kaA hi
  refine ⟨ne_cnt.1 h2,fun h0=>?_⟩
  have:=gsA (p:=p) (i:=i - 1) (by omega)
  rw [show i - 1 + 1=i by omega] at this
  exact this
theorem tyA {p:Nat → Bool} (ht:∀ x,TOP ≤ x → p x=false):f4A (kp p) (fun i=>blk p (kp p i)) (nk p)=p:=by
  have htop:=f0A
  funext x
  rw [Bool.eq_iff_iff,r5A (rhA p) _ (Nat.le_refl _)]
  have hm:x % 65536 < 65536:=Nat.mod_lt _ (by decide)
  constructor
  · rintro ⟨j,h1,h2,h3⟩
    rw [d0A hm,← h2,show x / 65536 * 65536 + x % 65536=x by omega] at h3
    exact h3
  · intro hx
    have hlt:x < TOP:=by
      rcases Nat.lt_or_ge x TOP with h | h
      · exact h
      · rw [ht x h] at hx;cases hx
    have hk:x / 65536 < 65536:=by omega
    have hne:ne p (x / 65536)=true:=ne_iff.2 ⟨x % 65536,hm,by rw [show x / 65536 * 65536 + x % 65536=x by omega];exact hx⟩
    obtain ⟨g1,g2⟩:=xuA hk hne
    exact ⟨_,g1,g2.symm,by rw [g2,d0A hm,show x / 65536 * 65536 + x % 65536=x by omega];exact hx⟩
end Go.Proofs.YtbokphkfojijoaaGreatDoor.Pt
end
section
set_option linter.unusedSimpArgs false
set_option linter.unusedVariables false
namespace Go.Proofs.YtbokphkfojijoaaGreatDoor.Pt
open Go.LA Go.ArrP Go.RowKit
theorem r9A {p f:Nat → Bool} {ys:List Int} (hn:nk p ≤ 8) (hA:AtB ys 0 (luA p f)) :
    AtB ys 0 (ddA (nk p) f) ∧ (∀ i,i < nk p → AtB ys ((ddA (nk p) f).length + 4 * i) (g8A p i)) ∧
    (¬ (e6A f (nk p)=true ∧ nk p < 4) → ∀ i,i < nk p → AtB ys ((ddA (nk p) f).length + 4 * nk p + 4 * i) (jfA p f i)) ∧
    (∀ i,i < nk p → AtB ys (dhA (nk p) (e6A f (nk p)) + (bdA (emA p f) i).length) (emA p f i)):=by
  have hh:=kdA (f:=f) hn
  have hdl:∀ i,(bdA (g8A p) i).length=4 * i:=fun i=>by rw [dfA i (fun j _=>hjA p j),Nat.mul_comm]
  have hol:∀ i,(bdA (jfA p f) i).length=4 * i:=fun i=>by rw [dfA i (fun j _=>g4A p f j),Nat.mul_comm]
  unfold luA at hA
  have h1:=hA.left
  have h2:=hA.right
  have h3:=h2.left
  have h4:=h2.right
  have h5:=h4.left
  have h6:=h4.right
  rw [Nat.zero_add] at h2 h3 h4 h5 h6
  rw [hdl] at h4 h5 h6 hh
  refine ⟨h1,fun i hi=>?_,fun ho i hi=>?_,fun i hi=>?_⟩
  · have:=h3.cat hi
    rw [hdl] at this;exact this
  · have ho':epA p f=bdA (jfA p f) (nk p):=by unfold epA;rw [if_neg ho]
    rw [ho'] at h5
    have:=h5.cat hi
    rw [hol] at this;exact this
  · have:=h6.cat hi
    rw [hh] at this;exact this
end Go.Proofs.YtbokphkfojijoaaGreatDoor.Pt
end
