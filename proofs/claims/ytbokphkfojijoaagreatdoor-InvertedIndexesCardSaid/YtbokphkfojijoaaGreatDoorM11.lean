import Derived.Test.YtbokphkfojijoaaGreatDoorM6
import Derived.Test.YtbokphkfojijoaaGreatDoorM7
import Derived.Test.YtbokphkfojijoaaGreatDoorM10
set_option linter.unusedSimpArgs false
set_option linter.unusedVariables false
set_option maxRecDepth 3000
set_option maxHeartbeats 16000000
section
namespace Go.Proofs.YtbokphkfojijoaaGreatDoor
open Go.LA Go.ArrP Go.RowKit
variable {A:Nat→Prop}
def nilS:Value:=.slice none 0 0
def OwnA (A:Nat→Prop) (e:Nat) (k:IntKind) (w:World) (v:Value) (xs:List Int):Prop:=OwnI 0 e k w v xs∧∀ b,v.ownBlock=some b→A b
theorem OwnA.ext {e:Nat} {k:IntKind} {w w':World} {v:Value} {xs:List Int} (h:OwnA A e k w v xs) (x:Ext w w'):OwnA A e k w' v xs:=⟨h.1.ext x,h.2⟩
theorem OwnA.slI {e:Nat} {k:IntKind} {w:World} {v:Value} {xs:List Int} (h:OwnA A e k w v xs):SlI k w v xs:=h.1.slI
def Fsh (A:Nat→Prop) (w:World):Prop:=∀ k,w.heap.size≤k→A k
theorem Fsh.ext {w w':World} (h:Fsh A w) (e:Ext w w'):Fsh A w':=λ k hk=>h k (Nat.le_trans e.size hk)
def TT:Nat→Prop:=λ _=>True
theorem tt {w:World}:Fsh TT w:=λ _ _=>trivial
def Cn (A:Nat→Prop) (w:World) (v:Value) (p:Nat→Bool) (kk:Int):Prop :=
 p 65536=false ∧
 ((kk=1∧∃ kd va,(kd=0∨kd=1)∧v=.agg #[.int .u8 kd,va,.slice none 0 0,.slice none 0 0]∧OwnA A 31 .u16 w va (ahA p 65536)) ∨
  (kk=2∧∃ vw,v=.agg #[.int .u8 2,.slice none 0 0,vw,.slice none 0 0]∧OwnI 0 61 .u64 w vw (wordsOf p)) ∨
  (kk=3∧∃ vr,v=.agg #[.int .u8 3,.slice none 0 0,.slice none 0 0,vr]∧OwnR 0 105 w vr (aqA p)))
theorem Cn.ext {w w':World} {v:Value} {p:Nat→Bool} {kk:Int} (h:Cn A w v p kk) (e:Ext w w'):Cn A w' v p kk:=by
 obtain ⟨hp,h|h|h⟩:=h
 ·obtain ⟨h1,kd,va,h2,h3,h4⟩:=h;exact ⟨hp,.inl ⟨h1,kd,va,h2,h3,h4.ext e⟩⟩
 ·obtain ⟨h1,vw,h3,h4⟩:=h;exact ⟨hp,.inr (.inl ⟨h1,vw,h3,h4.ext e⟩)⟩
 ·obtain ⟨h1,vr,h3,h4⟩:=h;exact ⟨hp,.inr (.inr ⟨h1,vr,h3,h4.ext e⟩)⟩
def cnP (A:Nat→Prop) (p:Nat→Bool) (kk:Int):AV:=⟨λ v w=>Cn A w v p kk,λ _ _ _ e h=>h.ext e⟩
theorem Cn.setRow {w:World} {v:Value} {p:Nat→Bool} {kk:Int} (h:Cn A w v p kk) {b:Nat} {cur:Array Value} {e:TypeId} {j:Nat × Nat} (hb:w.heap[b]?=some (.cells cur e j)) (he:31≠e∧61≠e∧105≠e) (cs:Array Value):Cn A (w.setRow b cs) v p kk:=by
 obtain ⟨hp,h|h|h⟩:=h
 ·obtain ⟨h1,kd,va,h2,h3,h4⟩:=h;exact ⟨hp,.inl ⟨h1,kd,va,h2,h3,Own.setRow h4.1 _ (Own.apart h4.1 hb he.1),h4.2⟩⟩
 ·obtain ⟨h1,vw,h3,h4⟩:=h;exact ⟨hp,.inr (.inl ⟨h1,vw,h3,Own.setRow h4 _ (Own.apart h4 hb he.2.1)⟩)⟩
 ·obtain ⟨h1,vr,h3,h4⟩:=h;exact ⟨hp,.inr (.inr ⟨h1,vr,h3,Own.setRow h4 _ (Own.apart h4 hb he.2.2)⟩)⟩
theorem Cn.arr {w:World} {va:Value} {p:Nat→Bool} {base:Nat} (hp:p 65536=false) {xs:List Int} (hx:xs=ahA p 65536) (h:OwnI base 31 .u16 w va xs) (hA:∀ k,base≤k→A k):Cn A w (.agg #[.int .u8 1,va,.slice none 0 0,.slice none 0 0]) p 1 :=
 ⟨hp,.inl ⟨rfl,1,va,.inr rfl,rfl,hx▸Own.base h (Nat.zero_le _),λ k hk=>hA k (Own.lt h k hk).1⟩⟩
theorem Cn.wrd {w:World} {vw:Value} {p:Nat→Bool} {base:Nat} (hp:p 65536=false) {xs:List Int} (hx:xs=wordsOf p) (h:OwnI base 61 .u64 w vw xs) (hA:∀ k,base≤k→A k):Cn A w (.agg #[.int .u8 2,.slice none 0 0,vw,.slice none 0 0]) p 2 :=
 ⟨hp,.inr (.inl ⟨rfl,vw,rfl,hx▸Own.base h (Nat.zero_le _)⟩)⟩
theorem Cn.rns {w:World} {vr:Value} {p:Nat→Bool} {base:Nat} (hp:p 65536=false) {xs:List Rn} (hx:xs=aqA p) (h:OwnR base 105 w vr xs) (hA:∀ k,base≤k→A k):Cn A w (.agg #[.int .u8 3,.slice none 0 0,.slice none 0 0,vr]) p 3 :=
 ⟨hp,.inr (.inr ⟨rfl,vr,rfl,hx▸Own.base h (Nat.zero_le _)⟩)⟩
theorem Cn.zero {w:World}:Cn A w (.agg #[.int .u8 0,.slice none 0 0,.slice none 0 0,.slice none 0 0]) (λ _=>false) 1 :=
 ⟨rfl,.inl ⟨rfl,0,_,.inl rfl,rfl,by rw [gbA (λ _=>false) (a:=0) 65536 dZ (λ _ _ _=>rfl)];exact ⟨OwnI.nil,λ _ h=>by cases h⟩⟩⟩
theorem Cn.parts {w:World} {v:Value} {p:Nat→Bool} {kk:Int} (h:Cn A w v p kk):∃ kd va vw vr,v=.agg #[.int .u8 kd,va,vw,vr]∧max kd 1=kk∧0≤kd∧kd≤3∧kk=max kd 1∧1≤kk∧kk≤3∧(∀ u ∈ (Value.agg #[.int .u8 kd,va,vw,vr]).cells.toList,u.oneCell'=true):=by
 obtain ⟨hp,h|h|h⟩:=h
 ·obtain ⟨h1,kd,va,h2,h3,h4⟩:=h
  refine ⟨kd,va,_,_,h3,by omega,by omega,by omega,by omega,by omega,by omega,λ u hu=>?_⟩;simp only [Value.cells,List.mem_cons,List.not_mem_nil,or_false] at hu
  rcases hu with rfl|rfl|rfl|rfl
  ·rfl
  ·exact OwnI.one h4.1
  ·rfl
  ·rfl
 ·obtain ⟨h1,vw,h3,h4⟩:=h
  refine ⟨2,_,vw,_,h3,by omega,by omega,by omega,by omega,by omega,by omega,λ u hu=>?_⟩;simp only [Value.cells,List.mem_cons,List.not_mem_nil,or_false] at hu
  rcases hu with rfl|rfl|rfl|rfl
  ·rfl
  ·rfl
  ·exact OwnI.one h4
  ·rfl
 ·obtain ⟨h1,vr,h3,h4⟩:=h
  refine ⟨3,_,_,vr,h3,by omega,by omega,by omega,by omega,by omega,by omega,λ u hu=>?_⟩;simp only [Value.cells,List.mem_cons,List.not_mem_nil,or_false] at hu
  rcases hu with rfl|rfl|rfl|rfl
  ·rfl
  ·rfl
  ·rfl
  ·obtain ⟨a,c,hv⟩:=(OwnR.slR h4).isSlice
   rw [hv];rfl
def y5A (c:Nat):Int:=if c≤4096 then 2*(c:Int) else 8192
def avA (p:Nat→Bool):Int:=if 2+4*(cnt (bbA p) 65536:Int)<y5A (cnt p 65536) then 3 else if cnt p 65536≤4096 then 1 else 2
theorem Cn.congr {w:World} {v:Value} {p q:Nat→Bool} {kk:Int} (h:Cn A w v p kk) (hq:q 65536=false) (e:∀ i,i<65536→p i=q i):Cn A w v q kk:=by
 obtain ⟨hp,h⟩:=h;rw [edA 65536 e,bgA e,foA e] at h;exact ⟨hq,h⟩
end Go.Proofs.YtbokphkfojijoaaGreatDoor
end
section
namespace Go.Proofs.YtbokphkfojijoaaGreatDoor
open Go.LA Go.ArrP Go.RowKit
variable {A:Nat→Prop}
theorem c8A:El Tryz.prog 27 31 (.int .u16 0) 1 2:=⟨rfl,rfl,rfl,by decide⟩
theorem t9A (w:World) (v:Value) (n:Nat) (cs:List Value) (h:SlC w v n 1 cs) (h1:∀ u ∈ cs,u.oneCell'=true) (hb:n*2≤140737488355328):Fc Tryz.prog 99 #[v] w (Ret w (.pred (i9A w.heap.size 31 1 n cs))):=by
 obtain ⟨h0,a,cap,rfl,hc,hm,hn,hcs⟩:=id h;have hlen:=h.len;cases a with
 | none =>
   obtain rfl:=hn rfl;obtain rfl:n=0:=oZ;obtain rfl:cs=[]:=List.eq_nil_of_length_eq_zero oZ;refine Fc.of (args:=[_]) Tryz.func99 rfl rfl Tryz.ntmps99 nZ ?_
   repeat' (first|(refine yL ?_;first|refine a0A rfl ?_|refine bqA (c:=.bool true) rfl rfl rfl (λ _=>rfl) ?_|refine yO ?_|(refine yC ?_ ?_<;>intro hc)|(refine yN hK ?_;clear hK K))|refine wG ?_|(refine yR ?_;intro K hK)|(refine oPX ?_;first|exact aiA rfl rfl (Ext.refl _) (λ u w2 e2 hu=>by obtain rfl:u=_:=hu;exact Own.nil))|fail)
 | some a =>
   refine Fc.of (args:=[_]) Tryz.func99 rfl rfl Tryz.ntmps99 nZ ?_
   repeat' (first|(refine yL ?_;first|refine a0A rfl ?_|refine bqA (c:=.bool false) rfl rfl rfl (λ _=>rfl) ?_|refine jwA 31 (s:=1) rfl (λ _=>by kernel_rfl) ?_|(refine a2A (hK _ _ (awA 5 rfl (λ v5 w5 e5 h5=>?_)));clear hK K;have h6:=h.ext e5;have ho:Own w.heap.size _ _ w5 v5 0 []:=h5;refine aeA kZ (λ K hK=>?_))|(refine a2A (hK _ _ (cyA rfl dZ c8A rfl ho rfl (HasC.val h6) h1 (by rw [Nat.zero_add];unfold maxLen;omega) (by rw [Nat.zero_add];exact hb) e5.size (λ v' w2 w3 he2 ho3 hg3=>?_)));clear hK K;dsimp only [vals];refine aeA kZ (λ K hK=>?_))|refine yO ?_|(refine yC ?_ ?_<;>intro hc)|(refine yN hK ?_;clear hK K))|refine wG ?_|(refine yR ?_;intro K hK)|fail)
   exact aiA rfl rfl ((e5.trans he2).grown hg3 (λ q hq=>(Own.lt ho q hq).1)) (λ u w4 e4 hu=>by
    obtain rfl:u=_:=hu;have h9:Own w.heap.size 31 1 w3 u n cs:=by simpa using ho3
    exact h9.ext e4)
theorem cyB:El Tryz.prog 93 61 (.int .u64 0) 1 8:=⟨rfl,rfl,rfl,by decide⟩
theorem t7A (w:World) (v:Value) (n:Nat) (cs:List Value) (h:SlC w v n 1 cs) (h1:∀ u ∈ cs,u.oneCell'=true) (hb:n*8≤140737488355328):Fc Tryz.prog 132 #[v] w (Ret w (.pred (i9A w.heap.size 61 1 n cs))):=by
 obtain ⟨h0,a,cap,rfl,hc,hm,hn,hcs⟩:=id h;have hlen:=h.len;cases a with
 | none =>
   obtain rfl:=hn rfl;obtain rfl:n=0:=oZ;obtain rfl:cs=[]:=List.eq_nil_of_length_eq_zero oZ;refine Fc.of (args:=[_]) Tryz.func132 rfl rfl Tryz.ntmps132 nZ ?_
   repeat' (first|(refine yL ?_;first|refine a0A rfl ?_|refine bqA (c:=.bool true) rfl rfl rfl (λ _=>rfl) ?_|refine yO ?_|(refine yC ?_ ?_<;>intro hc)|(refine yN hK ?_;clear hK K))|refine wG ?_|(refine yR ?_;intro K hK)|(refine oPX ?_;first|exact aiA rfl rfl (Ext.refl _) (λ u w2 e2 hu=>by obtain rfl:u=_:=hu;exact Own.nil))|fail)
 | some a =>
   refine Fc.of (args:=[_]) Tryz.func132 rfl rfl Tryz.ntmps132 nZ ?_
   repeat' (first|(refine yL ?_;first|refine a0A rfl ?_|refine bqA (c:=.bool false) rfl rfl rfl (λ _=>rfl) ?_|refine jwA 61 (s:=1) rfl (λ _=>by kernel_rfl) ?_|(refine a2A (hK _ _ (awA 5 rfl (λ v5 w5 e5 h5=>?_)));clear hK K;have h6:=h.ext e5;have ho:Own w.heap.size _ _ w5 v5 0 []:=h5;refine aeA kZ (λ K hK=>?_))|(refine a2A (hK _ _ (cyA rfl dZ cyB rfl ho rfl (HasC.val h6) h1 (by rw [Nat.zero_add];unfold maxLen;omega) (by rw [Nat.zero_add];exact hb) e5.size (λ v' w2 w3 he2 ho3 hg3=>?_)));clear hK K;dsimp only [vals];refine aeA kZ (λ K hK=>?_))|refine yO ?_|(refine yC ?_ ?_<;>intro hc)|(refine yN hK ?_;clear hK K))|refine wG ?_|(refine yR ?_;intro K hK)|fail)
   exact aiA rfl rfl ((e5.trans he2).grown hg3 (λ q hq=>(Own.lt ho q hq).1)) (λ u w4 e4 hu=>by
    obtain rfl:u=_:=hu;have h9:Own w.heap.size 61 1 w3 u n cs:=by simpa using ho3
    exact h9.ext e4)
theorem fgA {w:World} {v:Value} {p:Nat→Bool} {kk:Int} (h:Cn A w v p kk):Fc Tryz.prog 63 #[v] w (Ret w (.val (.int .u8 kk))):=by
 obtain ⟨kd,va,vw,vr,rfl,-,h1,h2,rfl,-⟩:=h.parts;refine Fc.of (args:=[_]) Tryz.func63 rfl rfl Tryz.ntmps63 nZ ?_
 repeat' (first|(refine yL ?_;first|refine a0A rfl ?_|refine eaA ?_|(refine fxA rfl rfl rfl ?_)|refine yO ?_|(refine yC ?_ ?_<;>intro hc)|(refine yN hK ?_;clear hK K))|refine wG ?_|(refine yR ?_;intro K hK)|fail)
 all_goals exact afA rfl rfl (Ext.refl _) rfl
theorem wmA {w:World} {va vw vr:Value} {kd:Int} {xs:List Int} (h:SlI .u16 w va xs):Fc Tryz.prog 100 #[.agg #[.int .u8 kd,va,vw,vr]] w (Ret w (.val (.int .i64 xs.length))):=by
 have hl:=h.len;refine Fc.of (args:=[_]) Tryz.func100 rfl rfl Tryz.ntmps100 nZ ?_
 repeat' (first|(refine yL ?_;first|refine a0A rfl ?_|refine eaA ?_|refine yO ?_|(refine yC ?_ ?_<;>intro hc)|(refine yN hK ?_;clear hK K))|refine wG ?_|(refine yR ?_;intro K hK)|fail)
 all_goals exact afA rfl rfl (Ext.refl _) rfl
theorem ulA {w:World} {va vw vr:Value} {kd:Int} {p:Nat→Bool} (h:SlI .u64 w vw (wordsOf p)):Fc Tryz.prog 101 #[.agg #[.int .u8 kd,va,vw,vr]] w (Ret w (.val (.int .i64 (cnt p 65536)))):=by
 refine Fc.of (args:=[_]) Tryz.func101 rfl rfl Tryz.ntmps101 nZ ?_
 repeat' (first|(refine yL ?_;first|refine a0A rfl ?_|refine eaA ?_|refine yO ?_|(refine yC ?_ ?_<;>intro hc)|(refine yV ?_;first|(refine oC 130 ?_;refine a3A (f:=130) rfl rfl rfl  (.val (.int .i64 (cnt p 65536))) (by intro u1 w e hu1;(try obtain rfl:u1=_:=hu1);exact wlenP _ _ p (h.ext e)) ?_))|(refine yN hK ?_;clear hK K))|refine wG ?_|(refine yR ?_;intro K hK)|fail)
 all_goals exact afA rfl rfl (Ext.refl _) rfl
theorem uuA {w:World} {va vw vr:Value} {kd:Int} {p:Nat→Bool} (h:SlR w vr (aqA p)):Fc Tryz.prog 102 #[.agg #[.int .u8 kd,va,vw,vr]] w (Ret w (.val (.int .i64 (cnt p 65536)))):=by
 have hl:m7A (aqA p)=cnt p 65536:=nfA p 65536;rw [← hl];have hn:(aqA p).length≤70000:=by have:=dcA p;omega
 refine Fc.of (args:=[_]) Tryz.func102 rfl rfl Tryz.ntmps102 nZ ?_
 repeat' (first|(refine yL ?_;first|refine a0A rfl ?_|refine eaA ?_|refine yO ?_|(refine yC ?_ ?_<;>intro hc)|(refine yV ?_;first|(refine oC 131 ?_;refine a3A (f:=131) rfl rfl rfl  (.val (.int .i64 (m7A (aqA p)))) (by intro u1 w e hu1;(try obtain rfl:u1=_:=hu1);exact z3A _ _ (aqA p) (h.ext e) (doA p) hn) ?_))|(refine yN hK ?_;clear hK K))|refine wG ?_|(refine yR ?_;intro K hK)|fail)
 all_goals exact afA rfl rfl (Ext.refl _) rfl
theorem gzA {w:World} {v:Value} {p:Nat→Bool} {kk:Int} (h:Cn A w v p kk):Fc Tryz.prog 65 #[v] w (Ret w (.val (.int .i64 (cnt p 65536)))):=by
 have hk:∀ w',Ext w w'→_:=λ w' e=>fgA (h.ext e)
 have hll:=b1A p 65536;obtain ⟨hp,⟨rfl,kd,va,hkd,rfl,ho⟩|⟨rfl,vw,rfl,ho⟩|⟨rfl,vr,rfl,ho⟩⟩:=h
 ·skip
  refine Fc.of (args:=[_]) Tryz.func65 rfl rfl Tryz.ntmps65 nZ ?_
  repeat' (first|(refine yL ?_;first|refine a0A rfl ?_|refine eaA ?_|refine dmA (c:=.agg #[.nilFunc,.func (.func 100) #[] #[],.func (.func 101) #[] #[],.func (.func 102) #[] #[]]) rfl rfl rfl rfl (λ _=>by kernel_rfl) ?_|(refine e8A 1 (c:=.func (.func 100) #[] #[]) rfl rfl (λ _=>rfl) rfl rfl rfl dZ (λ _=>by kernel_rfl) ?_)|refine yO ?_|(refine yC ?_ ?_<;>intro hc)|(refine yV ?_;first|(refine oC 63 ?_;refine a3A (f:=63) rfl rfl rfl _ (by intro u1 w' e hu1;obtain rfl:u1=_:=hu1;exact hk w' e) ?_)|(refine a3A (f:=100) rfl rfl rfl (.val (.int .i64 (cnt p 65536))) (by intro u1 w' e hu1;obtain rfl:u1=_:=hu1;exact by rw [← hll];exact wmA (ho.ext e).slI) ?_))|(refine yN hK ?_;clear hK K))|refine wG ?_|(refine yR ?_;intro K hK)|fail)
  all_goals exact afA rfl rfl (Ext.refl _) rfl
 ·skip
  refine Fc.of (args:=[_]) Tryz.func65 rfl rfl Tryz.ntmps65 nZ ?_
  repeat' (first|(refine yL ?_;first|refine a0A rfl ?_|refine eaA ?_|refine dmA (c:=.agg #[.nilFunc,.func (.func 100) #[] #[],.func (.func 101) #[] #[],.func (.func 102) #[] #[]]) rfl rfl rfl rfl (λ _=>by kernel_rfl) ?_|(refine e8A 2 (c:=.func (.func 101) #[] #[]) rfl rfl (λ _=>rfl) rfl rfl rfl dZ (λ _=>by kernel_rfl) ?_)|refine yO ?_|(refine yC ?_ ?_<;>intro hc)|(refine yV ?_;first|(refine oC 63 ?_;refine a3A (f:=63) rfl rfl rfl _ (by intro u1 w' e hu1;obtain rfl:u1=_:=hu1;exact hk w' e) ?_)|(refine a3A (f:=101) rfl rfl rfl (.val (.int .i64 (cnt p 65536))) (by intro u1 w' e hu1;obtain rfl:u1=_:=hu1;exact ulA (ho.ext e).slI) ?_))|(refine yN hK ?_;clear hK K))|refine wG ?_|(refine yR ?_;intro K hK)|fail)
  all_goals exact afA rfl rfl (Ext.refl _) rfl
 ·skip
  refine Fc.of (args:=[_]) Tryz.func65 rfl rfl Tryz.ntmps65 nZ ?_
  repeat' (first|(refine yL ?_;first|refine a0A rfl ?_|refine eaA ?_|refine dmA (c:=.agg #[.nilFunc,.func (.func 100) #[] #[],.func (.func 101) #[] #[],.func (.func 102) #[] #[]]) rfl rfl rfl rfl (λ _=>by kernel_rfl) ?_|(refine e8A 3 (c:=.func (.func 102) #[] #[]) rfl rfl (λ _=>rfl) rfl rfl rfl dZ (λ _=>by kernel_rfl) ?_)|refine yO ?_|(refine yC ?_ ?_<;>intro hc)|(refine yV ?_;first|(refine oC 63 ?_;refine a3A (f:=63) rfl rfl rfl _ (by intro u1 w' e hu1;obtain rfl:u1=_:=hu1;exact hk w' e) ?_)|(refine a3A (f:=102) rfl rfl rfl (.val (.int .i64 (cnt p 65536))) (by intro u1 w' e hu1;obtain rfl:u1=_:=hu1;exact uuA (ho.ext e).slR) ?_))|(refine yN hK ?_;clear hK K))|refine wG ?_|(refine yR ?_;intro K hK)|fail)
  all_goals exact afA rfl rfl (Ext.refl _) rfl
theorem a7B (p:Nat→Bool) (x:Nat) (hx:x<65536):dkA (ahA p 65536) (x:Int)=p x:=by
 rw [fjA _ (c9A p _)];exact d8A p hx
theorem wnA {w:World} {va vw vr:Value} {kd:Int} {p:Nat→Bool} {x:Nat} (h:SlI .u16 w va (ahA p 65536)) (hx:x<65536):Fc Tryz.prog 134 #[.agg #[.int .u8 kd,va,vw,vr],.int .u16 x] w (Ret w (.val (.bool (p x)))):=by
 have hf:=a7B p x hx;have hn:(ahA p 65536).length≤4611686018427387903:=by rw [b1A];have:=cnt_le p 65536;omega
 refine Fc.of (args:=[_,_]) Tryz.func134 rfl rfl Tryz.ntmps134 nZ ?_
 repeat' (first|(refine yL ?_;first|refine a0A rfl ?_|refine eaA ?_|refine yO ?_|(refine yC ?_ ?_<;>intro hc)|(refine yV ?_;first|(refine oC 179 ?_;refine a4A (f:=179) rfl rfl rfl rfl  (.tup2 (.val (.int .i64 (bsS (ahA p 65536) x))) (.val (.bool (p x)))) (by intro u1 u2 w e hu1 hu2;(try obtain rfl:u1=_:=hu1);(try obtain rfl:u2=_:=hu2);exact v4A rfl (by rw [hf]) (yaA _ _ (ahA p 65536) x (h.ext e) hn)) ?_))|(refine yN hK ?_;clear hK K))|refine wG ?_|(refine yR ?_;intro K hK)|fail)
 all_goals exact afA rfl rfl (Ext.refl _) rfl
theorem umA {w:World} {va vw vr:Value} {kd:Int} {p:Nat→Bool} {x:Nat} (h:SlI .u64 w vw (wordsOf p)) (hx:x<65536):Fc Tryz.prog 135 #[.agg #[.int .u8 kd,va,vw,vr],.int .u16 x] w (Ret w (.val (.bool (p x)))):=by
 refine Fc.of (args:=[_,_]) Tryz.func135 rfl rfl Tryz.ntmps135 nZ ?_
 repeat' (first|(refine yL ?_;first|refine a0A rfl ?_|refine eaA ?_|refine yO ?_|(refine yC ?_ ?_<;>intro hc)|(refine yV ?_;first|(refine oC 180 ?_;refine a4A (f:=180) rfl rfl rfl rfl  (.val (.bool (p x))) (by intro u1 u2 w e hu1 hu2;(try obtain rfl:u1=_:=hu1);(try obtain rfl:u2=_:=hu2);exact whasP _ _ p (h.ext e) x hx) ?_))|(refine yN hK ?_;clear hK K))|refine wG ?_|(refine yR ?_;intro K hK)|fail)
 all_goals exact afA rfl rfl (Ext.refl _) rfl
theorem uvA {w:World} {va vw vr:Value} {kd:Int} {p:Nat→Bool} {x:Nat} (h:SlR w vr (aqA p)) (hx:x<65536):Fc Tryz.prog 136 #[.agg #[.int .u8 kd,va,vw,vr],.int .u16 x] w (Ret w (.val (.bool (p x)))):=by
 rw [← ihA p hx];have hn:(aqA p).length≤70000:=by have:=dcA p;omega
 refine Fc.of (args:=[_,_]) Tryz.func136 rfl rfl Tryz.ntmps136 nZ ?_
 repeat' (first|(refine yL ?_;first|refine a0A rfl ?_|refine eaA ?_|refine yO ?_|(refine yC ?_ ?_<;>intro hc)|(refine yV ?_;first|(refine oC 181 ?_;refine a4A (f:=181) rfl rfl rfl rfl  (.val (.bool (inR (aqA p) x))) (by intro u1 u2 w e hu1 hu2;(try obtain rfl:u1=_:=hu1);(try obtain rfl:u2=_:=hu2);exact z6A _ _ (aqA p) x (h.ext e) (doA p) (eyA p) hx hn) ?_))|(refine yN hK ?_;clear hK K))|refine wG ?_|(refine yR ?_;intro K hK)|fail)
 all_goals exact afA rfl rfl (Ext.refl _) rfl
theorem icA {w:World} {v:Value} {p:Nat→Bool} {kk:Int} {x:Nat} (h:Cn A w v p kk) (hx:x<65536):Fc Tryz.prog 105 #[v,.int .u16 x] w (Ret w (.val (.bool (p x)))):=by
 have hk:∀ w',Ext w w'→_:=λ w' e=>fgA (h.ext e)
 obtain ⟨hp,⟨rfl,kd,va,hkd,rfl,ho⟩|⟨rfl,vw,rfl,ho⟩|⟨rfl,vr,rfl,ho⟩⟩:=h
 ·skip
  refine Fc.of (args:=[_,_]) Tryz.func105 rfl rfl Tryz.ntmps105 nZ ?_
  repeat' (first|(refine yL ?_;first|refine a0A rfl ?_|refine eaA ?_|refine dmA (c:=.agg #[.nilFunc,.func (.func 134) #[] #[],.func (.func 135) #[] #[],.func (.func 136) #[] #[]]) rfl rfl rfl rfl (λ _=>by kernel_rfl) ?_|(refine e8A 1 (c:=.func (.func 134) #[] #[]) rfl rfl (λ _=>rfl) rfl rfl rfl dZ (λ _=>by kernel_rfl) ?_)|refine yO ?_|(refine yC ?_ ?_<;>intro hc)|(refine yV ?_;first|(refine oC 63 ?_;refine a3A (f:=63) rfl rfl rfl _ (by intro u1 w' e hu1;obtain rfl:u1=_:=hu1;exact hk w' e) ?_)|(refine a4A (f:=134) rfl rfl rfl rfl (.val (.bool (p x))) (by intro u1 u2 w' e hu1 hu2;obtain rfl:u1=_:=hu1;obtain rfl:u2=_:=hu2;exact wnA (ho.ext e).slI hx) ?_))|(refine yN hK ?_;clear hK K))|refine wG ?_|(refine yR ?_;intro K hK)|fail)
  all_goals exact afA rfl rfl (Ext.refl _) rfl
 ·skip
  refine Fc.of (args:=[_,_]) Tryz.func105 rfl rfl Tryz.ntmps105 nZ ?_
  repeat' (first|(refine yL ?_;first|refine a0A rfl ?_|refine eaA ?_|refine dmA (c:=.agg #[.nilFunc,.func (.func 134) #[] #[],.func (.func 135) #[] #[],.func (.func 136) #[] #[]]) rfl rfl rfl rfl (λ _=>by kernel_rfl) ?_|(refine e8A 2 (c:=.func (.func 135) #[] #[]) rfl rfl (λ _=>rfl) rfl rfl rfl dZ (λ _=>by kernel_rfl) ?_)|refine yO ?_|(refine yC ?_ ?_<;>intro hc)|(refine yV ?_;first|(refine oC 63 ?_;refine a3A (f:=63) rfl rfl rfl _ (by intro u1 w' e hu1;obtain rfl:u1=_:=hu1;exact hk w' e) ?_)|(refine a4A (f:=135) rfl rfl rfl rfl (.val (.bool (p x))) (by intro u1 u2 w' e hu1 hu2;obtain rfl:u1=_:=hu1;obtain rfl:u2=_:=hu2;exact umA (ho.ext e).slI hx) ?_))|(refine yN hK ?_;clear hK K))|refine wG ?_|(refine yR ?_;intro K hK)|fail)
  all_goals exact afA rfl rfl (Ext.refl _) rfl
 ·skip
  refine Fc.of (args:=[_,_]) Tryz.func105 rfl rfl Tryz.ntmps105 nZ ?_
  repeat' (first|(refine yL ?_;first|refine a0A rfl ?_|refine eaA ?_|refine dmA (c:=.agg #[.nilFunc,.func (.func 134) #[] #[],.func (.func 135) #[] #[],.func (.func 136) #[] #[]]) rfl rfl rfl rfl (λ _=>by kernel_rfl) ?_|(refine e8A 3 (c:=.func (.func 136) #[] #[]) rfl rfl (λ _=>rfl) rfl rfl rfl dZ (λ _=>by kernel_rfl) ?_)|refine yO ?_|(refine yC ?_ ?_<;>intro hc)|(refine yV ?_;first|(refine oC 63 ?_;refine a3A (f:=63) rfl rfl rfl _ (by intro u1 w' e hu1;obtain rfl:u1=_:=hu1;exact hk w' e) ?_)|(refine a4A (f:=136) rfl rfl rfl rfl (.val (.bool (p x))) (by intro u1 u2 w' e hu1 hu2;obtain rfl:u1=_:=hu1;obtain rfl:u2=_:=hu2;exact uvA (ho.ext e).slR hx) ?_))|(refine yN hK ?_;clear hK K))|refine wG ?_|(refine yR ?_;intro K hK)|fail)
  all_goals exact afA rfl rfl (Ext.refl _) rfl
end Go.Proofs.YtbokphkfojijoaaGreatDoor
end
section
namespace Go.Proofs.YtbokphkfojijoaaGreatDoor
open Go.LA Go.ArrP Go.RowKit
variable {A:Nat→Prop}
theorem SlI.nil16 {w:World}:SlI .u16 w (.slice none 0 0) []:=⟨rfl,none,0,rfl,Nat.le_refl _,Nat.zero_le _,λ _=>rfl,.inl rfl⟩
theorem w3A {rs:List Rn} (hr:Right rs) (hu:U16 rs) {k:Nat} (hk:k<rs.length):wordsOf (meA (inR (rs.take k)) (fst rs k) (fst rs k+mor rs k+1))=wordsOf (inR (rs.take (k+1))):=bgA λ i _=>by
 have h0:=(lyA hr hu k oZ).1 i;have h1:=(hr k hk).1;rw [h7A hk,jcA,jbA];unfold meA
 by_cases h2:fst rs k≤(i:Int)
 ·rw [h0 oZ,decide_eq_true h2]
  by_cases h3:(i:Int)≤fst rs k+mor rs k
  ·rw [decide_eq_true (by omega:(i:Int)<fst rs k+mor rs k+1),decide_eq_true h3];rfl
  ·rw [decide_eq_false (by omega:¬ (i:Int)<fst rs k+mor rs k+1),decide_eq_false h3];rfl
 ·rw [decide_eq_false h2]
  cases inR (rs.take k) i <;> rfl
theorem hgA (w:World) (v:Value) (xs:List Int) (h:SlI .u16 w v xs) (hb:xs.length≤65536):Fc Tryz.prog 99 #[v] w (Ret w (.pred (b4A w.heap.size 31 .u16 xs))) :=
 t9A w v xs.length (xs.map (Value.int .u16)) h c4A oZ
theorem miA (w:World) (v:Value) (xs:List Int) (h:SlI .u64 w v xs) (hb:xs.length≤65536):Fc Tryz.prog 132 #[v] w (Ret w (.pred (b4A w.heap.size 61 .u64 xs))) :=
 t7A w v xs.length (xs.map (Value.int .u64)) h c4A oZ
theorem plA (w:World) (v:Value) (rs:List Rn) (h:SlR w v rs) (hb:rs.length≤65536):Fc Tryz.prog 94 #[v] w (Ret w (.pred (fdA w.heap.size 105 rs))) :=
 mhA w v rs.length (d0A rs) h (hwA rs) oZ
theorem scA (p:Nat→Bool):(ahA p 65536).length≤65536:=by rw [b1A];exact cnt_le p 65536
theorem nzA {w:World} {v:Value} {p:Nat→Bool} {kk:Int} (h:Cn A w v p kk) (hT:Tab w):Fc Tryz.prog 96 #[v] w (Ret w (.pred (b4A w.heap.size 31 .u16 (ahA p 65536)))):=by
 have hl:fqA (aqA p)=ahA p 65536:=p3A p 65536;have hn:(aqA p).length≤70000:=by have:=dcA p;omega
 obtain ⟨hp,⟨rfl,kd,va,hkd,rfl,ho⟩|⟨rfl,vw,rfl,ho⟩|⟨rfl,vr,rfl,ho⟩⟩:=h
 ·refine Fc.of (args:=[_]) Tryz.func96 rfl rfl Tryz.ntmps96 nZ ?_
  repeat' (first|(refine yL ?_;first|refine a0A rfl ?_|refine eaA ?_|refine yO ?_|(refine yC ?_ ?_<;>intro hc)|(refine yV ?_;first|(refine oC 99 ?_;refine a3A (f:=99) rfl rfl rfl  (.pred (b4A _ 31 .u16 (ahA p 65536))) (by intro u1 w e hu1;(try obtain rfl:u1=_:=hu1);exact (hgA _ _ _ (ho.ext e).slI (scA p)).mono (a8A e.size)) ?_))|(refine yN hK ?_;clear hK K))|refine wG ?_|(refine yR ?_;intro K hK)|fail)
  all_goals exact aiA rfl rfl (Ext.refl _) (λ _ _ _ hv=>hv)
 ·refine Fc.of (args:=[_]) Tryz.func96 rfl rfl Tryz.ntmps96 nZ ?_
  repeat' (first|(refine yL ?_;first|refine a0A rfl ?_|refine eaA ?_|refine yO ?_|(refine yC ?_ ?_<;>intro hc)|(refine yV ?_;first|(refine oC 128 ?_;refine a3A (f:=128) rfl rfl rfl  (.pred (b4A _ 31 .u16 (ahA p 65536))) (by intro u1 w e hu1;(try obtain rfl:u1=_:=hu1);exact (blB _ _ p (ho.ext e).slI (hT.ext e)).mono (a8A e.size)) ?_))|(refine yN hK ?_;clear hK K))|refine wG ?_|(refine yR ?_;intro K hK)|fail)
  all_goals exact aiA rfl rfl (Ext.refl _) (λ _ _ _ hv=>hv)
 ·refine Fc.of (args:=[_]) Tryz.func96 rfl rfl Tryz.ntmps96 nZ ?_
  repeat' (first|(refine yL ?_;first|refine a0A rfl ?_|refine eaA ?_|refine yO ?_|(refine yC ?_ ?_<;>intro hc)|(refine yV ?_;first|(refine oC 129 ?_;refine a3A (f:=129) rfl rfl rfl  (.pred (b4A _ 31 .u16 (ahA p 65536))) (by intro u1 w e hu1;(try obtain rfl:u1=_:=hu1);exact by rw [← hl];exact (v2A _ _ _ (ho.ext e).slR (doA p) (eyA p) hn).mono (a8A e.size)) ?_))|(refine yN hK ?_;clear hK K))|refine wG ?_|(refine yR ?_;intro K hK)|fail)
  all_goals exact aiA rfl rfl (Ext.refl _) (λ _ _ _ hv=>hv)
theorem cfB {w:World} {v:Value} {p:Nat→Bool} {kk:Int} (h:Cn A w v p kk):Fc Tryz.prog 127 #[v] w (Ret w (.val (.int .i64 (cnt (bbA p) 65536)))):=by
 have hm:(aqA p).length=cnt (bbA p) 65536:=f8A p 65536;have hr:=n3A p;obtain ⟨hp,⟨rfl,kd,va,hkd,rfl,ho⟩|⟨rfl,vw,rfl,ho⟩|⟨rfl,vr,rfl,ho⟩⟩:=h
 ·refine Fc.of (args:=[_]) Tryz.func127 rfl rfl Tryz.ntmps127 nZ ?_
  repeat' (first|(refine yL ?_;first|refine a0A rfl ?_|refine eaA ?_|refine yO ?_|(refine yC ?_ ?_<;>intro hc)|(refine yV ?_;first|(refine oC 175 ?_;refine a3A (f:=175) rfl rfl rfl  (.val (.int .i64 (cnt (bbA p) 65536))) (by intro u1 w e hu1;(try obtain rfl:u1=_:=hu1);exact atA (by rw [hr]) (bvB _ _ _ (ho.ext e).slI)) ?_))|(refine yN hK ?_;clear hK K))|refine wG ?_|(refine yR ?_;intro K hK)|fail)
  all_goals exact afA rfl rfl (Ext.refl _) rfl
 ·refine Fc.of (args:=[_]) Tryz.func127 rfl rfl Tryz.ntmps127 nZ ?_
  repeat' (first|(refine yL ?_;first|refine a0A rfl ?_|refine eaA ?_|refine yO ?_|(refine yC ?_ ?_<;>intro hc)|(refine yV ?_;first|(refine oC 174 ?_;refine a3A (f:=174) rfl rfl rfl  (.val (.int .i64 (cnt (bbA p) 65536))) (by intro u1 w e hu1;(try obtain rfl:u1=_:=hu1);exact bhB _ _ p (ho.ext e).slI) ?_))|(refine yN hK ?_;clear hK K))|refine wG ?_|(refine yR ?_;intro K hK)|fail)
  all_goals exact afA rfl rfl (Ext.refl _) rfl
 ·have hs:=ho.slR
  rw [← hm];refine Fc.of (args:=[_]) Tryz.func127 rfl rfl Tryz.ntmps127 nZ ?_
  repeat' (first|(refine yL ?_;first|refine a0A rfl ?_|refine eaA ?_|(refine cnA ?_;refine bvA rfl _ rfl rfl (HasR.val hs) ?_)|refine yO ?_|(refine yC ?_ ?_<;>intro hc)|(refine yN hK ?_;clear hK K))|refine wG ?_|(refine yR ?_;intro K hK)|fail)
  all_goals exact afA rfl rfl (Ext.refl _) rfl
def rgA (p:Nat→Bool) (kk:Int):Int:=if kk=2 then 8192 else if kk=3 then 2+4*(cnt (bbA p) 65536:Int) else 2*(cnt p 65536:Int)
theorem btB {w:World} {v:Value} {p:Nat→Bool} {kk:Int} (h:Cn A w v p kk):Fc Tryz.prog 67 #[v] w (Ret w (.val (.int .i64 (rgA p kk)))):=by
 have hm:(aqA p).length=cnt (bbA p) 65536:=f8A p 65536;have hm':=dcA p;have hl:=b1A p 65536;have hl':=scA p;obtain ⟨hp,⟨rfl,kd,va,hkd,rfl,ho⟩|⟨rfl,vw,rfl,ho⟩|⟨rfl,vr,rfl,ho⟩⟩:=h
 ·have hs:=ho.slI
  have hz:rgA p 1=2*((ahA p 65536).length:Int):=by rw [hl];rfl
  rw [hz];obtain ⟨n,hn⟩:∃ n,n=(ahA p 65536).length:=⟨_,rfl⟩;rw [← hn] at hl' ⊢;refine Fc.of (args:=[_]) Tryz.func67 rfl rfl Tryz.ntmps67 nZ ?_
  repeat' (first|(refine yL ?_;first|refine a0A rfl ?_|refine eaA ?_|(refine cnA ?_;refine akA rfl _ rfl rfl (HasI.val hs).c ?_;rw [← hn])|refine yO ?_|(refine yC ?_ ?_<;>intro hc)|(refine yN hK ?_;clear hK K))|refine wG ?_|(refine yR ?_;intro K hK)|fail)
  all_goals exact afA rfl rfl (Ext.refl _) rfl
 ·refine Fc.of (args:=[_]) Tryz.func67 rfl rfl Tryz.ntmps67 nZ ?_
  repeat' (first|(refine yL ?_;first|refine a0A rfl ?_|refine eaA ?_|refine yO ?_|(refine yC ?_ ?_<;>intro hc)|(refine yN hK ?_;clear hK K))|refine wG ?_|(refine yR ?_;intro K hK)|fail)
  all_goals exact afA rfl rfl (Ext.refl _) rfl
 ·have hs:=ho.slR
  have hz:rgA p 3=2+4*((aqA p).length:Int):=by rw [hm];rfl
  rw [hz];obtain ⟨n,hn⟩:∃ n,n=(aqA p).length:=⟨_,rfl⟩;rw [← hn] at hm' ⊢;refine Fc.of (args:=[_]) Tryz.func67 rfl rfl Tryz.ntmps67 nZ ?_
  repeat' (first|(refine yL ?_;first|refine a0A rfl ?_|refine eaA ?_|(refine cnA ?_;refine bvA rfl _ rfl rfl (HasR.val hs) ?_;rw [← hn])|refine yO ?_|(refine yC ?_ ?_<;>intro hc)|(refine yN hK ?_;clear hK K))|refine wG ?_|(refine yR ?_;intro K hK)|fail)
  all_goals exact afA rfl rfl (Ext.refl _) rfl
theorem lhA {w:World} {v:Value} {p:Nat→Bool} {kk:Int} (h:Cn A w v p kk) (hT:Tab w):Fc Tryz.prog 59 #[v] w (Ret w (.pred (fdA w.heap.size 105 (aqA p)))):=by
 have hm':=dcA p;have hmm:aqA (cdA (ahA p 65536))=aqA p:=foA λ i hi=>d8A p hi
 have ha:∀ w',Ext w w'→_:=λ w' e=>nzA (h.ext e) (hT.ext e)
 obtain ⟨hp,⟨rfl,kd,va,hkd,rfl,ho⟩|⟨rfl,vw,rfl,ho⟩|⟨rfl,vr,rfl,ho⟩⟩:=h
 ·refine Fc.of (args:=[_]) Tryz.func59 rfl rfl Tryz.ntmps59 nZ ?_
  repeat' (first|(refine yL ?_;first|refine a0A rfl ?_|refine eaA ?_|refine yO ?_|(refine yC ?_ ?_<;>intro hc)|(refine yV ?_;first|(refine oC 96 ?_;refine a3A (f:=96) rfl rfl rfl  (.pred (b4A _ 31 .u16 (ahA p 65536))) (by intro u1 w e hu1;(try obtain rfl:u1=_:=hu1);exact (ha _ e).mono (a8A e.size)) ?_)|(refine oC 95 ?_;refine a3A (f:=95) rfl rfl rfl  (.pred (fdA _ 105 (aqA p))) (by intro u1 w e hu1;(try obtain rfl:u1=_:=hu1);exact (xuA _ _ _ (OwnI.slI hu1) (c9A p _) (enA p)).mono (b9A e.size hmm)) ?_))|(refine yN hK ?_;clear hK K))|refine wG ?_|(refine yR ?_;intro K hK)|fail)
  all_goals exact aiA rfl rfl (Ext.refl _) (λ _ _ _ hv=>hv)
 ·refine Fc.of (args:=[_]) Tryz.func59 rfl rfl Tryz.ntmps59 nZ ?_
  repeat' (first|(refine yL ?_;first|refine a0A rfl ?_|refine eaA ?_|refine yO ?_|(refine yC ?_ ?_<;>intro hc)|(refine yV ?_;first|(refine oC 96 ?_;refine a3A (f:=96) rfl rfl rfl  (.pred (b4A _ 31 .u16 (ahA p 65536))) (by intro u1 w e hu1;(try obtain rfl:u1=_:=hu1);exact (ha _ e).mono (a8A e.size)) ?_)|(refine oC 95 ?_;refine a3A (f:=95) rfl rfl rfl  (.pred (fdA _ 105 (aqA p))) (by intro u1 w e hu1;(try obtain rfl:u1=_:=hu1);exact (xuA _ _ _ (OwnI.slI hu1) (c9A p _) (enA p)).mono (b9A e.size hmm)) ?_))|(refine yN hK ?_;clear hK K))|refine wG ?_|(refine yR ?_;intro K hK)|fail)
  all_goals exact aiA rfl rfl (Ext.refl _) (λ _ _ _ hv=>hv)
 ·refine Fc.of (args:=[_]) Tryz.func59 rfl rfl Tryz.ntmps59 nZ ?_
  repeat' (first|(refine yL ?_;first|refine a0A rfl ?_|refine eaA ?_|refine yO ?_|(refine yC ?_ ?_<;>intro hc)|(refine yV ?_;first|(refine oC 94 ?_;refine a3A (f:=94) rfl rfl rfl  (.pred (fdA _ 105 (aqA p))) (by intro u1 w e hu1;(try obtain rfl:u1=_:=hu1);exact (plA _ _ _ (ho.ext e).slR hm').mono (b9A e.size rfl)) ?_))|(refine yN hK ?_;clear hK K))|refine wG ?_|(refine yR ?_;intro K hK)|fail)
  all_goals exact aiA rfl rfl (Ext.refl _) (λ _ _ _ hv=>hv)
end Go.Proofs.YtbokphkfojijoaaGreatDoor
end
section
namespace Go.Proofs.YtbokphkfojijoaaGreatDoor
open Go.LA Go.ArrP Go.RowKit
variable {A:Nat→Prop}
theorem ijA {w:World} {v:Value} {p:Nat→Bool} {kk:Int} (h:Cn A w v p kk):Fc Tryz.prog 103 #[v] w (Ret w (.pred (b4A w.heap.size 61 .u64 (wordsOf p)))):=by
 have hm':=dcA p;have hwl:=axA p;obtain ⟨hp,⟨rfl,kd,va,hkd,rfl,ho⟩|⟨rfl,vw,rfl,ho⟩|⟨rfl,vr,rfl,ho⟩⟩:=h
 ·have hww:wordsOf (cdA (ahA p 65536))=wordsOf p:=bgA λ i hi=>d8A p hi
  refine Fc.of (args:=[_]) Tryz.func103 rfl rfl Tryz.ntmps103 nZ ?_
  repeat' (first|(refine yL ?_;first|refine a0A rfl ?_|refine eaA ?_|refine yO ?_|(refine yC ?_ ?_<;>intro hc)|(refine yV ?_;first|(refine oC 133 ?_;refine a3A (f:=133) rfl rfl rfl  (.pred (b4A _ 61 .u64 (wordsOf p))) (by intro u1 w e hu1;(try obtain rfl:u1=_:=hu1);exact (bkB _ _ _ (ho.ext e).slI (enA p)).mono (q4A e.size hww)) ?_))|(refine yN hK ?_;clear hK K))|refine wG ?_|(refine yR ?_;intro K hK)|fail)
  all_goals exact aiA rfl rfl (Ext.refl _) (λ _ _ _ hv=>hv)
 ·refine Fc.of (args:=[_]) Tryz.func103 rfl rfl Tryz.ntmps103 nZ ?_
  repeat' (first|(refine yL ?_;first|refine a0A rfl ?_|refine eaA ?_|refine yO ?_|(refine yC ?_ ?_<;>intro hc)|(refine yV ?_;first|(refine oC 132 ?_;refine a3A (f:=132) rfl rfl rfl  (.pred (b4A _ 61 .u64 (wordsOf p))) (by intro u1 w e hu1;(try obtain rfl:u1=_:=hu1);exact (miA _ _ _ (ho.ext e).slI oZ).mono (a8A e.size)) ?_))|(refine yN hK ?_;clear hK K))|refine wG ?_|(refine yR ?_;intro K hK)|fail)
  all_goals exact aiA rfl rfl (Ext.refl _) (λ _ _ _ hv=>hv)
 ·have hww:wordsOf (inR (aqA p))=wordsOf p:=bgA λ i hi=>ihA p hi
  rw [← hww];have h:=ho.slR;have hu:=doA p;have hr:=eyA p;obtain ⟨rs,hrs⟩:∃ rs,rs=aqA p:=⟨_,rfl⟩;rw [← hrs] at h hu hr hm' ⊢;have hlen:=h.len;refine Fc.of (args:=[_]) Tryz.func103 rfl rfl Tryz.ntmps103 nZ ?_
  repeat' (first|(refine yL ?_;first|refine a0A rfl ?_|refine eaA ?_|(refine oI ?_;refine baA rfl _ rfl (λ _=>rfl) rfl jZ rfl oZ ?_)|(refine oLt 105 ?_;refine auA rfl (λ _=>rfl) (λ _=>rfl) rfl ?_)|(show LA _ _ _ _ (⟨some 99,.alloc _,_,_,_,_⟩::_) _;refine a2A (hK _ _ (caA rfl rfl dZ (λ _=>rfl) (λ _=>rfl) (λ _=>rfl) rfl (by intro u hu;simp [Value.cells] at hu;rcases hu with rfl|rfl <;> rfl) (λ bx wx ex hbx hbc=>?_)));clear hK K;refine aeA kZ (λ K hK=>?_))|(refine oF 0 ?_;refine a1A (a:=⟨bx,0,none⟩) (a':=⟨bx,0,none⟩) rfl rfl (λ _=>rfl) ?_)|(refine oF 1 ?_;refine a1A (a:=⟨bx,0,none⟩) (a':=⟨bx,1,none⟩) rfl rfl (λ _=>rfl) ?_)|(refine oLt 105 ?_;refine biA rfl (λ _=>rfl) (λ _=>rfl) rfl hbc ?_)|(refine oLt 31 ?_;refine a6A rfl (λ _=>rfl) rfl hbc rfl ?_)|(refine cnA ?_;refine bvA rfl _ rfl rfl jZ ?_)|refine yO ?_|(refine yC ?_ ?_<;>intro hc)|(refine yV ?_;first|(refine oC 133 ?_;refine a3A (f:=133) rfl rfl rfl  (.pred (b4A w.heap.size 61 .u64 (wordsOf (inR [])))) (by intro u1 w e hu1;(try obtain rfl:u1=_:=hu1);exact (bkB _ _ [] SlI.nil16 (λ x hx=>by cases hx)).mono (q4A e.size (bgA λ i _=>by simp [cdA,inR]))) ?_))|(refine yN hK ?_;clear hK K))|refine wG ?_|(refine yR ?_;intro K hK)|fail)
  refine c2A 3 rfl (λ v3 w3 e3 h3=>?_);have h3:OwnI w.heap.size 61 .u64 w3 v3 (wordsOf (inR [])):=h3
  refine abA (ι:=Nat × Value) (λ i=>[(3,.val i.2),(17,.val vr),(18,.val (.int .i64 rs.length)),(19,.val (.int .i64 i.1))]) (λ i w'=>Ext w w'∧i.1≤rs.length∧OwnI w.heap.size 61 .u64 w' i.2 (wordsOf (inR (rs.take i.1)))) (λ i=>rs.length-i.1)
   (λ w2 e2=>⟨(0,v3),⟨e3.trans e2,Nat.zero_le _,by dsimp only;rw [List.take_zero];exact h3.ext e2⟩,sZ⟩) ?_
  rintro ⟨k,so⟩ w1 ⟨he,hk,ho⟩;dsimp only at hk ho ⊢;have h1:=h.ext he
  by_cases hkl:k<rs.length
  ·obtain ⟨u1,u2,u3,u4⟩:=hu.at k
   obtain ⟨-,hr2⟩:=hr k hkl;have hfr:=w3A hr hu hkl
   repeat' (first|(refine yL ?_;first|refine a0A rfl ?_|(refine oI ?_;refine baA rfl _ rfl (λ _=>rfl) rfl jZ rfl oZ ?_)|(refine oLt 105 ?_;refine auA rfl (λ _=>rfl) (λ _=>rfl) rfl ?_)|(show LA _ _ _ _ (⟨some 5,.alloc _,_,_,_,_⟩::_) _;refine a2A (hK _ _ (caA rfl rfl dZ (λ _=>rfl) (λ _=>rfl) (λ _=>rfl) rfl (by intro u hu;simp [Value.cells] at hu;rcases hu with rfl|rfl <;> rfl) (λ bx wx ex hbx hbc=>?_)));clear hK K;refine aeA kZ (λ K hK=>?_))|(refine oF 0 ?_;refine a1A (a:=⟨bx,0,none⟩) (a':=⟨bx,0,none⟩) rfl rfl (λ _=>rfl) ?_)|(refine oF 1 ?_;refine a1A (a:=⟨bx,0,none⟩) (a':=⟨bx,1,none⟩) rfl rfl (λ _=>rfl) ?_)|(refine oLt 105 ?_;refine biA rfl (λ _=>rfl) (λ _=>rfl) rfl hbc ?_)|(refine oLt 31 ?_;refine a6A rfl (λ _=>rfl) rfl hbc rfl ?_)|(refine cnA ?_;refine bvA rfl _ rfl rfl jZ ?_)|refine yO ?_|(refine yC ?_ ?_<;>intro hc)|(refine yV ?_;first|(refine oC 117 ?_;refine b8A (f:=117) rfl rfl rfl rfl rfl  (.pred (b4A w.heap.size 61 .u64 (wordsOf (inR (rs.take (k+1)))))) (by intro u1 u2 u3 w e hu1 hu2 hu3;(try obtain rfl:u1=_:=hu1);(try obtain rfl:u2=_:=hu2);(try obtain rfl:u3=_:=hu3);exact (o8A _ _ (inR (rs.take k)) (OwnI.slI (ho.ext (ex.trans e))) _ _ oZ oZ).mono (q4A (Nat.le_trans he.size (Nat.le_trans ex.size e.size)) hfr)) ?_))|(refine yN hK ?_;clear hK K))|refine wG ?_|(refine yR ?_;intro K hK)|fail)
   refine fbA 3 rfl (λ v4 w4 e4 h4=>?_);have h4:OwnI w.heap.size 61 .u64 w4 v4 (wordsOf (inR (rs.take (k+1)))):=h4;exact a5A (k+1,v4) (λ w5 e5=>⟨he.trans (ex.trans (e4.trans e5)),hkl,h4.ext e5⟩) eZ sZ
  ·obtain rfl:k=rs.length:=oZ
   rw [List.take_length] at ho
   repeat' (first|(refine yL ?_;first|refine a0A rfl ?_|refine yO ?_|(refine yC ?_ ?_<;>intro hc)|(refine yN hK ?_;clear hK K))|refine wG ?_|(refine yR ?_;intro K hK)|fail)
   exact aiA rfl rfl he (λ u w5 e5 hu'=>by obtain rfl:u=_:=hu';exact ho.ext e5)
theorem beA {p:Nat→Bool} {kk:Int}:Lays (cnP A p kk) 4 96 :=
 ⟨λ v w h=>by
  obtain ⟨kd,va,vw,vr,rfl,-,-,-,-,-,-,h1⟩:=Cn.parts h;exact ⟨_,rfl,rfl,h1⟩,λ v w b cur j cs h hb=>Cn.setRow h hb ⟨by decide,by decide,by decide⟩ cs⟩
theorem keA (p:Nat→Bool):∃ n r:Nat,∃ kq:Int,cnt p 65536=n∧cnt (bbA p) 65536=r∧avA p=kq∧n≤65536∧r≤65536 ∧
 ((n≤4096∧2+4*(r:Int)<2*n∧kq=3)∨(n≤4096∧¬ 2+4*(r:Int)<2*n∧kq=1)∨(¬ n≤4096∧2+4*(r:Int)<8192∧kq=3)∨(¬ n≤4096∧¬ 2+4*(r:Int)<8192∧kq=2)):=by
 refine ⟨_,_,_,rfl,rfl,rfl,cnt_le _ _,cnt_le _ _,?_⟩;unfold avA y5A
 generalize cnt p 65536=n
 generalize cnt (bbA p) 65536=r
 by_cases h1:n≤4096
 ·by_cases h2:2+4*(r:Int)<2*n
  ·exact .inl ⟨h1,h2,by simp [h1,h2]⟩
  ·exact .inr (.inl ⟨h1,h2,by simp [h1,h2]⟩)
 ·by_cases h2:2+4*(r:Int)<8192
  ·exact .inr (.inr (.inl ⟨h1,h2,by simp [h1,h2]⟩))
  ·exact .inr (.inr (.inr ⟨h1,h2,by simp [h1,h2]⟩))
theorem djA {w:World} {v:Value} {p:Nat→Bool} {kk:Int} (h:Cn A w v p kk) (hT:Tab w) (hA:Fsh A w):Fc Tryz.prog 93 #[v] w (Ret w (.pred (cnP A p (avA p)))):=by
 obtain ⟨n,r,kq,en,er,eq,h1,h2,hK⟩:=keA p;have hp:=h.1;have hk:∀ w',Ext w w'→_:=λ w' e=>fgA (h.ext e)
 have hl:∀ w',Ext w w'→_:=λ w' e=>gzA (h.ext e)
 have hm:∀ w',Ext w w'→_:=λ w' e=>cfB (h.ext e)
 have hru:∀ w',Ext w w'→_:=λ w' e=>lhA (h.ext e) (hT.ext e)
 have ha:∀ w',Ext w w'→_:=λ w' e=>nzA (h.ext e) (hT.ext e)
 have hw:∀ w',Ext w w'→_:=λ w' e=>ijA (h.ext e)
 have hs:∀ w',Ext w w'→Cn A w' v p kk:=λ w' e=>h.ext e
 obtain ⟨kd,va,vw,vr,rfl,-,-,-,-,k1,k2,-⟩:=h.parts;rw [en] at hl;rw [er] at hm;rw [eq];clear h en er eq
 rcases hK with ⟨a1,a2,rfl⟩|⟨a1,a2,rfl⟩|⟨a1,a2,rfl⟩|⟨a1,a2,rfl⟩
 ·skip
  by_cases hkk:kk=3
  all_goals
   refine Fc.of (args:=[_]) Tryz.func93 rfl rfl Tryz.ntmps93 nZ ?_
   repeat' (first|(refine yL ?_;first|refine a0A rfl ?_|refine eaA ?_|refine c6A rfl (λ _=>rfl) ?_|(refine agA (j1:=3) (c:=λ u=>.agg #[.int .u8 3,.slice none 0 0,.slice none 0 0,u]) rfl rfl rfl (λ v1 w1 hv1=>by obtain ⟨a',c',rfl⟩:=(OwnR.slR hv1).isSlice;kernel_rfl) ?_)|(refine agA (j1:=1) (c:=λ u=>.agg #[.int .u8 1,u,.slice none 0 0,.slice none 0 0]) rfl rfl rfl (λ v1 w1 hv1=>by obtain ⟨a',c',rfl⟩:=(OwnI.slI hv1).isSlice;kernel_rfl) ?_)|(refine agA (j1:=2) (c:=λ u=>.agg #[.int .u8 2,.slice none 0 0,u,.slice none 0 0]) rfl rfl rfl (λ v1 w1 hv1=>by obtain ⟨a',c',rfl⟩:=(OwnI.slI hv1).isSlice;kernel_rfl) ?_)|(refine a2A (hK _ _ (ciA (φ:=cnP A p 3) (w0:=w) rfl rfl rfl beA (λ v' w' e hv=>?_) rfl (λ _=>rfl) (Ext.refl _) (λ w' e'=>?_)));clear hK K)|refine yO ?_|(refine yC ?_ ?_<;>intro hc)|(refine yV ?_;first|(refine oC 65 ?_;refine a3A (f:=65) rfl rfl rfl  (.val (.int .i64 n)) (by intro u1 w e hu1;(try obtain rfl:u1=_:=hu1);exact hl _ e) ?_)|(refine oC 127 ?_;refine a3A (f:=127) rfl rfl rfl  (.val (.int .i64 r)) (by intro u1 w e hu1;(try obtain rfl:u1=_:=hu1);exact hm _ e) ?_)|(refine oC 63 ?_;refine a3A (f:=63) rfl rfl rfl  (.val (.int .u8 kk)) (by intro u1 w e hu1;(try obtain rfl:u1=_:=hu1);exact hk _ e) ?_)|(refine oC 59 ?_;refine a3A (f:=59) rfl rfl rfl  (.pred (fdA _ 105 (aqA p))) (by intro u1 w e hu1;(try obtain rfl:u1=_:=hu1);exact (hru _ e).mono (b9A e.size rfl)) ?_)|(refine oC 96 ?_;refine a3A (f:=96) rfl rfl rfl  (.pred (b4A _ 31 .u16 (ahA p 65536))) (by intro u1 w e hu1;(try obtain rfl:u1=_:=hu1);exact (ha _ e).mono (a8A e.size)) ?_)|(refine oC 103 ?_;refine a3A (f:=103) rfl rfl rfl  (.pred (b4A _ 61 .u64 (wordsOf p))) (by intro u1 w e hu1;(try obtain rfl:u1=_:=hu1);exact (hw _ e).mono (a8A e.size)) ?_))|(refine yN hK ?_;clear hK K))|refine wG ?_|(refine yR ?_;intro K hK)|(refine oPX ?_;first|exact d4A rfl rfl rfl rfl rfl (by assumption))|fail)
   all_goals first
    | (obtain rfl:v'=_:=hv;exact hkk▸hs _ e)
    | (obtain ⟨u,rfl,hu⟩:=hv;exact Cn.rns hp rfl hu hA)
 ·skip
  by_cases hkk:kk=1
  all_goals
   refine Fc.of (args:=[_]) Tryz.func93 rfl rfl Tryz.ntmps93 nZ ?_
   repeat' (first|(refine yL ?_;first|refine a0A rfl ?_|refine eaA ?_|refine c6A rfl (λ _=>rfl) ?_|(refine agA (j1:=3) (c:=λ u=>.agg #[.int .u8 3,.slice none 0 0,.slice none 0 0,u]) rfl rfl rfl (λ v1 w1 hv1=>by obtain ⟨a',c',rfl⟩:=(OwnR.slR hv1).isSlice;kernel_rfl) ?_)|(refine agA (j1:=1) (c:=λ u=>.agg #[.int .u8 1,u,.slice none 0 0,.slice none 0 0]) rfl rfl rfl (λ v1 w1 hv1=>by obtain ⟨a',c',rfl⟩:=(OwnI.slI hv1).isSlice;kernel_rfl) ?_)|(refine agA (j1:=2) (c:=λ u=>.agg #[.int .u8 2,.slice none 0 0,u,.slice none 0 0]) rfl rfl rfl (λ v1 w1 hv1=>by obtain ⟨a',c',rfl⟩:=(OwnI.slI hv1).isSlice;kernel_rfl) ?_)|(refine a2A (hK _ _ (ciA (φ:=cnP A p 1) (w0:=w) rfl rfl rfl beA (λ v' w' e hv=>?_) rfl (λ _=>rfl) (Ext.refl _) (λ w' e'=>?_)));clear hK K)|refine yO ?_|(refine yC ?_ ?_<;>intro hc)|(refine yV ?_;first|(refine oC 65 ?_;refine a3A (f:=65) rfl rfl rfl  (.val (.int .i64 n)) (by intro u1 w e hu1;(try obtain rfl:u1=_:=hu1);exact hl _ e) ?_)|(refine oC 127 ?_;refine a3A (f:=127) rfl rfl rfl  (.val (.int .i64 r)) (by intro u1 w e hu1;(try obtain rfl:u1=_:=hu1);exact hm _ e) ?_)|(refine oC 63 ?_;refine a3A (f:=63) rfl rfl rfl  (.val (.int .u8 kk)) (by intro u1 w e hu1;(try obtain rfl:u1=_:=hu1);exact hk _ e) ?_)|(refine oC 59 ?_;refine a3A (f:=59) rfl rfl rfl  (.pred (fdA _ 105 (aqA p))) (by intro u1 w e hu1;(try obtain rfl:u1=_:=hu1);exact (hru _ e).mono (b9A e.size rfl)) ?_)|(refine oC 96 ?_;refine a3A (f:=96) rfl rfl rfl  (.pred (b4A _ 31 .u16 (ahA p 65536))) (by intro u1 w e hu1;(try obtain rfl:u1=_:=hu1);exact (ha _ e).mono (a8A e.size)) ?_)|(refine oC 103 ?_;refine a3A (f:=103) rfl rfl rfl  (.pred (b4A _ 61 .u64 (wordsOf p))) (by intro u1 w e hu1;(try obtain rfl:u1=_:=hu1);exact (hw _ e).mono (a8A e.size)) ?_))|(refine yN hK ?_;clear hK K))|refine wG ?_|(refine yR ?_;intro K hK)|(refine oPX ?_;first|exact d4A rfl rfl rfl rfl rfl (by assumption))|fail)
   all_goals first
    | (obtain rfl:v'=_:=hv;exact hkk▸hs _ e)
    | (obtain ⟨u,rfl,hu⟩:=hv;exact Cn.arr hp rfl hu hA)
 ·skip
  by_cases hkk:kk=3
  all_goals
   refine Fc.of (args:=[_]) Tryz.func93 rfl rfl Tryz.ntmps93 nZ ?_
   repeat' (first|(refine yL ?_;first|refine a0A rfl ?_|refine eaA ?_|refine c6A rfl (λ _=>rfl) ?_|(refine agA (j1:=3) (c:=λ u=>.agg #[.int .u8 3,.slice none 0 0,.slice none 0 0,u]) rfl rfl rfl (λ v1 w1 hv1=>by obtain ⟨a',c',rfl⟩:=(OwnR.slR hv1).isSlice;kernel_rfl) ?_)|(refine agA (j1:=1) (c:=λ u=>.agg #[.int .u8 1,u,.slice none 0 0,.slice none 0 0]) rfl rfl rfl (λ v1 w1 hv1=>by obtain ⟨a',c',rfl⟩:=(OwnI.slI hv1).isSlice;kernel_rfl) ?_)|(refine agA (j1:=2) (c:=λ u=>.agg #[.int .u8 2,.slice none 0 0,u,.slice none 0 0]) rfl rfl rfl (λ v1 w1 hv1=>by obtain ⟨a',c',rfl⟩:=(OwnI.slI hv1).isSlice;kernel_rfl) ?_)|(refine a2A (hK _ _ (ciA (φ:=cnP A p 3) (w0:=w) rfl rfl rfl beA (λ v' w' e hv=>?_) rfl (λ _=>rfl) (Ext.refl _) (λ w' e'=>?_)));clear hK K)|refine yO ?_|(refine yC ?_ ?_<;>intro hc)|(refine yV ?_;first|(refine oC 65 ?_;refine a3A (f:=65) rfl rfl rfl  (.val (.int .i64 n)) (by intro u1 w e hu1;(try obtain rfl:u1=_:=hu1);exact hl _ e) ?_)|(refine oC 127 ?_;refine a3A (f:=127) rfl rfl rfl  (.val (.int .i64 r)) (by intro u1 w e hu1;(try obtain rfl:u1=_:=hu1);exact hm _ e) ?_)|(refine oC 63 ?_;refine a3A (f:=63) rfl rfl rfl  (.val (.int .u8 kk)) (by intro u1 w e hu1;(try obtain rfl:u1=_:=hu1);exact hk _ e) ?_)|(refine oC 59 ?_;refine a3A (f:=59) rfl rfl rfl  (.pred (fdA _ 105 (aqA p))) (by intro u1 w e hu1;(try obtain rfl:u1=_:=hu1);exact (hru _ e).mono (b9A e.size rfl)) ?_)|(refine oC 96 ?_;refine a3A (f:=96) rfl rfl rfl  (.pred (b4A _ 31 .u16 (ahA p 65536))) (by intro u1 w e hu1;(try obtain rfl:u1=_:=hu1);exact (ha _ e).mono (a8A e.size)) ?_)|(refine oC 103 ?_;refine a3A (f:=103) rfl rfl rfl  (.pred (b4A _ 61 .u64 (wordsOf p))) (by intro u1 w e hu1;(try obtain rfl:u1=_:=hu1);exact (hw _ e).mono (a8A e.size)) ?_))|(refine yN hK ?_;clear hK K))|refine wG ?_|(refine yR ?_;intro K hK)|(refine oPX ?_;first|exact d4A rfl rfl rfl rfl rfl (by assumption))|fail)
   all_goals first
    | (obtain rfl:v'=_:=hv;exact hkk▸hs _ e)
    | (obtain ⟨u,rfl,hu⟩:=hv;exact Cn.rns hp rfl hu hA)
 ·skip
  by_cases hkk:kk=2
  all_goals
   refine Fc.of (args:=[_]) Tryz.func93 rfl rfl Tryz.ntmps93 nZ ?_
   repeat' (first|(refine yL ?_;first|refine a0A rfl ?_|refine eaA ?_|refine c6A rfl (λ _=>rfl) ?_|(refine agA (j1:=3) (c:=λ u=>.agg #[.int .u8 3,.slice none 0 0,.slice none 0 0,u]) rfl rfl rfl (λ v1 w1 hv1=>by obtain ⟨a',c',rfl⟩:=(OwnR.slR hv1).isSlice;kernel_rfl) ?_)|(refine agA (j1:=1) (c:=λ u=>.agg #[.int .u8 1,u,.slice none 0 0,.slice none 0 0]) rfl rfl rfl (λ v1 w1 hv1=>by obtain ⟨a',c',rfl⟩:=(OwnI.slI hv1).isSlice;kernel_rfl) ?_)|(refine agA (j1:=2) (c:=λ u=>.agg #[.int .u8 2,.slice none 0 0,u,.slice none 0 0]) rfl rfl rfl (λ v1 w1 hv1=>by obtain ⟨a',c',rfl⟩:=(OwnI.slI hv1).isSlice;kernel_rfl) ?_)|(refine a2A (hK _ _ (ciA (φ:=cnP A p 2) (w0:=w) rfl rfl rfl beA (λ v' w' e hv=>?_) rfl (λ _=>rfl) (Ext.refl _) (λ w' e'=>?_)));clear hK K)|refine yO ?_|(refine yC ?_ ?_<;>intro hc)|(refine yV ?_;first|(refine oC 65 ?_;refine a3A (f:=65) rfl rfl rfl  (.val (.int .i64 n)) (by intro u1 w e hu1;(try obtain rfl:u1=_:=hu1);exact hl _ e) ?_)|(refine oC 127 ?_;refine a3A (f:=127) rfl rfl rfl  (.val (.int .i64 r)) (by intro u1 w e hu1;(try obtain rfl:u1=_:=hu1);exact hm _ e) ?_)|(refine oC 63 ?_;refine a3A (f:=63) rfl rfl rfl  (.val (.int .u8 kk)) (by intro u1 w e hu1;(try obtain rfl:u1=_:=hu1);exact hk _ e) ?_)|(refine oC 59 ?_;refine a3A (f:=59) rfl rfl rfl  (.pred (fdA _ 105 (aqA p))) (by intro u1 w e hu1;(try obtain rfl:u1=_:=hu1);exact (hru _ e).mono (b9A e.size rfl)) ?_)|(refine oC 96 ?_;refine a3A (f:=96) rfl rfl rfl  (.pred (b4A _ 31 .u16 (ahA p 65536))) (by intro u1 w e hu1;(try obtain rfl:u1=_:=hu1);exact (ha _ e).mono (a8A e.size)) ?_)|(refine oC 103 ?_;refine a3A (f:=103) rfl rfl rfl  (.pred (b4A _ 61 .u64 (wordsOf p))) (by intro u1 w e hu1;(try obtain rfl:u1=_:=hu1);exact (hw _ e).mono (a8A e.size)) ?_))|(refine yN hK ?_;clear hK K))|refine wG ?_|(refine yR ?_;intro K hK)|(refine oPX ?_;first|exact d4A rfl rfl rfl rfl rfl (by assumption))|fail)
   all_goals first
    | (obtain rfl:v'=_:=hv;exact hkk▸hs _ e)
    | (obtain ⟨u,rfl,hu⟩:=hv;exact Cn.wrd hp rfl hu hA)
end Go.Proofs.YtbokphkfojijoaaGreatDoor
end
section
namespace Go.Proofs.YtbokphkfojijoaaGreatDoor
open Go.LA Go.ArrP Go.RowKit
variable {A:Nat→Prop}
abbrev tC:Nat:=96
theorem byB {w:World} {a a' b:AD} (ha:∀ v w',a.ok v w'→a'.ok v w') (en:Ending) (w':World) (h:Ret w (.tup2 a b) en w'):Ret w (.tup2 a' b) en w':=by
 obtain ⟨v,h1,h2,x,y,h3,h4,h5⟩:=h;exact ⟨v,h1,h2,x,y,h3,ha _ _ h4,h5⟩
structure VarC (A:Nat→Prop) (w:World) (b:Nat) (cs:Array Value) (p:Nat→Bool) (kk:Int):Prop where
 hb:w.heap[b]?=some (.cells cs tC (0,0))
 hn:cs.size=4
 hc:Cn A w (.agg cs) p kk
theorem d9B {w:World} {b:Nat} {o:Obj} (h:w.heap[b]?=some o):b<w.heap.size:=(Array.getElem?_eq_some_iff.1 h).1
theorem akB {w:World} {v:Value} {p:Nat→Bool} {kk:Int} (hp:p 65536=false) (h:Cn A w v (cdA (ahA p 65536)) kk):Cn A w v p kk:=h.congr hp λ i hi=>d8A p hi
end Go.Proofs.YtbokphkfojijoaaGreatDoor
end
section
namespace Go.Proofs.YtbokphkfojijoaaGreatDoor
open Go.LA Go.ArrP Go.RowKit
variable {A:Nat→Prop}
theorem vjA {xs:List Int} (hl:Low xs):cdA xs 65536=false:=by
 unfold cdA;refine decide_eq_false λ h=>?_
 have:=(hl _ h).2;omega
theorem ruA {w:World} {v:Value} {xs:List Int} (h:SlI .u16 w v xs) (hi:Inc xs) (hl:Low xs) (hA:Fsh A w):Fc Tryz.prog 121 #[v] w (Ret w (.tup2 (.pred (cnP A (cdA xs) 1)) (.val (.bool true)))):=by
 have hx:ahA (cdA xs) 65536=xs:=kdA hi hl;have hn:xs.length≤65536:=by rw [← hx];exact scA _
 have hp:=vjA hl;refine Fc.of (args:=[_]) Tryz.func121 rfl rfl Tryz.ntmps121 nZ ?_
 repeat' (first|(refine yL ?_;first|refine a0A rfl ?_|refine c6A rfl (λ _=>rfl) ?_|(refine agA (j1:=1) (c:=λ u=>.agg #[.int .u8 1,u,.slice none 0 0,.slice none 0 0]) rfl rfl rfl (λ v1 w1 hv1=>by obtain ⟨a',c',rfl⟩:=(OwnI.slI hv1).isSlice;kernel_rfl) ?_)|(refine a2A (hK _ _ (ciA (φ:=cnP A (cdA xs) 1) (w0:=w) rfl rfl rfl beA (λ v' w' e hv=>by obtain ⟨u,rfl,hu⟩:=hv;exact Cn.arr hp hx.symm hu hA) rfl (λ _=>rfl) (Ext.refl _) (λ w' e'=>?_)));clear hK K;refine aeA kZ (λ K hK=>?_))|refine yO ?_|(refine yC ?_ ?_<;>intro hc)|(refine yV ?_;first|(refine oC 172 ?_;refine a3A (f:=172) rfl rfl rfl  (.val (.bool true)) (by intro u1 w e hu1;(try obtain rfl:u1=_:=hu1);exact opA (may_c _ _ xs (h.ext e)) (decide_eq_true hi)) ?_)|(refine oC 99 ?_;refine a3A (f:=99) rfl rfl rfl  (.pred (b4A _ 31 .u16 xs)) (by intro u1 w e hu1;(try obtain rfl:u1=_:=hu1);exact (hgA _ _ _ (h.ext e) hn).mono (a8A e.size)) ?_))|(refine yN hK ?_;clear hK K))|refine wG ?_|(refine yR ?_;intro K hK)|(refine oPX ?_;first|exact ioA rfl rfl rfl rfl rfl rfl (by assumption))|fail)
theorem zlA {w:World} {v:Value} {p:Nat→Bool} (h:SlI .u64 w v (wordsOf p)) (hp:p 65536=false) (hA:Fsh A w):Fc Tryz.prog 126 #[v] w (Ret w (.tup2 (.pred (cnP A p 2)) (.val (.bool true)))):=by
 have hn:=axA p;refine Fc.of (args:=[_]) Tryz.func126 rfl rfl Tryz.ntmps126 nZ ?_
 repeat' (first|(refine yL ?_;first|refine a0A rfl ?_|refine c6A rfl (λ _=>rfl) ?_|(refine cnA ?_;refine akA rfl _ rfl rfl (HasI.val h).c ?_;rw [hn])|(refine agA (j1:=2) (c:=λ u=>.agg #[.int .u8 2,.slice none 0 0,u,.slice none 0 0]) rfl rfl rfl (λ v1 w1 hv1=>by obtain ⟨a',c',rfl⟩:=(OwnI.slI hv1).isSlice;kernel_rfl) ?_)|(refine a2A (hK _ _ (ciA (φ:=cnP A p 2) (w0:=w) rfl rfl rfl beA (λ v' w' e hv=>by obtain ⟨u,rfl,hu⟩:=hv;exact Cn.wrd hp rfl hu hA) rfl (λ _=>rfl) (Ext.refl _) (λ w' e'=>?_)));clear hK K;refine aeA kZ (λ K hK=>?_))|refine yO ?_|(refine yC ?_ ?_<;>intro hc)|(refine yV ?_;first|(refine oC 132 ?_;refine a3A (f:=132) rfl rfl rfl  (.pred (b4A _ 61 .u64 (wordsOf p))) (by intro u1 w e hu1;(try obtain rfl:u1=_:=hu1);exact (miA _ _ _ (h.ext e) oZ).mono (a8A e.size)) ?_))|(refine yN hK ?_;clear hK K))|refine wG ?_|(refine yR ?_;intro K hK)|(refine oPX ?_;first|exact ioA rfl rfl rfl rfl rfl rfl (by assumption))|fail)
theorem zmA {w:World} {v:Value} {p:Nat→Bool} (h:SlR w v (aqA p)) (hp:p 65536=false) (hA:Fsh A w):Fc Tryz.prog 124 #[v] w (Ret w (.tup2 (.pred (cnP A p 3)) (.val (.bool true)))):=by
 have hm':=dcA p;refine Fc.of (args:=[_]) Tryz.func124 rfl rfl Tryz.ntmps124 nZ ?_
 repeat' (first|(refine yL ?_;first|refine a0A rfl ?_|refine c6A rfl (λ _=>rfl) ?_|(refine agA (j1:=3) (c:=λ u=>.agg #[.int .u8 3,.slice none 0 0,.slice none 0 0,u]) rfl rfl rfl (λ v1 w1 hv1=>by obtain ⟨a',c',rfl⟩:=(OwnR.slR hv1).isSlice;kernel_rfl) ?_)|(refine a2A (hK _ _ (ciA (φ:=cnP A p 3) (w0:=w) rfl rfl rfl beA (λ v' w' e hv=>by obtain ⟨u,rfl,hu⟩:=hv;exact Cn.rns hp rfl hu hA) rfl (λ _=>rfl) (Ext.refl _) (λ w' e'=>?_)));clear hK K;refine aeA kZ (λ K hK=>?_))|refine yO ?_|(refine yC ?_ ?_<;>intro hc)|(refine yV ?_;first|(refine oC 173 ?_;refine a3A (f:=173) rfl rfl rfl  (.val (.bool true)) (by intro u1 w e hu1;(try obtain rfl:u1=_:=hu1);exact opA (z1A _ _ (aqA p) (h.ext e) (doA p)) (decide_eq_true (eyA p))) ?_)|(refine oC 94 ?_;refine a3A (f:=94) rfl rfl rfl  (.pred (fdA _ 105 (aqA p))) (by intro u1 w e hu1;(try obtain rfl:u1=_:=hu1);exact (plA _ _ _ (h.ext e) hm').mono (b9A e.size rfl)) ?_))|(refine yN hK ?_;clear hK K))|refine wG ?_|(refine yR ?_;intro K hK)|(refine oPX ?_;first|exact ioA rfl rfl rfl rfl rfl rfl (by assumption))|fail)
def flp (p:Nat→Bool) (lo hi:Int):Nat→Bool:=two hvA p (ebA lo hi)
theorem a8B {p:Nat→Bool} (hp:p 65536=false) (lo hi:Int):flp p lo hi 65536=false:=by
 unfold flp two hvA;rw [hp,oeA];rfl
theorem srA (p:Nat→Bool) (lo hi:Int) {i:Nat} (h:i<65536):meA p lo hi i=flp p lo hi i:=by
 unfold flp two hvA meA ebA;rw [decide_eq_true h,Bool.and_true]
theorem crB {w:World} {v:Value} {p:Nat→Bool} {kk:Int} (h:Cn A w v p kk) (hT:Tab w) (hA:Fsh A w) (lo hi:Int) (hlo:-9223372036854775808≤lo∧lo<9223372036854775808) (hhi:-9223372036854775808≤hi∧hi<9223372036854775808) :
 Fc Tryz.prog 78 #[v,.int .i64 lo,.int .i64 hi] w (Ret w (.pred (cnP A (flp p lo hi) (avA (flp p lo hi))))):=by
 have hq:=a8B h.1 lo hi;have hww:wordsOf (meA p lo hi)=wordsOf (flp p lo hi):=bgA λ i hi'=>srA p lo hi hi'
 have hru:∀ w',Ext w w'→_:=λ w' e=>lhA (h.ext e) (hT.ext e)
 obtain ⟨hp,⟨rfl,kd,va,hkd,rfl,ho⟩|⟨rfl,vw,rfl,ho⟩|⟨rfl,vr,rfl,ho⟩⟩:=h
 ·skip
  refine Fc.of (args:=[_,_,_]) Tryz.func78 rfl rfl Tryz.ntmps78 nZ ?_
  repeat' (first|(refine yL ?_;first|refine a0A rfl ?_|refine eaA ?_|refine c6A rfl (λ _=>rfl) ?_|(refine agA (j1:=3) (c:=λ u=>.agg #[.int .u8 3,.slice none 0 0,.slice none 0 0,u]) rfl rfl rfl (λ v1 w1 hv1=>by obtain ⟨a',c',rfl⟩:=(OwnR.slR hv1).isSlice;kernel_rfl) ?_)|(refine agA (j1:=2) (c:=λ u=>.agg #[.int .u8 2,.slice none 0 0,u,.slice none 0 0]) rfl rfl rfl (λ v1 w1 hv1=>by obtain ⟨a',c',rfl⟩:=(OwnI.slI hv1).isSlice;kernel_rfl) ?_)|(refine a2A (hK _ _ (ciA (φ:=cnP A (flp p lo hi) (avA (flp p lo hi))) (w0:=w) rfl rfl rfl beA (λ v' w' e hv=>hv) rfl (λ _=>rfl) (Ext.refl _) (λ w' e'=>?_)));clear hK K)|refine yO ?_|(refine yC ?_ ?_<;>intro hc)|(refine yV ?_;first|(refine oC 117 ?_;refine b8A (f:=117) rfl rfl rfl rfl rfl  (.pred (b4A _ 61 .u64 (wordsOf (flp p lo hi)))) (by intro u1 u2 u3 w e hu1 hu2 hu3;(try obtain rfl:u1=_:=hu1);(try obtain rfl:u2=_:=hu2);(try obtain rfl:u3=_:=hu3);exact (o8A _ _ p (ho.ext e).slI lo hi hlo hhi).mono (q4A e.size hww)) ?_)|(refine oC 59 ?_;refine a3A (f:=59) rfl rfl rfl  (.pred (fdA _ 105 (aqA p))) (by intro u1 w e hu1;(try obtain rfl:u1=_:=hu1);exact (hru _ e).mono (b9A e.size rfl)) ?_)|(refine oC 118 ?_;refine b8A (f:=118) rfl rfl rfl rfl rfl  (.pred (fdA _ 105 (aqA (flp p lo hi)))) (by intro u1 u2 u3 w e hu1 hu2 hu3;(try obtain rfl:u1=_:=hu1);(try obtain rfl:u2=_:=hu2);(try obtain rfl:u3=_:=hu3);exact (kwA _ _ p lo hi hp (OwnR.slR hu1) hlo hhi).mono (b9A e.size rfl)) ?_)|(refine oC 93 ?_;refine a3A (f:=93) rfl rfl rfl  (.pred (cnP A (flp p lo hi) (avA (flp p lo hi)))) (by intro u1 w e hu1;(try obtain rfl:u1=_:=hu1);exact by obtain ⟨u,rfl,hu⟩:=hu1;exact djA (Cn.rns hq rfl hu hA) (hT.ext e) (hA.ext e)) ?_))|(refine yN hK ?_;clear hK K))|refine wG ?_|(refine yR ?_;intro K hK)|(refine oPX ?_;first|exact d4A rfl rfl rfl rfl rfl (by assumption))|fail)
 ·skip
  refine Fc.of (args:=[_,_,_]) Tryz.func78 rfl rfl Tryz.ntmps78 nZ ?_
  repeat' (first|(refine yL ?_;first|refine a0A rfl ?_|refine eaA ?_|refine c6A rfl (λ _=>rfl) ?_|(refine agA (j1:=3) (c:=λ u=>.agg #[.int .u8 3,.slice none 0 0,.slice none 0 0,u]) rfl rfl rfl (λ v1 w1 hv1=>by obtain ⟨a',c',rfl⟩:=(OwnR.slR hv1).isSlice;kernel_rfl) ?_)|(refine agA (j1:=2) (c:=λ u=>.agg #[.int .u8 2,.slice none 0 0,u,.slice none 0 0]) rfl rfl rfl (λ v1 w1 hv1=>by obtain ⟨a',c',rfl⟩:=(OwnI.slI hv1).isSlice;kernel_rfl) ?_)|(refine a2A (hK _ _ (ciA (φ:=cnP A (flp p lo hi) (avA (flp p lo hi))) (w0:=w) rfl rfl rfl beA (λ v' w' e hv=>hv) rfl (λ _=>rfl) (Ext.refl _) (λ w' e'=>?_)));clear hK K)|refine yO ?_|(refine yC ?_ ?_<;>intro hc)|(refine yV ?_;first|(refine oC 117 ?_;refine b8A (f:=117) rfl rfl rfl rfl rfl  (.pred (b4A _ 61 .u64 (wordsOf (flp p lo hi)))) (by intro u1 u2 u3 w e hu1 hu2 hu3;(try obtain rfl:u1=_:=hu1);(try obtain rfl:u2=_:=hu2);(try obtain rfl:u3=_:=hu3);exact (o8A _ _ p (ho.ext e).slI lo hi hlo hhi).mono (q4A e.size hww)) ?_)|(refine oC 59 ?_;refine a3A (f:=59) rfl rfl rfl  (.pred (fdA _ 105 (aqA p))) (by intro u1 w e hu1;(try obtain rfl:u1=_:=hu1);exact (hru _ e).mono (b9A e.size rfl)) ?_)|(refine oC 118 ?_;refine b8A (f:=118) rfl rfl rfl rfl rfl  (.pred (fdA _ 105 (aqA (flp p lo hi)))) (by intro u1 u2 u3 w e hu1 hu2 hu3;(try obtain rfl:u1=_:=hu1);(try obtain rfl:u2=_:=hu2);(try obtain rfl:u3=_:=hu3);exact (kwA _ _ p lo hi hp (OwnR.slR hu1) hlo hhi).mono (b9A e.size rfl)) ?_)|(refine oC 93 ?_;refine a3A (f:=93) rfl rfl rfl  (.pred (cnP A (flp p lo hi) (avA (flp p lo hi)))) (by intro u1 w e hu1;(try obtain rfl:u1=_:=hu1);exact by obtain ⟨u,rfl,hu⟩:=hu1;exact djA (Cn.wrd hq rfl hu hA) (hT.ext e) (hA.ext e)) ?_))|(refine yN hK ?_;clear hK K))|refine wG ?_|(refine yR ?_;intro K hK)|(refine oPX ?_;first|exact d4A rfl rfl rfl rfl rfl (by assumption))|fail)
 ·skip
  refine Fc.of (args:=[_,_,_]) Tryz.func78 rfl rfl Tryz.ntmps78 nZ ?_
  repeat' (first|(refine yL ?_;first|refine a0A rfl ?_|refine eaA ?_|refine c6A rfl (λ _=>rfl) ?_|(refine agA (j1:=3) (c:=λ u=>.agg #[.int .u8 3,.slice none 0 0,.slice none 0 0,u]) rfl rfl rfl (λ v1 w1 hv1=>by obtain ⟨a',c',rfl⟩:=(OwnR.slR hv1).isSlice;kernel_rfl) ?_)|(refine agA (j1:=2) (c:=λ u=>.agg #[.int .u8 2,.slice none 0 0,u,.slice none 0 0]) rfl rfl rfl (λ v1 w1 hv1=>by obtain ⟨a',c',rfl⟩:=(OwnI.slI hv1).isSlice;kernel_rfl) ?_)|(refine a2A (hK _ _ (ciA (φ:=cnP A (flp p lo hi) (avA (flp p lo hi))) (w0:=w) rfl rfl rfl beA (λ v' w' e hv=>hv) rfl (λ _=>rfl) (Ext.refl _) (λ w' e'=>?_)));clear hK K)|refine yO ?_|(refine yC ?_ ?_<;>intro hc)|(refine yV ?_;first|(refine oC 117 ?_;refine b8A (f:=117) rfl rfl rfl rfl rfl  (.pred (b4A _ 61 .u64 (wordsOf (flp p lo hi)))) (by intro u1 u2 u3 w e hu1 hu2 hu3;(try obtain rfl:u1=_:=hu1);(try obtain rfl:u2=_:=hu2);(try obtain rfl:u3=_:=hu3);exact (o8A _ _ p (ho.ext e).slI lo hi hlo hhi).mono (q4A e.size hww)) ?_)|(refine oC 59 ?_;refine a3A (f:=59) rfl rfl rfl  (.pred (fdA _ 105 (aqA p))) (by intro u1 w e hu1;(try obtain rfl:u1=_:=hu1);exact (hru _ e).mono (b9A e.size rfl)) ?_)|(refine oC 118 ?_;refine b8A (f:=118) rfl rfl rfl rfl rfl  (.pred (fdA _ 105 (aqA (flp p lo hi)))) (by intro u1 u2 u3 w e hu1 hu2 hu3;(try obtain rfl:u1=_:=hu1);(try obtain rfl:u2=_:=hu2);(try obtain rfl:u3=_:=hu3);exact (kwA _ _ p lo hi hp (OwnR.slR hu1) hlo hhi).mono (b9A e.size rfl)) ?_)|(refine oC 93 ?_;refine a3A (f:=93) rfl rfl rfl  (.pred (cnP A (flp p lo hi) (avA (flp p lo hi)))) (by intro u1 w e hu1;(try obtain rfl:u1=_:=hu1);exact by obtain ⟨u,rfl,hu⟩:=hu1;exact djA (Cn.rns hq rfl hu hA) (hT.ext e) (hA.ext e)) ?_))|(refine yN hK ?_;clear hK K))|refine wG ?_|(refine yR ?_;intro K hK)|(refine oPX ?_;first|exact d4A rfl rfl rfl rfl rfl (by assumption))|fail)
end Go.Proofs.YtbokphkfojijoaaGreatDoor
end
