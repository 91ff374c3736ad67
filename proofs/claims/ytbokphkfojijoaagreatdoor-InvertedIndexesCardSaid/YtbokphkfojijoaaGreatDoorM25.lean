import Derived.Laws.BitsAllLaws
import Derived.Laws.BytesArg
import Derived.Test.YtbokphkfojijoaaGreatDoorM3
import Derived.Test.YtbokphkfojijoaaGreatDoorM20
import Derived.Test.YtbokphkfojijoaaGreatDoorM21
import Derived.Test.YtbokphkfojijoaaGreatDoorM24
set_option linter.unusedSimpArgs false
set_option linter.unusedVariables false
set_option maxRecDepth 3000
set_option maxHeartbeats 16000000
section
namespace Go.Proofs.YtbokphkfojijoaaGreatDoor.Pt
open Go.LA Go.ArrP Go.RowKit
theorem arB (bc:Nat) (w:World):(Instr.build 85 #[(0,.pointer (some ⟨bc,0,none⟩))]).run Tryz.prog w=.ok (.agg #[.pointer (some ⟨bc,0,none⟩),.int .i64 0]) w:=run_build w _ _ _ (by rfl)
end Go.Proofs.YtbokphkfojijoaaGreatDoor.Pt
end
section
namespace Go.Proofs.YtbokphkfojijoaaGreatDoor
open Go.LA Go.ArrP Go.RowKit
def hdA (ks:Nat→Nat) (qs:Nat→Nat→Bool):Nat→Nat→Bool
 | 0=>λ _=>false
 | i+1=>upd (hdA ks qs i) (ks i) (qs i)
def Dir (ks:Nat→Nat) (qs:Nat→Nat→Bool) (n:Nat):Prop:=∀ i,i<n→0<cnt (qs i) 65536∧(0<i→ks (i-1)<ks i)
theorem mcA {ks:Nat→Nat} {qs:Nat→Nat→Bool} {n:Nat} (hD:Dir ks qs n) (hq:∀ i,i<n→∀ j,65536≤j→qs i j=false):∀ i,i≤n→∀ j,(0<i→ks (i-1)<j)→ne (hdA ks qs i) j=false
 | 0,_,j,_=>j7A j
 | i+1,hi,j,hj=>by
   have h1:=hj (Nat.succ_pos i);rw [Nat.add_sub_cancel] at h1;have h2:=mcA hD hq i oZ j (λ h=>by have:=(hD i oZ).2 h;omega);show ne (upd (hdA ks qs i) (ks i) (qs i)) j=false;rw [upd_ne _ (hq i oZ) (hD i oZ).1,h2,decide_eq_false oZ];rfl
def joinR (d:Bool) (p:Nat→Bool):AD:=match d with
 | true=>.tup2 (.pred (rsP TT TT p)) (.val (.int .i64 0))
 | false=>.tup2 (.val (.pointer none)) (.val (.int .i64 2))
theorem ckB {w:World} {ka la:Value} {xs:List Int} {n:Nat} {Q:List Qd} {kn:Nat→Nat} {qs:Nat→Nat→Bool} {kks:Nat→Int} (hk:SlI .u16 w ka xs) (hl:SlC w la n 4 (bdA Q)) (hn:xs.length=n) (hQ:Q.length=n) (hT:Tab w)
 (hkn:∀ i,i<n→kn i<65536∧xs.getD i 0=(kn i:Int)) (hc:∀ i,i<n→Cn TT w (qv (Q.getD i q0)) (qs i) (kks i)) (hqt:∀ i,i<n→∀ j,65536≤j→qs i j=false) (hn2:n≤1000000) {d:Bool} (hd:d=true↔Dir kn qs n) :
 Fc Tryz.prog 57 #[ka,la] w (Ret w (joinR d (hdA kn qs n))):=by
 have hlh:=hl.len;refine Fc.of (args:=[_,_]) Tryz.func57 rfl rfl Tryz.ntmps57 nZ ?_
 repeat' (first|(refine yL ?_;first|refine a0A rfl ?_|(refine oD 10 ?_;refine akA rfl _ rfl rfl (HasI.val hk).c ?_)|(refine oD 12 ?_;refine akA rfl _ rfl rfl (HasC.val hl) ?_)|(refine oD 16 ?_;refine akA rfl _ rfl rfl (HasC.val (hl.ext (Ext.refl _))) ?_)|refine yO ?_|(refine yC ?_ ?_<;>intro hc)|(refine yV ?_;first|(refine oC 40 ?_;refine dqA (f:=40) rfl rfl  (.pred (rsP (λ k=>w.heap.size≤k) TT (λ _=>false))) (by intro w e;exact new_c _ (λ k hk=>Nat.le_trans e.size hk)) ?_))|(refine yN hK ?_;clear hK K))|refine wG ?_|(refine yR ?_;intro K hK)|fail)
 refine c2A 6 rfl (λ v6 w6 e6 h6=>?_);obtain ⟨b,kv0,lv0,rfl,hS0,hB0⟩:=h6
 refine abA (ι:=Nat) (λ i=>[(0,.val ka),(1,.val la),(6,.val (.pointer (some ⟨b,0,none⟩))),(15,.val la),(16,.val (.int .i64 n)),(17,.val (.int .i64 i))])
  (λ i w'=>Ext w w'∧i≤n∧Dir kn qs i∧∃ kv lv,RS TT w' b kv lv (hdA kn qs i)∧∀ k,onw b kv lv k→w.heap.size≤k) (λ i=>n-i)
  (λ w' e=>⟨0,⟨e6.trans e,Nat.zero_le _,λ i hi=>absurd hi (Nat.not_lt_zero _),kv0,lv0,hS0.ext e,hB0⟩,sZ⟩) ?_
 rintro i w1 ⟨he,hi,hDi,kv,lv,hS,hB⟩;have hk1:=hk.ext he;have hl1:=hl.ext he;have hT1:=hT.ext he
 by_cases hil:i<n
 ·have hat:=gfA Q i oZ
  obtain ⟨qd,hqd,hone⟩:=(hc i hil).qd;have hqe:Q.getD i q0=qd:=osA hqd;rw [hqe] at hat;have hcn:Cn (λ j=>j<w.heap.size) w1 (qv qd) (qs i) (kks i):=Cn.ext (Cn.mono (by rw [← hqe];exact hc i hil) λ j hj _=>hj) he;obtain ⟨hk0,hki⟩:=hkn i hil;have hlen:∀ w' u,Cn (λ j=>j<w.heap.size) w' u (qs i) (kks i)→_:=λ w' u h=>gzA h
  obtain ⟨c,hcc⟩:∃ c,c=cnt (qs i) 65536:=⟨_,rfl⟩;rw [← hcc] at hlen;have hnd:¬ (0<cnt (qs i) 65536∧(0<i→kn (i-1)<kn i))→d=false:=λ h=>by
   cases hdd:d with
   | false=>rfl
   | true=>exact absurd (hd.1 hdd i hil) h
  have hs1:0<i→(i:Int)-1=((i-1:Nat):Int):=λ h=>by omega
  obtain ⟨hk2,hki2⟩:=hkn (i-1) oZ
  by_cases hbad:c=0∨(¬ c=0∧0<i∧¬ kn (i-1)<kn i)
  ·rw [hnd (λ h=>by
    rcases hbad with h' | ⟨-,h1,h2⟩
    ·omega
    ·exact h2 (h.2 h1))]
   clear hnd hd
   rcases hbad with h0|⟨h0,hip,hlt⟩
   all_goals
    repeat' (first|(refine yL ?_;first|refine a0A rfl ?_|(refine oD 20 ?_;refine c1A (s:=4) rfl _ rfl (λ _=>rfl) rfl (HasC.val hl1) rfl i rfl oZ ?_;rw [hat])|(refine oD 21 ?_;refine auA (cs:=qcs _) rfl (λ _=>rfl) (λ _=>rfl) rfl ?_)|(refine oD 8 ?_;refine a2A (hK _ _ (jvA rfl dZ (λ _=>rfl) (λ bv wv ev hbv hhv=>?_)));clear hK K;refine aeA kZ (λ K hK=>?_))|(refine a2A (hK _ _ (egA (c:=qv qd) rfl rfl rfl hhv (λ _=>rfl) rfl hone (λ wu eu=>?_)));clear hK K;dsimp only [LA.vals];have hh9:=setRow_heap wu bv _ (qv qd).cells _ (0,0) (eu.block hhv);have x8:=((Ext.refl w1).trans (ev.trans eu)).setRow hbv (qv qd).cells;obtain ⟨W8,hW8⟩:∃ W,W=wu.setRow bv (qv qd).cells:=⟨_,rfl⟩;rw [← hW8] at hh9 x8 ⊢;clear hW8;have hS8:=hS.ext x8;have hcn8:=Cn.ext hcn x8;have hcA:Cn (λ j=>TT j∧kv.ownBlock≠some j∧True) W8 (qv qd) (qs i) (kks i):=Cn.mono hcn8 (λ j _ hj=>⟨trivial,λ hkv=>by have:=hB j (.inr (.inl hkv));omega,trivial⟩);have hT8:=hT1.ext x8;have hFA:∀ w',Ext W8 w'→Fsh (λ j=>TT j∧kv.ownBlock≠some j∧True) w':=λ w' e j hj=>⟨trivial,λ hkv=>by have:=(Own.lt hS8.hk j hkv).2;have:=e.size;omega,trivial⟩;refine aeA kZ (λ K hK=>?_))|(refine oLt 96 ?_;refine bwA (n:=4) rfl hh9 rfl rfl (λ _=>rfl) (λ _=>rfl) ?_)|(refine oD 36 ?_;refine acA rfl _ rfl (λ _=>rfl) rfl (HasI.val (hk1.ext x8)) rfl oZ ?_;rw [hki])|(refine oD 49 ?_;refine acA rfl _ rfl (λ _=>rfl) rfl (HasI.val (hk1.ext x8)) rfl oZ ?_;rw [hki])|(refine oNc ?_;refine a9A rfl rfl ?_)|(refine oF 0 ?_;refine a1A (a':=⟨b,0,none⟩) rfl rfl (λ _=>rfl) ?_)|(refine oF 1 ?_;refine a1A (a':=⟨b,1,none⟩) rfl rfl (λ _=>rfl) ?_)|(refine oLt 27 ?_;refine a6A (c:=kv) rfl (λ _=>rfl) rfl hS8.hb rfl ?_)|(refine oLt 92 ?_;refine a6A (c:=lv) rfl (λ _=>rfl) rfl hS8.hb rfl ?_)|(refine oD 51 ?_;refine e6A rfl c8A rfl rfl ?_)|(refine oD 59 ?_;refine ewA (base:=W8.heap.size) (Nat.le_refl _) rfl daA rfl (λ v w e h=>h) ?_)|(refine oD 31 ?_;refine adA rfl rfl rfl fZ ?_;rw [hs1 hip])|(refine oD 32 ?_;refine acA rfl _ rfl (λ _=>rfl) rfl (HasI.val (hk1.ext x8)) rfl oZ ?_;rw [hki2])|refine yO ?_|(refine yC ?_ ?_<;>intro hc)|(refine yV ?_;first|(refine oC 65 ?_;refine a3A (f:=65) rfl rfl rfl  (.val (.int .i64 c)) (by intro u1 w e hu1;(try obtain rfl:u1=_:=hu1);exact hlen _ _ (Cn.ext hcn8 e)) ?_)|(refine oC 93 ?_;refine a3A (f:=93) rfl rfl rfl  (.pred (cnP (λ j=>TT j∧kv.ownBlock≠some j∧True) (qs i) (avA (qs i)))) (by intro u1 w e hu1;(try obtain rfl:u1=_:=hu1);exact djA (Cn.ext hcA e) (hT8.ext e) (hFA _ e)) ?_))|(refine yN hK ?_;clear hK K))|refine wG ?_|(refine yR ?_;intro K hK)|fail)
    exact diA rfl rfl rfl (he.trans x8) rfl rfl
  ·have h0:¬ c=0:=λ h=>hbad (.inl h)
   have hgo:i=0∨(0<i∧kn (i-1)<kn i):=by
    rcases Nat.eq_zero_or_pos i with h|h
    ·exact .inl h
    ·exact .inr ⟨h,Decidable.not_not.1 (λ h'=>hbad (.inr ⟨h0,h,h'⟩))⟩
   have hDn:Dir kn qs (i+1):=λ j hj=>by
    by_cases e:j=i
    ·subst e;exact ⟨by omega,λ h=>by omega⟩
    ·exact hDi j oZ
   clear hnd;have hlast:=mcA hDi (λ j hj=>hqt j oZ) i (Nat.le_refl _);replace hlast:∀ j,kn i≤j→ne (hdA kn qs i) j=false:=λ j hj=>hlast j (λ h=>by omega)
   have hq0:0<cnt (qs i) 65536:=oZ
   rcases hgo with hi0|⟨hip,hlt⟩
   all_goals
    repeat' (first|(refine yL ?_;first|refine yB ?_|(refine oD 20 ?_;refine c1A (s:=4) rfl _ rfl (λ _=>rfl) rfl (HasC.val hl1) rfl i rfl oZ ?_;rw [hat])|(refine oD 21 ?_;refine auA (cs:=qcs _) rfl (λ _=>rfl) (λ _=>rfl) rfl ?_)|(refine oD 8 ?_;refine a2A (hK _ _ (jvA rfl dZ (λ _=>rfl) (λ bv wv ev hbv hhv=>?_)));clear hK K;refine aeA kZ (λ K hK=>?_))|(refine a2A (hK _ _ (egA (c:=qv qd) rfl rfl rfl hhv (λ _=>rfl) rfl hone (λ wu eu=>?_)));clear hK K;dsimp only [LA.vals];have hh9:=setRow_heap wu bv _ (qv qd).cells _ (0,0) (eu.block hhv);have x8:=((Ext.refl w1).trans (ev.trans eu)).setRow hbv (qv qd).cells;obtain ⟨W8,hW8⟩:∃ W,W=wu.setRow bv (qv qd).cells:=⟨_,rfl⟩;rw [← hW8] at hh9 x8 ⊢;clear hW8;have hS8:=hS.ext x8;have hcn8:=Cn.ext hcn x8;have hcA:Cn (λ j=>TT j∧kv.ownBlock≠some j∧True) W8 (qv qd) (qs i) (kks i):=Cn.mono hcn8 (λ j _ hj=>⟨trivial,λ hkv=>by have:=hB j (.inr (.inl hkv));omega,trivial⟩);have hT8:=hT1.ext x8;have hFA:∀ w',Ext W8 w'→Fsh (λ j=>TT j∧kv.ownBlock≠some j∧True) w':=λ w' e j hj=>⟨trivial,λ hkv=>by have:=(Own.lt hS8.hk j hkv).2;have:=e.size;omega,trivial⟩;refine aeA kZ (λ K hK=>?_))|(refine oLt 96 ?_;refine bwA (n:=4) rfl hh9 rfl rfl (λ _=>rfl) (λ _=>rfl) ?_)|(refine oD 36 ?_;refine acA rfl _ rfl (λ _=>rfl) rfl (HasI.val (hk1.ext x8)) rfl oZ ?_;rw [hki])|(refine oD 49 ?_;refine acA rfl _ rfl (λ _=>rfl) rfl (HasI.val (hk1.ext x8)) rfl oZ ?_;rw [hki])|(refine oNc ?_;refine a9A rfl rfl ?_)|(refine oF 0 ?_;refine a1A (a':=⟨b,0,none⟩) rfl rfl (λ _=>rfl) ?_)|(refine oF 1 ?_;refine a1A (a':=⟨b,1,none⟩) rfl rfl (λ _=>rfl) ?_)|(refine oLt 27 ?_;refine a6A (c:=kv) rfl (λ _=>rfl) rfl hS8.hb rfl ?_)|(refine oLt 92 ?_;refine a6A (c:=lv) rfl (λ _=>rfl) rfl hS8.hb rfl ?_)|(refine oD 51 ?_;refine e6A rfl c8A rfl rfl ?_)|(refine oD 59 ?_;refine ewA (base:=W8.heap.size) (Nat.le_refl _) rfl daA rfl (λ v w e h=>h) ?_)|(refine oD 31 ?_;refine adA rfl rfl rfl fZ ?_;rw [hs1 hip])|(refine oD 32 ?_;refine acA rfl _ rfl (λ _=>rfl) rfl (HasI.val (hk1.ext x8)) rfl oZ ?_;rw [hki2])|refine yO ?_|(refine yC ?_ ?_<;>intro hc)|(refine yV ?_;first|(refine oC 65 ?_;refine a3A (f:=65) rfl rfl rfl  (.val (.int .i64 c)) (by intro u1 w e hu1;(try obtain rfl:u1=_:=hu1);exact hlen _ _ (Cn.ext hcn8 e)) ?_)|(refine oC 93 ?_;refine a3A (f:=93) rfl rfl rfl  (.pred (cnP (λ j=>TT j∧kv.ownBlock≠some j∧True) (qs i) (avA (qs i)))) (by intro u1 w e hu1;(try obtain rfl:u1=_:=hu1);exact djA (Cn.ext hcA e) (hT8.ext e) (hFA _ e)) ?_))|(refine yN hK ?_;clear hK K))|(refine oCX ?_;first|refine anA (id:=9) [11,19,22,25] kZ kZ kZ (a7A ?_))|refine wG ?_|(refine yR ?_;intro K hK)|refine wPh ?_|fail)
    have hplK:∀ (AA:Nat→Prop) w',Ext W8 w'→(∀ j,AA j→kv.ownBlock≠some j)→Plain AA (λ j=>kv.ownBlock=some j) w':=λ AA w' x hA j hj=>by
     obtain ⟨cur,hcur⟩:=azA (hS8.hk.ext x) hj;exact ⟨cur,_,_,hcur,by decide,by decide,λ ha=>absurd hj (hA j ha)⟩
    have hplL:∀ (AA:Nat→Prop) w' n cs,Own 0 tC 4 w' lv n cs→Plain AA (λ j=>lv.ownBlock=some j) w':=λ AA w' n cs ho j hj=>by
     obtain ⟨cur,hcur⟩:=azA ho hj;exact ⟨cur,_,_,hcur,by decide,by decide,λ _=>by decide⟩
    have lkv:∀ k,kv.ownBlock=some k→k<W8.heap.size:=λ k h=>hS8.lt (.inr (.inl h))
    have llv:∀ k,lv.ownBlock=some k→k<W8.heap.size:=λ k h=>hS8.lt (.inr (.inr h))
    have hsn:=slot_ne hS8;obtain ⟨Q',q1,q2,q3⟩:=hS8.hl;have hklen:=bpA (hdA kn qs i);have hnkl:=gqA (hdA kn qs i);have hmv:∀ (kv' v:Value) (kk:Int) (w1' w2:World),Ext W8 w1'→Fr (λ j=>kv.ownBlock=some j) w1' w2→LocR w1' kv kv'→Cn (λ j=>TT j∧kv.ownBlock≠some j∧True) w1' v (qs i) kk→Cn (λ j=>TT j∧kv.ownBlock≠some j∧kv'.ownBlock≠some j) w2 v (qs i) kk:=λ kv' v kk w1' w2 x hf hl h =>
     Cn.fr (Cn.mono h (λ j hj ha=>⟨trivial,ha.2.1,λ hk'=>by
      rcases hl with hl|hl
      ·exact ha.2.1 (hl▸hk')
      ·have:=hl j hk';omega⟩)) hf (hplK _ _ x (λ j ha=>ha.2.1))
    refine dwA rfl c8A rfl hS8.hk rfl HasC.own (λ u hu=>by rw [List.mem_singleton] at hu;subst hu;rfl) (by unfold maxLen;omega) oZ (λ kv' w1' w2 e1 ho' hf hlo=>⟨_,λ t u _ hu=>bsA t u hu,a7A ?_⟩);have hb2:=hf.at (e1.block hS8.hb) (λ h=>hsn.1 h);have hh2:=hf.at (e1.block hh9) (λ h=>Own.apart hS8.hk hh9 dZ h);have q22:Own 0 tC 4 w2 lv (nk (hdA kn qs i)) (bdA Q'):=hf.own (q2.ext e1) (λ k h1 h2=>hsn.2.2 k h2 h1);have hcA2:=hmv _ _ _ _ _ e1 hf hlo (Cn.ext hcA e1);have hFA2:∀ w',Ext w2 w'→Fsh (λ j=>TT j∧kv.ownBlock≠some j∧kv'.ownBlock≠some j) w':=λ w' e j hj=>⟨trivial,λ h=>by have:=lkv j h;have:=e1.size;have:=hf.size;have:=e.size;omega,λ h=>by have:=(Own.lt ho' j h).2;have:=e.size;omega⟩
    have hT2:=hT.ext (Fr.ext (he.trans (x8.trans e1)) hf (λ j h=>hB j (.inr (.inl h))));have sz2:=Nat.le_trans e1.size hf.size
    repeat' (first|(refine yL ?_;first|refine yB ?_|(refine oNc ?_;refine a9A rfl rfl ?_)|(refine oF 0 ?_;refine a1A (a':=⟨b,0,none⟩) rfl rfl (λ _=>rfl) ?_)|(refine oF 1 ?_;refine a1A (a':=⟨b,1,none⟩) rfl rfl (λ _=>rfl) ?_)|(refine oLt 27 ?_;refine a6A (c:=kv) rfl (λ _=>rfl) rfl hb2 rfl ?_)|(refine oLt 92 ?_;refine a6A (c:=lv) rfl (λ _=>rfl) rfl hb2 rfl ?_)|(refine oLt 96 ?_;refine bwA (n:=4) rfl hh2 rfl rfl (λ _=>rfl) (λ _=>rfl) ?_)|(refine oD 59 ?_;refine ewA (base:=W8.heap.size) sz2 rfl daA rfl (λ v w e h=>h) ?_)|refine yO ?_|(refine yC ?_ ?_<;>intro hc)|(refine yV ?_;first|(refine oC 93 ?_;refine a3A (f:=93) rfl rfl rfl  (.pred (cnP (λ j=>TT j∧kv.ownBlock≠some j∧kv'.ownBlock≠some j) (qs i) (avA (qs i)))) (by intro u1 w e hu1;(try obtain rfl:u1=_:=hu1);exact djA (Cn.ext hcA2 e) (hT2.ext e) (hFA2 _ e)) ?_))|(refine yN hK ?_;clear hK K))|refine wG ?_|(refine yR ?_;intro K hK)|refine wPh ?_|fail)
    refine jrA 59 rfl dZ rfl (λ v53 w3 e3 h53=>?_);obtain ⟨qc,r1,r2,r3⟩:=h53;refine dwA rfl daA rfl (q22.ext e3) rfl (HasC.ownV r1) r3 (by unfold maxLen;omega) oZ (λ lv' w3' w4 e3' hol hfl hll=>⟨_,λ t u _ hu=>bsA t u hu,a7A ?_⟩);have x23:=e3.trans e3';have hb4:=hfl.at (x23.block hb2) (λ h=>hsn.2.1 h);have r14:=hfl.own (ho'.ext x23) (λ k h1 h2=>by
     obtain ⟨cur,hcur⟩:=azA (ho'.ext x23) h1;exact Own.apart (q22.ext x23) hcur dZ h2)
    have rc4:=(r2.ext e3').fr hfl (hplL _ _ _ _ (q22.ext x23));obtain ⟨ck1,ck2⟩:=ddA r14;obtain ⟨cl1,cl2⟩:=ddA hol;have hF4:Fr (onw b kv lv) W8 w4:=(((Fr.of e1).trans (hf.mono λ k h=>.inr (.inl h))).trans (Fr.of x23)).trans (hfl.mono λ k h=>.inr (.inr h))
    repeat' (first|(refine yL ?_;first|refine yB ?_|(refine oNc ?_;refine a9A rfl rfl ?_)|(refine oF 0 ?_;refine a1A (a':=⟨b,0,none⟩) rfl rfl (λ _=>rfl) ?_)|(refine oF 1 ?_;refine a1A (a':=⟨b,1,none⟩) rfl rfl (λ _=>rfl) ?_)|(refine oLt 27 ?_;refine a6A (c:=kv) rfl (λ _=>rfl) rfl hb4 rfl ?_)|(refine oLt 92 ?_;refine a6A (c:=lv) rfl (λ _=>rfl) rfl hb4 rfl ?_)|refine yO ?_|(refine yC ?_ ?_<;>intro hc)|(refine yN hK ?_;clear hK K))|refine wG ?_|(refine yR ?_;intro K hK)|refine wPh ?_|fail)
    refine e4A (news:=[kv']) rfl rfl rfl hb4 ck1 (λ _=>rfl) nZ (λ u hu=>by rw [List.mem_singleton] at hu;subst hu;exact ck2) (λ w6 e6=>⟨_,λ t u hu=>bsA t u hu,a7A ?_⟩);have hb6:(w6.setRow b #[kv',lv]).heap[b]?=_:=setRow_heap w6 b _ _ _ _ (e6.block hb4);have rc7:=(rc4.ext e6).setRow (e6.block hb4) ⟨by decide,by decide,by decide⟩ #[kv',lv];obtain ⟨w7,hw7⟩:∃ w7,w7=w6.setRow b #[kv',lv]:=⟨_,rfl⟩;have hF7:Fr (onw b kv lv) W8 w7:=hw7▸((hF4.trans (Fr.of e6)).setRow (.inl rfl) _);have r17:Own 0 tK 1 w7 kv' _ _:=hw7▸Own.setRow (r14.ext e6) _ (Own.apart (r14.ext e6) (e6.block hb4) dZ);have s17:Own 0 tC 4 w7 lv' _ _:=hw7▸Own.setRow (hol.ext e6) _ (Own.apart (hol.ext e6) (e6.block hb4) dZ);rw [show (#[kv,lv].toList.take 0++[kv']++#[kv,lv].toList.drop (0+[kv'].length)).toArray=#[kv',lv] from rfl];rw [← hw7] at hb6 rc7 ⊢;clear hw7
    repeat' (first|(refine yL ?_;first|refine yB ?_|(refine oNc ?_;refine a9A rfl rfl ?_)|(refine oF 0 ?_;refine a1A (a':=⟨b,0,none⟩) rfl rfl (λ _=>rfl) ?_)|(refine oF 1 ?_;refine a1A (a':=⟨b,1,none⟩) rfl rfl (λ _=>rfl) ?_)|(refine oLt 27 ?_;refine a6A (c:=kv) rfl (λ _=>rfl) rfl hb6 rfl ?_)|(refine oLt 92 ?_;refine a6A (c:=lv) rfl (λ _=>rfl) rfl hb6 rfl ?_)|refine yO ?_|(refine yC ?_ ?_<;>intro hc)|(refine yN hK ?_;clear hK K))|refine wG ?_|(refine yR ?_;intro K hK)|refine wPh ?_|fail)
    refine e4A (news:=[lv']) rfl rfl rfl hb6 cl1 (λ _=>rfl) nZ (λ u hu=>by rw [List.mem_singleton] at hu;subst hu;exact cl2) (λ w8 e8=>⟨_,λ t u hu=>bsA t u hu,amA ?_⟩);have hb8:(w8.setRow b #[kv',lv']).heap[b]?=_:=setRow_heap w8 b _ _ _ _ (e8.block hb6);have rc9:=(rc7.ext e8).setRow (e8.block hb6) ⟨by decide,by decide,by decide⟩ #[kv',lv'];obtain ⟨w9,hw9⟩:∃ w9,w9=w8.setRow b #[kv',lv']:=⟨_,rfl⟩;have hF9:Fr (onw b kv lv) W8 w9:=hw9▸((hF7.trans (Fr.of e8)).setRow (.inl rfl) _);have r19:Own 0 tK 1 w9 kv' _ _:=hw9▸Own.setRow (r17.ext e8) _ (Own.apart (r17.ext e8) (e8.block hb6) dZ);have s19:Own 0 tC 4 w9 lv' _ _:=hw9▸Own.setRow (s17.ext e8) _ (Own.apart (s17.ext e8) (e8.block hb6) dZ);rw [show (#[kv',lv].toList.take 1++[lv']++#[kv',lv].toList.drop (1+[lv'].length)).toArray=#[kv',lv'] from rfl];rw [← hw9] at hb8 rc9 ⊢;clear hw9;have hkk9:OwnI 0 tK .u16 w9 kv' (b2A (hdA kn qs i)++[((kn i):Int)]):=by unfold OwnI;rw [List.map_append,List.length_append,List.length_singleton];exact r19
    have hmut:Mut TT W8 b kv lv _ w9:=hS8.app hk0 hlast (hqt i hil) hq0 q1 q3 (Cn.mono rc9 (λ j _ ha=>⟨trivial,ha.2.2⟩)) hF9 hb8 hkk9 s19 (hlo.le e1.size) (hll.le (by have:=x23.size;omega))
    repeat' (first|(refine yL ?_;first|refine yB ?_|(refine oNc ?_;refine a9A rfl rfl ?_)|(refine oF 0 ?_;refine a1A (a':=⟨b,0,none⟩) rfl rfl (λ _=>rfl) ?_)|(refine oF 1 ?_;refine a1A (a':=⟨b,1,none⟩) rfl rfl (λ _=>rfl) ?_)|(refine oLt 27 ?_;refine a6A (c:=kv) rfl (λ _=>rfl) rfl hb8 rfl ?_)|(refine oLt 92 ?_;refine a6A (c:=lv) rfl (λ _=>rfl) rfl hb8 rfl ?_)|refine yO ?_|(refine yC ?_ ?_<;>intro hc)|(refine yN hK ?_;clear hK K))|refine wG ?_|(refine yR ?_;intro K hK)|refine wPh ?_|fail)
    obtain ⟨kv9,lv9,m1,m2,m3,m4⟩:=hmut;have x9:=Fr.ext (he.trans x8) m2 (λ k hk=>hB k hk);have hon9:=l2A hB (he.trans x8).size m3 m4;exact a5A (i+1) (λ w5 e5=>⟨x9.trans e5,hil,hDn,kv9,lv9,m1.ext e5,hon9⟩) oZ sZ
 ·obtain rfl:i=n:=oZ
  obtain rfl:d=true:=hd.2 hDi
  repeat' (first|(refine yL ?_;first|refine a0A rfl ?_|refine yO ?_|(refine yC ?_ ?_<;>intro hc)|(refine yN hK ?_;clear hK K))|refine wG ?_|(refine yR ?_;intro K hK)|fail)
  exact dsA rfl (λ x y w5 e5 hx hy=>⟨_,rfl,he.trans e5,x,y,rfl,⟨b,kv,lv,hx,hS.ext e5,λ _ _=>trivial⟩,hy⟩)
theorem shA {kn:Nat→Nat} {qs:Nat→Nat→Bool} {n:Nat} (hD:Dir kn qs n):∀ i,i≤n→∀ x,hdA kn qs i x=true↔∃ j,j<i∧x / 65536=kn j∧qs j (x % 65536)=true
 | 0,_,x=>by simp [hdA]
 | i+1,hi,x=>by
   have ih:=shA hD i oZ x;show upd (hdA kn qs i) (kn i) (qs i) x=true↔_;unfold upd
   by_cases e:x / 65536=kn i
   ·rw [if_pos e]
    constructor
    ·exact λ h=>⟨i,Nat.lt_succ_self i,e,h⟩
    ·rintro ⟨j,h1,h2,h3⟩
     obtain rfl:j=i:=by
      refine Classical.byContradiction λ hne=>?_
      have:∀ m,m≤n→∀ j,j<m→∀ i,i<m→j<i→kn j<kn i:=by
       intro m
       induction m with
       | zero=>intro _ j hj;omega
       | succ m ihm =>
         intro hm j hj i hi hji
         by_cases e1:i=m
         ·subst e1
          have h5:=(hD i oZ).2 oZ
          by_cases e2:j=i-1
          ·subst e2;exact h5
          ·exact Nat.lt_trans (ihm oZ j oZ (i-1) oZ oZ) h5
         ·exact ihm oZ j oZ i oZ hji
      have:=this n (Nat.le_refl _) j oZ i oZ oZ;omega
     exact h3
   ·rw [if_neg e,ih]
    constructor
    ·rintro ⟨j,h1,h2⟩;exact ⟨j,by omega,h2⟩
    ·rintro ⟨j,h1,h2,h3⟩
     exact ⟨j,by rcases Nat.lt_succ_iff_lt_or_eq.1 h1 with h|h
                 ·exact h
                 ·subst h;exact absurd h2 e,h2,h3⟩
end Go.Proofs.YtbokphkfojijoaaGreatDoor
end
section
namespace Go.Proofs.YtbokphkfojijoaaGreatDoor.Pt
open Go.LA Go.ArrP Go.RowKit
theorem syA (p:Nat→Bool):Dir (kp p) (λ i=>blk p (kp p i)) (nk p):=λ i hi=>by
 obtain ⟨h1,h2,-,-⟩:=hrA hi;refine ⟨ne_cnt.1 h2,λ h0=>?_⟩;have:=h0A (p:=p) (i:=i-1) oZ;rw [show i-1+1=i by omega] at this;exact this
theorem vsA {p:Nat→Bool} (ht:∀ x,TOP≤x→p x=false):hdA (kp p) (λ i=>blk p (kp p i)) (nk p)=p:=by
 have htop:=epA
 funext x
 rw [Bool.eq_iff_iff,shA (syA p) _ (Nat.le_refl _)];have hm:x % 65536<65536:=Nat.mod_lt _ dZ
 constructor
 ·rintro ⟨j,h1,h2,h3⟩
  rw [cwA hm,← h2,show x / 65536*65536+x % 65536=x by omega] at h3;exact h3
 ·intro hx
  have hlt:x<TOP:=by
   rcases Nat.lt_or_ge x TOP with h|h
   ·exact h
   ·rw [ht x h] at hx;cases hx
  have hk:x / 65536<65536:=oZ;have hne:ne p (x / 65536)=true:=ne_iff.2 ⟨x % 65536,hm,by rw [show x / 65536*65536+x % 65536=x by omega];exact hx⟩;obtain ⟨g1,g2⟩:=vpA hk hne;exact ⟨_,g1,g2.symm,by rw [g2,cwA hm,show x / 65536*65536+x % 65536=x by omega];exact hx⟩
theorem snA {p f:Nat→Bool} {ys:List Int} (hn:nk p≤8) (hA:AtB ys 0 (mrA p f)) :
 AtB ys 0 (crA (nk p) f)∧(∀ i,i<nk p→AtB ys ((crA (nk p) f).length+4*i) (euA p i)) ∧
 (¬ (ekA f (nk p)=true∧nk p<4)→∀ i,i<nk p→AtB ys ((crA (nk p) f).length+4*nk p+4*i) (ibA p f i)) ∧
 (∀ i,i<nk p→AtB ys (eoA (nk p) (ekA f (nk p))+(byA (dpA p f) i).length) (dpA p f i)):=by
 have hh:=iiA (f:=f) hn;have hdl:∀ i,(byA (euA p) i).length=4*i:=λ i=>by rw [cuA i (λ j _=>ftA p j),Nat.mul_comm]
 have hol:∀ i,(byA (ibA p f) i).length=4*i:=λ i=>by rw [cuA i (λ j _=>g8A p f j),Nat.mul_comm]
 unfold mrA at hA;have h1:=hA.left;have h2:=hA.right;have h3:=h2.left;have h4:=h2.right;have h5:=h4.left;have h6:=h4.right;rw [Nat.zero_add] at h2 h3 h4 h5 h6;rw [hdl] at h4 h5 h6 hh;refine ⟨h1,λ i hi=>?_,λ ho i hi=>?_,λ i hi=>?_⟩
 ·have:=h3.cat hi
  rw [hdl] at this;exact this
 ·have ho':drA p f=byA (ibA p f) (nk p):=by unfold drA;rw [if_neg ho]
  rw [ho'] at h5;have:=h5.cat hi;rw [hol] at this;exact this
 ·have:=h6.cat hi
  rw [hh] at this;exact this
theorem pcA {xs:List Int} {i:Nat} (hil:i<xs.length):(xs.take i++List.replicate (xs.length-i) 0).set i (xs.getD i 0)=xs.take (i+1)++List.replicate (xs.length-(i+1)) 0:=by
 rw [take_snoc 0 hil,show xs.length-i=(xs.length-(i+1))+1 by omega,List.replicate_succ,List.set_append_right _ _ (by rw [List.length_take];omega),List.length_take,Nat.min_eq_left oZ,Nat.sub_self,List.set_cons_zero,List.append_assoc];rfl
theorem pdA {xs:List Int} {i:Nat} (hil:i≤xs.length):(xs.take i++List.replicate (xs.length-i) (0:Int)).length=xs.length:=by
 rw [List.length_append,List.length_take,List.length_replicate];omega
noncomputable def mvA (g:Nat→Int) (n:Nat):List Int:=(List.range n).map g
theorem knA (g:Nat→Int) (n:Nat):(mvA g n).length=n:=by simp [mvA]
theorem odA {g:Nat→Int} {n i:Nat} (h:i<n):(mvA g n).getD i 0=g i:=by
 simp [mvA,List.getD_eq_getElem?_getD,List.getElem?_range h]
theorem r7A (g:Nat→Int) (n:Nat):mvA g (n+1)=mvA g n++[g n]:=by simp [mvA,List.range_succ]
noncomputable def ahB (p:Nat→Bool):List Int:=mvA (λ i=>(cnt (blk p (kp p i)) 65536:Nat)) (nk p)
noncomputable def msA (p f:Nat→Bool) (i:Nat):Int:=(eoA (nk p) (ekA f (nk p))+(byA (dpA p f) i).length:Nat)
abbrev xpA:Nat:=3
abbrev bfB:Nat:=71
abbrev tRd':Nat:=136
theorem cxB:El Tryz.prog 46 3 (.int .i64 0) 1 8:=⟨rfl,rfl,rfl,by decide⟩
theorem ybA:El Tryz.prog 72 71 (.int .u32 0) 1 4:=⟨rfl,rfl,rfl,by decide⟩
def OffR (e:Nat):Prop:=e≠tPr∧e≠tRd'∧e≠tB
theorem Rdr.fr {base br bc pos:Nat} {w w':World} {sl:Value} {ys:List Int} {en:Int} {R:Nat→Prop} (h:Rdr base w br bc sl ys pos en) (hf:Fr R w w') (hR:∀ k,R k→∃ cur e j,w.heap[k]?=some (.cells cur e j)∧OffR e):Rdr base w' br bc sl ys pos en:=by
 refine ⟨h.hb,hf.at h.hr (λ hk=>?_),⟨h.rd.1,hf.at h.rd.2.1 (λ hk=>?_),hf.own h.rd.2.2.1 (λ k hk hr=>?_),h.rd.2.2.2⟩,h.hy⟩
 ·obtain ⟨cur,e,j,h1,h2,-⟩:=hR br hk
  rw [h.hr] at h1;cases h1;exact h2 rfl
 ·obtain ⟨cur,e,j,h1,-,h2,-⟩:=hR bc hk
  rw [h.rd.2.1] at h1;cases h1;exact h2 rfl
 ·obtain ⟨cur,e,j,h1,-,-,h2⟩:=hR k hr
  exact Own.apart h.rd.2.2.1 h1 (λ q=>h2 q.symm) hk
theorem coA {base e s n:Nat} {w w':World} {v:Value} {cs:List Value} {R:Nat→Prop} (h:LA.Own base e s w v n cs) (hf:Fr R w w') (hR:∀ k,R k→∃ cur e' j,w.heap[k]?=some (.cells cur e' j)∧e≠e'):LA.Own base e s w' v n cs :=
 hf.own h (λ k hk hr=>by
  obtain ⟨cur,e',j,h1,h2⟩:=hR k hr;exact Own.apart h h1 h2 hk)
theorem Rdr.bcAt {base br bc pos:Nat} {w:World} {sl:Value} {ys:List Int} {en:Int} (h:Rdr base w br bc sl ys pos en):∀ k,some bc=some k→∃ cur,w.heap[k]?=some (.cells cur tRd' (0,0)):=λ k hk=>by
 cases hk;exact ⟨_,h.rd.2.1⟩
theorem Rdr.own {base br bc pos base' e s n:Nat} {w w':World} {sl:Value} {ys:List Int} {en:Int} {v:Value} {cs:List Value} (h:Rdr base w br bc sl ys pos en) (hg:w.grownBy w' (some bc)) (ho:LA.Own base' e s w v n cs) (he:e≠tRd'):LA.Own base' e s w' v n cs :=
 coA ho (Fr.grown hg) (λ k hk=>by obtain ⟨cur,hc⟩:=h.bcAt k hk;exact ⟨cur,_,_,hc,he⟩)
theorem and1 (a:Nat) (ha:a<256):bits .and .u8 (a:Int) 1=((a % 2:Nat):Int):=by
 have h:=u8_and_nat a 1 ha dZ;rw [show ((1:Nat):Int)=1 from rfl] at h;rw [h,show (1:Nat)=2 ^ 1-1 by decide,Nat.and_two_pow_sub_one_eq_mod]
theorem aaB {f:Nat→Bool} {n i:Nat} (hn:n≤8) (hi:i<n):bits .and .u8 ((fB f n:Int) / 2 ^ ((i:Nat):Int).toNat) 1=if f i then 1 else 0:=by
 have h1:=noA f n;have h2:fB f n<256:=Nat.lt_of_lt_of_le h1 (Nat.pow_le_pow_right dZ hn:2 ^ n≤2 ^ 8);rw [Int.toNat_natCast];have h3:((fB f n:Nat):Int) / (2:Int) ^ i=((fB f n / 2 ^ i:Nat):Int):=by norm_cast
 rw [h3,and1 _ (Nat.lt_of_le_of_lt (Nat.div_le_self _ _) h2),csB f n i hi];cases f i <;> rfl
def KRow (base:Nat) (p:Nat→Bool) (n:Nat) (w:World) (u:Value) (Q:List Qd):Prop:=LA.Own base tC 4 w u n (bdA Q)∧Q.length=n∧∀ i,i<n→∃ kk,Cn TT w (qv (Q.getD i q0)) (blk p (kp p i)) kk
theorem KRow.ext {base n:Nat} {p:Nat→Bool} {w w':World} {u:Value} {Q:List Qd} (h:KRow base p n w u Q) (e:Ext w w'):KRow base p n w' u Q:=⟨h.1.ext e,h.2.1,λ i hi=>(h.2.2 i hi).imp λ k hk=>hk.ext e⟩
theorem KRow.fr {base n:Nat} {p:Nat→Bool} {w w':World} {u:Value} {Q:List Qd} {R:Nat→Prop} (h:KRow base p n w u Q) (hf:Fr R w w') (hR:∀ k,R k→∃ cur e',w.heap[k]?=some (.cells cur e' (0,0))∧e'≠tC∧e'≠tK∧e'≠61∧e'≠105):KRow base p n w' u Q :=
 ⟨coA h.1 hf (λ k hk=>by obtain ⟨cur,e',h1,h2,-⟩:=hR k hk;exact ⟨cur,e',_,h1,λ q=>h2 q.symm⟩),h.2.1,λ i hi=>(h.2.2 i hi).imp λ kk hc=>hc.fr hf (λ k hk=>by
  obtain ⟨cur,e',h1,h2,h3,h4,h5⟩:=hR k hk;exact ⟨cur,e',_,h1,λ q=>h4 q.symm,λ q=>h5 q.symm,λ _ q=>h3 q.symm⟩)⟩
theorem KRow.kinds {base n:Nat} {p:Nat→Bool} {w:World} {u:Value} {Q:List Qd} (h:KRow base p n w u Q):∃ kks:Nat→Int,∀ i,i<n→Cn TT w (qv (Q.getD i q0)) (blk p (kp p i)) (kks i):=by
 classical
 refine ⟨λ i=>if hi:i<n then Classical.choose (h.2.2 i hi) else 0,λ i hi=>?_⟩;show Cn _ _ _ _ (if hi:i<n then Classical.choose (h.2.2 i hi) else 0);rw [dif_pos hi];exact Classical.choose_spec (h.2.2 i hi)
structure Rds (base:Nat) (w:World) (br bc:Nat) (sl:Value) (zs:List Int) (pos:Nat) (fv vk vc:Value) (fl ks cs:List Int):Prop where
 rd:Rdr base w br bc sl zs pos 0
 f:OwnI base tB .u8 w fv fl
 k:OwnI base tK .u16 w vk ks
 c:OwnI base xpA .i64 w vc cs
theorem Rds.ext {base br bc pos:Nat} {w w':World} {sl fv vk vc:Value} {zs fl ks cs:List Int} (h:Rds base w br bc sl zs pos fv vk vc fl ks cs) (e:Ext w w'):Rds base w' br bc sl zs pos fv vk vc fl ks cs:=⟨h.rd.ext e,h.f.ext e,h.k.ext e,h.c.ext e⟩
theorem Rds.step {base br bc pos pos':Nat} {w w':World} {sl fv vk vc:Value} {zs fl ks cs:List Int} (h:Rds base w br bc sl zs pos fv vk vc fl ks cs) (h':RdI base w' bc sl zs pos') (hg:w.grownBy w' (some bc)):Rds base w' br bc sl zs pos' fv vk vc fl ks cs :=
 ⟨h.rd.step h' hg,h.rd.own hg h.f dZ,h.rd.own hg h.k dZ,h.rd.own hg h.c dZ⟩
theorem Rds.go {base br bc pos pos':Nat} {w w':World} {sl fv vk vc:Value} {zs fl ks cs:List Int} (h:Rds base w br bc sl zs pos fv vk vc fl ks cs) (h':Rdr base w' br bc sl zs pos' 0) (hg:w.grownBy w' (some bc)):Rds base w' br bc sl zs pos' fv vk vc fl ks cs :=
 ⟨h',h.rd.own hg h.f dZ,h.rd.own hg h.k dZ,h.rd.own hg h.c dZ⟩
theorem Rds.fr {base br bc pos:Nat} {w w':World} {sl fv vk vc:Value} {zs fl ks cs:List Int} {R:Nat→Prop} (h:Rds base w br bc sl zs pos fv vk vc fl ks cs) (hf:Fr R w w') (hR:∀ k,R k→∃ cur e j,w.heap[k]?=some (.cells cur e j)∧OffR e∧e≠tK∧e≠xpA):Rds base w' br bc sl zs pos fv vk vc fl ks cs :=
 ⟨h.rd.fr hf (λ k hk=>by obtain ⟨cur,e,j,h1,h2,-⟩:=hR k hk;exact ⟨cur,e,j,h1,h2⟩),
  coA h.f hf (λ k hk=>by obtain ⟨cur,e,j,h1,h2,-⟩:=hR k hk;exact ⟨cur,e,j,h1,λ q=>h2.2.2 q.symm⟩),
  coA h.k hf (λ k hk=>by obtain ⟨cur,e,j,h1,-,h2,-⟩:=hR k hk;exact ⟨cur,e,j,h1,λ q=>h2 q.symm⟩),
  coA h.c hf (λ k hk=>by obtain ⟨cur,e,j,h1,-,-,h2⟩:=hR k hk;exact ⟨cur,e,j,h1,λ q=>h2 q.symm⟩)⟩
theorem Rds.setK {base br bc pos gb cap i:Nat} {w:World} {sl fv vc:Value} {zs fl ks cs:List Int} {cur:Array Value} (h:Rds base w br bc sl zs pos fv (.slice (some ⟨gb,0,none⟩) ks.length cap) vc fl ks cs)
 (hb:base≤gb) (hc:w.heap[gb]?=some (.cells cur tK (0,0))) (hnc:ks.length≤cap) (hm:cap≤maxLen) (hsz:cur.size=cap) (ht:cur.toList.take ks.length=ks.map (Value.int .u16)) (hi:i<ks.length) (x:Int) :
 Rds base (w.setRow gb (cur.setIfInBounds i (.int .u16 x))) br bc sl zs pos fv (.slice (some ⟨gb,0,none⟩) ks.length cap) vc fl (ks.set i x) cs:=by
 have hf:Fr (λ k=>k=gb) w (w.setRow gb (cur.setIfInBounds i (.int .u16 x))):=Fr.setRow (R:=λ k=>k=gb) (Fr.of (Ext.refl _)) rfl _;have hR:∀ k,k=gb→w.heap[k]?=some (.cells cur tK (0,0)):=λ k hk=>by rw [hk];exact hc
 refine ⟨h.rd.fr hf (λ k hk=>⟨cur,tK,_,hR k hk,by decide,by decide,by decide⟩),coA h.f hf (λ k hk=>⟨cur,tK,_,hR k hk,by decide⟩),?_,coA h.c hf (λ k hk=>⟨cur,tK,_,hR k hk,by decide⟩)⟩;exact OwnI.set hb hc hnc hm hsz ht i hi x
theorem Rds.setC {base br bc pos gb cap i:Nat} {w:World} {sl fv vk:Value} {zs fl ks cs:List Int} {cur:Array Value} (h:Rds base w br bc sl zs pos fv vk (.slice (some ⟨gb,0,none⟩) cs.length cap) fl ks cs)
 (hb:base≤gb) (hc:w.heap[gb]?=some (.cells cur xpA (0,0))) (hnc:cs.length≤cap) (hm:cap≤maxLen) (hsz:cur.size=cap) (ht:cur.toList.take cs.length=cs.map (Value.int .i64)) (hi:i<cs.length) (x:Int) :
 Rds base (w.setRow gb (cur.setIfInBounds i (.int .i64 x))) br bc sl zs pos fv vk (.slice (some ⟨gb,0,none⟩) cs.length cap) fl ks (cs.set i x):=by
 have hf:Fr (λ k=>k=gb) w (w.setRow gb (cur.setIfInBounds i (.int .i64 x))):=Fr.setRow (R:=λ k=>k=gb) (Fr.of (Ext.refl _)) rfl _;have hR:∀ k,k=gb→w.heap[k]?=some (.cells cur xpA (0,0)):=λ k hk=>by rw [hk];exact hc
 refine ⟨h.rd.fr hf (λ k hk=>⟨cur,xpA,_,hR k hk,by decide,by decide,by decide⟩),coA h.f hf (λ k hk=>⟨cur,xpA,_,hR k hk,by decide⟩),coA h.k hf (λ k hk=>⟨cur,xpA,_,hR k hk,by decide⟩),?_⟩;exact OwnI.set hb hc hnc hm hsz ht i hi x
theorem glA {w0 w w':World} {b:Nat} (e:Ext w0 w) (h:w.grownBy w' (some b)) (hb:w0.heap.size≤b):Ext w0 w':=Fr.ext e (Fr.grown h) (λ k hk=>by cases hk;exact hb)
theorem KRow.snoc {base t:Nat} {p:Nat→Bool} {w w':World} {u v':Value} {Q:List Qd} {qc:Qd} (hQ:KRow base p t w u Q) (hc:∃ kk,Cn TT w (qv qc) (blk p (kp p t)) kk) (ho:LA.Own 0 tC 4 w' v' (t+1) (bdA Q++bdA [qc])) (hf:Fr (λ k=>u.ownBlock=some k) w w') (hl:LocR w u v') (hb:base≤w.heap.size):KRow base p (t+1) w' v' (Q++[qc]):=by
 have hfr:∀ {q:Qd} {s:Nat→Bool} {kk:Int},Cn TT w (qv q) s kk→Cn TT w' (qv q) s kk:=λ h=>h.fr hf (λ k hk=>by
  obtain ⟨cur,hcur⟩:=azA hQ.1 hk;exact ⟨cur,_,_,hcur,by decide,by decide,λ _=>by decide⟩)
 refine ⟨by rw [dfA];exact Own.rebase ho (hl.ge (λ k hk=>(Own.lt hQ.1 k hk).1) hb),by rw [List.length_append,hQ.2.1];rfl,λ j hj=>?_⟩
 by_cases e:j<t
 ·rw [show (Q++[qc]).getD j q0=Q.getD j q0 by simp [List.getD,List.getElem?_append_left (show j<Q.length by rw [hQ.2.1];omega)]]
  exact (hQ.2.2 j e).imp λ kk h=>hfr h
 ·obtain rfl:j=t:=oZ
  rw [show (Q++[qc]).getD j q0=qc by rw [List.getD_eq_getElem?_getD,List.getElem?_append_right (by rw [hQ.2.1];exact Nat.le_refl _),hQ.2.1,Nat.sub_self];rfl];exact hc.imp λ kk h=>hfr h
theorem bzB {w:World} {v:Value} {ys:List Int} {at_:Nat} {p f:Nat→Bool} (h:SlI .u8 w v ys) (hT:Tab w) (hl:ys.length≤1000000000) (hy:∀ x ∈ ys,0≤x∧x<256) (hn8:nk p≤8) (htop:∀ x,TOP≤x→p x=false) (hA:AtB ys at_ (mrA p f)) :
 Fc Tryz.prog 15 #[v,.int .i64 at_] w (Ret w (.tup3 (.pred (rsP TT TT p)) (.val (.int .i64 (at_+(mrA p f).length:Nat))) (.val (.int .i64 0)))):=by
 have hlh:=h.len;have hale:=hA.le;obtain ⟨zs,hzs⟩:∃ zs,zs=ys.drop at_:=⟨_,rfl⟩;have hsub:SlI .u8 w (fcA v at_ ys.length 1) zs:=by rw [hzs];exact SlI.drop h oZ
 have hzl:zs.length≤1000000000:=by rw [hzs,List.length_drop];omega
 have hzy:∀ x ∈ zs,0≤x∧x<256:=λ x hx=>hy x (List.mem_of_mem_drop (by rw [← hzs];exact hx))
 have hAz:AtB zs 0 (mrA p f):=by
  obtain ⟨a,t,h1,h2⟩:=hA;exact ⟨[],t,by rw [hzs,h1,← h2,List.drop_left];rfl,rfl⟩
 have hil:=soA (f:=f) hn8;have hhl:=iiA (f:=f) hn8;have hck:=ilA (f:=f) hn8 h4A;obtain ⟨P1,P2,P3,P4⟩:=snA hn8 hAz;have hbl:=h3A p f (nk p);rw [cuA _ (λ i _=>ftA p i)] at hhl;have hkl:=bpA p;have hcl:(ahB p).length=nk p:=knA _ _;have hzle:=hAz.le;have hD:∀ i,i<nk p→(kp p i<65536∧(b2A p).getD i 0=(kp p i:Int))∧0<cnt (blk p (kp p i)) 65536∧cnt (blk p (kp p i)) 65536≤65536∧(ahB p).getD i 0=((cnt (blk p (kp p i)) 65536:Nat):Int):=λ i hi=>by
  obtain ⟨k1,k2,k3,k4⟩:=hrA hi;exact ⟨⟨k1,k4⟩,ne_cnt.1 k2,cnt_le _ _,odA hi⟩
 have hasc:∀ i,i+1<nk p→kp p i<kp p (i+1):=λ i hi=>h0A oZ
 have hoffs:¬ (ekA f (nk p)=true∧nk p<4)→(drA p f).length=4*nk p:=λ ho=>by
  unfold drA;rw [if_neg ho,cuA _ (λ i _=>g8A p f i)];omega
 have hoffs0:(ekA f (nk p)=true∧nk p<4)→(drA p f).length=0:=λ ho=>by unfold drA;rw [if_pos ho];rfl
 have hflag:∀ i,i<nk p→_:=λ i hi=>aaB (f:=f) hn8 hi
 obtain ⟨ks,hks⟩:∃ ks,ks=b2A p:=⟨_,rfl⟩;obtain ⟨cs,hcs⟩:∃ cs,cs=ahB p:=⟨_,rfl⟩;rw [← hks] at hkl hD;rw [← hcs] at hcl hD;clear hks hcs;obtain ⟨n,hnn⟩:∃ n,n=nk p:=⟨_,rfl⟩;obtain ⟨hd,hhd⟩:∃ m,m=(crA n f).length:=⟨_,rfl⟩;obtain ⟨H,hH⟩:∃ m,m=eoA n (ekA f n):=⟨_,rfl⟩;obtain ⟨L,hL⟩:∃ m,m=(mrA p f).length:=⟨_,rfl⟩;obtain ⟨O,hO⟩:∃ O,O=decide (¬ (ekA f n=true∧n<4)):=⟨_,rfl⟩;rw [← hnn] at hn8 hil hhl hck P1 P2 P3 P4 hbl hkl hcl hD hasc hoffs hoffs0 hflag;rw [← hhd] at P2 P3 hhl hck;rw [← hH] at P4 hhl hil;rw [← hL] at hil hale hzle ⊢;have hO3:O=true→(drA p f).length=4*n∧∀ i,i<n→AtB zs (hd+4*n+4*i) (ibA p f i):=λ h=>by
  have:=of_decide_eq_true (hO▸h);exact ⟨hoffs this,P3 this⟩
 have hO0:O=false→(drA p f).length=0:=λ h=>hoffs0 (Decidable.not_not.1 (of_decide_eq_false (hO▸h)))
 clear hoffs hoffs0 P3;have hHle:H≤1000:=by
  rw [hH];unfold eoA;split
  ·split <;> omega
  ·omega
 refine Fc.of (args:=[_,_]) Tryz.func15 rfl rfl Tryz.ntmps15 nZ ?_
 repeat' (first|(refine yL ?_;first|refine a0A rfl ?_|(refine cnA ?_;refine akA rfl _ rfl rfl (HasI.val h).c ?_)|(refine oD 29 ?_;refine a2A (hK _ _ (cmA rfl nZ rfl rfl (λ v' w'=>∃ b sl,v'=.pointer (some ⟨b,0,none⟩)∧Ext w w'∧RdI w.heap.size w' b sl zs 0) (λ w8 e8=>(new_c w8 _ zs (hsub.ext e8) oZ).mono λ en w' ⟨b,sl,g1,g2,g3⟩=>⟨_,g1,b,sl,rfl,e8.trans g2,⟨Nat.le_trans e8.size g3.1,g3.2.1,Own.base g3.2.2.1 e8.size,g3.2.2.2⟩⟩) (λ vv wA hAA=>?_)));clear hK K;obtain ⟨bc,sl,rfl,hxA,hrd⟩:=hAA;dsimp only [LA.vals];refine aeA kZ (λ K hK=>?_))|(refine oD 30 ?_;refine fmA rfl rfl (arB bc) ?_)|(refine oD 31 ?_;refine ghA rfl rfl ?_)|(refine oD 33 ?_;refine a2A (hK _ _ (awA 7 rfl (λ v7 w7 e7 h7=>?_)));clear hK K;obtain ⟨br,hbr,rfl,hbrc⟩:=h7;have hR:Rdr w.heap.size w7 br bc sl zs 0 0:=⟨Nat.le_trans hxA.size hbr,hbrc,hrd.ext e7,hzy⟩;refine aeA kZ (λ K hK=>cvA rfl rfl ?_))|(refine oD 34 ?_;refine a2A (hK _ _ (cmA rfl nZ rfl rfl (λ v' w'=>∃ fv fl,v'=.tuple #[.int .i64 n,fv,.bool O]∧OwnI w.heap.size tB .u8 w' fv fl∧fl.length=(n+7) / 8∧(0<n→fl.getD 0 0=(fB f n:Int))∧Rdr w.heap.size w' br bc sl zs hd 0∧w7.grownBy w' (some bc)) (λ w8 e8=>(wbA (hR.ext e8) hn8 P1).mono λ en w' ⟨fv,fl,g1,g2,g3,g4,g5,g6⟩=>⟨_,g1,fv,fl,by rw [hO],Own.base g2 (Nat.le_trans hxA.size (Nat.le_trans e7.size e8.size)),g3,g4,by rw [hhd,← Nat.zero_add (crA n f).length];exact g5,ayA e8 g6⟩) (λ vv wB hBB=>?_)));clear hK K;obtain ⟨fv,fl,rfl,hfv,hfl,hf0,hR2,hG⟩:=hBB;dsimp only [LA.vals];have hr2:=hR2.hr;refine aeA kZ (λ K hK=>?_))|(refine oD 35 ?_;refine xaA rfl rfl ?_)|(refine oD 36 ?_;refine x9A rfl rfl ?_)|(refine oD 37 ?_;refine x8A rfl rfl ?_)|(refine oD 40 ?_;refine f4A rfl rfl rfl fZ ?_;rw [show (4:Int)*(n:Int)=((4*n:Nat):Int) by omega])|(refine oD 48 ?_;refine e7A (n:=n) rfl c8A rfl rfl oZ oZ ?_)|(refine oD 50 ?_;refine e7A (n:=n) rfl cxB rfl rfl oZ oZ ?_)|(refine oD 52 ?_;refine akA rfl _ rfl rfl HasI.own.c ?_;rw [List.length_replicate])|refine yO ?_|(refine yC ?_ ?_<;>intro hc)|(refine yV ?_;first|(refine oD 41 ?_;refine oC 51 ?_;refine a4A (f:=51) rfl rfl rfl rfl  (.val (.bool true)) (by intro u1 u2 w e hu1 hu2;(try obtain rfl:u1=_:=hu1);(try obtain rfl:u2=_:=hu2);exact icA (n:=4*n) (hR2.ext e) oZ) ?_))|(refine yN hK ?_;clear hK K))|refine wG ?_|(refine yR ?_;intro K hK)|fail)
 have xB:Ext w wB:=Fr.ext (hxA.trans e7) (Fr.grown hG) (λ k hk=>by cases hk;exact hR2.rd.1);refine c2A 11 rfl (λ vk w11 e11 h11=>?_);replace h11:OwnI wB.heap.size tK .u16 w11 vk (List.replicate n 0):=h11;refine c2A 12 rfl (λ vc w12 e12 h12=>?_);replace h12:OwnI wB.heap.size xpA .i64 w12 vc (List.replicate n 0):=h12;have hx12:=xB.trans (e11.trans e12);have hS0:Rds w.heap.size w12 br bc sl zs hd fv vk vc fl (List.replicate n 0) (List.replicate n 0):=⟨(hR2.ext e11).ext e12,(hfv.ext e11).ext e12,(Own.base h11 xB.size).ext e12,Own.base h12 xB.size⟩;have hbcw:w.heap.size≤bc:=hR2.rd.1;clear hR2 hfv h11 h12 hG hr2 hR hrd
 refine abA (ι:=Nat) (λ i=>[(1,.val (.int .i64 at_)),(7,.val (.pointer (some ⟨br,0,none⟩))),(8,.val (.int .i64 n)),(9,.val fv),(10,.val (.bool O)),(11,.val vk),(12,.val vc),(52,.val (.int .i64 n)),(53,.val (.int .i64 i))])
  (λ i w'=>i≤n∧Ext w w'∧Rds w.heap.size w' br bc sl zs (hd+4*i) fv vk vc fl (ks.take i++List.replicate (ks.length-i) 0) (cs.take i++List.replicate (cs.length-i) 0)) (λ i=>n-i)
  (λ w5 e5=>⟨0,⟨Nat.zero_le _,hx12.trans e5,by rw [hkl,hcl];simpa using hS0.ext e5⟩,sZ⟩) ?_
 rintro i w2 ⟨hi,he,hS⟩
 by_cases hil':i<n
 ·obtain ⟨⟨d1,d2⟩,d3,d4,d5⟩:=hD i hil'
  have hkset:=pcA (xs:=ks) (i:=i) oZ;have hcset:=pcA (xs:=cs) (i:=i) oZ;have hkll:=pdA (xs:=ks) (i:=i) oZ;have hcll:=pdA (xs:=cs) (i:=i) oZ;have hPd:=P2 i hil';unfold euA at hPd;have hPk:=hPd.left;have hPc:=hPd.right;rw [alA] at hPc;rw [d2] at hkset;rw [d5] at hcset;obtain ⟨K0,hK0⟩:∃ K,K=kp p i:=⟨_,rfl⟩;obtain ⟨C0,hC0⟩:∃ c,c=cnt (blk p (kp p i)) 65536:=⟨_,rfl⟩;rw [← hC0] at hPc d3 d4 d5 hcset;rw [← hK0] at hPk d1 d2 hkset;clear hPd hK0 hC0;obtain ⟨gb,cap,cur,rfl,t1,t2,t3,t4,t5,t6⟩:=OwnI.row hS.k oZ;obtain ⟨gc,capc,curc,rfl,s1,s2,s3,s4,s5,s6⟩:=OwnI.row hS.c oZ;have hrr:=hS.rd.hr;have hbcR:=hS.rd.rd.2.1;have hnb:¬ (some bc=some gb):=λ q=>by cases q;rw [hbcR] at t2;cases t2
  have hnc:¬ (some bc=some gc):=λ q=>by cases q;rw [hbcR] at s2;cases s2
  have hnbc:gc≠gb:=λ q=>by rw [q,t2] at s2;cases s2
  repeat' (first|(refine yL ?_;first|refine a0A rfl ?_|(refine oNc ?_;refine a9A rfl rfl ?_)|(refine oF 0 ?_;refine a1A (a':=⟨br,0,none⟩) rfl rfl (λ _=>rfl) ?_)|(refine oD 61 ?_;refine a6A (c:=.pointer (some ⟨bc,0,none⟩)) rfl (λ _=>rfl) rfl hrr rfl ?_)|(refine oD 62 ?_;refine a2A (hK _ _ (cmA rfl nZ rfl rfl (λ v w'=>v=.int .u16 K0∧RdI w.heap.size w' bc sl zs (hd+4*i+2)∧w2.grownBy w' (some bc)) (λ w8 e8=>(k9A w8 w.heap.size bc sl zs _ K0 (hS.rd.rd.ext e8) hzy hPk oZ oZ).mono λ en w' h=>⟨_,h.1,rfl,h.2.1,ayA e8 h.2.2⟩) (λ vv wX hXX=>?_)));clear hK K;obtain ⟨rfl,hX1,hX2⟩:=hXX;dsimp only [LA.vals];have t2':=(Fr.grown hX2).at t2 hnb;have hSX:=hS.step hX1 hX2;refine aeA kZ (λ K hK=>?_))|(refine oD 63 ?_;refine bjA (s:=1) rfl rfl (λ _=>rfl) rfl rfl oZ oZ ?_;rw [Int.toNat_natCast,Nat.zero_add,Nat.mul_one])|(refine a2A (hK _ _ (bfA rfl rfl rfl t2' (λ _=>rfl) oZ rfl rfl (λ wY eY=>?_)));clear hK K;dsimp only [LA.vals];obtain ⟨S1,hS1⟩:∃ S1,S1=wY.setRow gb (cur.setIfInBounds i (.int .u16 K0)):=⟨_,rfl⟩;rw [← hS1])|refine yO ?_|(refine yC ?_ ?_<;>intro hc)|(refine yN hK ?_;clear hK K))|refine wG ?_|(refine yR ?_;intro K hK)|fail)
  have hSY:=(hSX.ext eY).setK t1 (eY.block t2') t3 t4 t5 t6 (i:=i) oZ K0;have x1:Ext w (wY.setRow gb (cur.setIfInBounds i (.int .u16 K0))):=((glA he hX2 hbcw).trans eY).setRow t1 _;have s2':(wY.setRow gb (cur.setIfInBounds i (.int .u16 K0))).heap[gc]?=_:=(setRow_other _ _ _ _ hnbc).trans (eY.block ((Fr.grown hX2).at s2 hnc));rw [hkset] at hSY;rw [← hS1] at hSY x1 s2';clear hS1;have hr1:=hSY.rd.hr
  repeat' (first|(refine yL ?_;first|refine a0A rfl ?_|(refine oNc ?_;refine a9A rfl rfl ?_)|(refine oF 0 ?_;refine a1A (a':=⟨br,0,none⟩) rfl rfl (λ _=>rfl) ?_)|(refine oD 69 ?_;refine a6A (c:=.pointer (some ⟨bc,0,none⟩)) rfl (λ _=>rfl) rfl hr1 rfl ?_)|(refine oD 70 ?_;refine a2A (hK _ _ (cmA rfl nZ rfl rfl (λ v w'=>v=.int .u16 (C0-1:Nat)∧RdI w.heap.size w' bc sl zs (hd+4*i+2+2)∧S1.grownBy w' (some bc)) (λ w8 e8=>(k9A w8 w.heap.size bc sl zs _ (C0-1:Nat) (hSY.rd.rd.ext e8) hzy hPc oZ oZ).mono λ en w' h=>⟨_,h.1,rfl,h.2.1,ayA e8 h.2.2⟩) (λ vv wZ hZZ=>?_)));clear hK K;obtain ⟨rfl,hZ1,hZ2⟩:=hZZ;dsimp only [LA.vals];have sY:=(Fr.grown hZ2).at s2' hnc;have hSZ:=hSY.step hZ1 hZ2;refine aeA kZ (λ K hK=>?_))|(refine oD 72 ?_;refine b3A rfl rfl rfl fZ ?_;rw [show ((C0-1:Nat):Int)+1=(C0:Int) by omega])|(refine oD 73 ?_;refine bjA (s:=1) rfl rfl (λ _=>rfl) rfl rfl oZ oZ ?_;rw [Int.toNat_natCast,Nat.zero_add,Nat.mul_one])|(refine a2A (hK _ _ (bfA rfl rfl rfl sY (λ _=>rfl) oZ rfl rfl (λ wV eV=>?_)));clear hK K;dsimp only [LA.vals])|refine yO ?_|(refine yC ?_ ?_<;>intro hc)|(refine yN hK ?_;clear hK K))|refine wG ?_|(refine yR ?_;intro K hK)|fail)
  have hSV:=(hSZ.ext eV).setC s1 (eV.block sY) s3 s4 s5 s6 (i:=i) oZ C0;have x2:Ext w (wV.setRow gc (curc.setIfInBounds i (.int .i64 C0))):=((glA x1 hZ2 hbcw).trans eV).setRow s1 _;rw [hcset] at hSV;exact a5A (i+1) (λ w5 e5=>⟨hil',x2.trans e5,by rw [show hd+4*(i+1)=hd+4*i+2+2 by omega];exact hSV.ext e5⟩) oZ sZ
 obtain rfl:i=n:=oZ;have hSa:Rds w.heap.size w2 br bc sl zs (hd+4*i) fv vk vc fl ks cs:=by
  have:=hS;rw [hkl,hcl,Nat.sub_self,List.replicate_zero,List.append_nil,List.append_nil] at this;rw [List.take_of_length_le oZ,List.take_of_length_le oZ] at this;exact this
 clear hS hS0 hx12 P2
 repeat' (first|(refine yL ?_;first|refine a0A rfl ?_|refine yO ?_|(refine yC ?_ ?_<;>intro hc)|(refine yN hK ?_;clear hK K))|refine wG ?_|(refine yR ?_;intro K hK)|fail)
 refine abA (ι:=Nat) (λ t=>[(1,.val (.int .i64 at_)),(7,.val (.pointer (some ⟨br,0,none⟩))),(8,.val (.int .i64 i)),(9,.val fv),(10,.val (.bool O)),(11,.val vk),(12,.val vc),(14,.val (.int .i64 t))])
  (λ t w'=>1≤t∧(t≤i∨t=1)∧Ext w w'∧Rds w.heap.size w' br bc sl zs (hd+4*i) fv vk vc fl ks cs) (λ t=>i+1-t)
  (λ w5 e5=>⟨1,⟨Nat.le_refl _,.inr rfl,he.trans e5,hSa.ext e5⟩,sZ⟩) ?_
 clear hSa he w2;rintro t w2 ⟨ht1,ht2,he,hS⟩
 by_cases hti:t<i
 ·obtain ⟨⟨a1,a2⟩,-⟩:=hD t hti
  obtain ⟨⟨b1,b2⟩,-⟩:=hD (t-1) oZ;have hlt:=hasc (t-1) oZ;rw [show t-1+1=t by omega] at hlt;obtain ⟨K1,hK1⟩:∃ K,K=kp p t:=⟨_,rfl⟩;obtain ⟨K2,hK2⟩:∃ K,K=kp p (t-1):=⟨_,rfl⟩;rw [← hK1] at a1 a2 hlt;rw [← hK2] at b1 b2 hlt;clear hK1 hK2
  repeat' (first|(refine yL ?_;first|refine a0A rfl ?_|(refine oD 83 ?_;refine adA rfl rfl rfl fZ ?_;rw [show (t:Int)-1=((t-1:Nat):Int) by omega])|(refine oD 84 ?_;refine acA rfl _ rfl (λ _=>rfl) rfl (HasI.ownV hS.k) rfl oZ ?_;rw [b2])|(refine oD 88 ?_;refine acA rfl _ rfl (λ _=>rfl) rfl (HasI.ownV hS.k) rfl oZ ?_;rw [a2])|refine yO ?_|(refine yC ?_ ?_<;>intro hc)|(refine yV ?_;first|(refine oC 53 ?_;refine a4A (f:=53) rfl rfl rfl rfl  (.val (.bool true)) (by intro u1 u2 w e hu1 hu2;(try obtain rfl:u1=_:=hu1);(try obtain rfl:u2=_:=hu2);exact fuA (hS.rd.ext e)) ?_))|(refine yN hK ?_;clear hK K))|refine wG ?_|(refine yR ?_;intro K hK)|fail)
  exact a5A (t+1) (λ w5 e5=>⟨by omega,.inl hti,he.trans e5,hS.ext e5⟩) oZ sZ
 have hSb:=hS;clear hS ht1 ht2 hasc
 repeat' (first|(refine yL ?_;first|refine a0A rfl ?_|refine yO ?_|(refine yC ?_ ?_<;>intro hc)|(refine yN hK ?_;clear hK K))|(refine oCX ?_;first|refine cbA (id:=19) (ι:=Value) (λ vb=>[(1,.val (.int .i64 at_)),(7,.val (.pointer (some ⟨br,0,none⟩))),(8,.val (.int .i64 i)),(9,.val fv),(10,.val (.bool O)),(11,.val vk),(12,.val vc),(15,.val vb)]) (λ vb w'=>Ext w w'∧Rds w.heap.size w' br bc sl zs H fv vk vc fl ks cs∧(O=true→OwnI w.heap.size bfB .u32 w' vb (mvA (msA p f) i))) ?_ ?_)|refine wG ?_|(refine yR ?_;intro K hK)|fail)
 ·cases O with
  | false =>
    have h0:=hO0 rfl
    repeat' (first|(refine yL ?_;first|refine a0A rfl ?_|refine yO ?_|(refine yC ?_ ?_<;>intro hc)|(refine yN hK ?_;clear hK K))|refine wG ?_|(refine yR ?_;intro K hK)|fail)
    exact a5A nilS (λ w5 e5=>⟨he.trans e5,by rw [show H=hd+4*i by omega];exact hSb.ext e5,λ h=>by cases h⟩) oZ sZ
  | true =>
    obtain ⟨h4,hPo⟩:=hO3 rfl
    repeat' (first|(refine yL ?_;first|refine a0A rfl ?_|(refine oD 96 ?_;refine f4A rfl rfl rfl fZ ?_;rw [show (4:Int)*(i:Int)=((4*i:Nat):Int) by omega])|refine yO ?_|(refine yC ?_ ?_<;>intro hc)|(refine yV ?_;first|(refine oD 97 ?_;refine oC 51 ?_;refine a4A (f:=51) rfl rfl rfl rfl  (.val (.bool true)) (by intro u1 u2 w e hu1 hu2;(try obtain rfl:u1=_:=hu1);(try obtain rfl:u2=_:=hu2);exact icA (n:=4*i) (hSb.rd.ext e) oZ) ?_))|(refine yN hK ?_;clear hK K))|refine wG ?_|(refine yR ?_;intro K hK)|fail)
    refine abA (ι:=Nat × Value) (λ j=>[(1,.val (.int .i64 at_)),(7,.val (.pointer (some ⟨br,0,none⟩))),(8,.val (.int .i64 i)),(9,.val fv),(10,.val (.bool true)),(11,.val vk),(12,.val vc),(15,.val j.2),(99,.val (.int .i64 i)),(100,.val (.int .i64 j.1))])
     (λ j w'=>j.1≤i∧Ext w w'∧Rds w.heap.size w' br bc sl zs (hd+4*i+4*j.1) fv vk vc fl ks cs∧OwnI w.heap.size bfB .u32 w' j.2 (mvA (msA p f) j.1)) (λ j=>i-j.1)
     (λ w5 e5=>⟨(0,nilS),⟨Nat.zero_le _,he.trans e5,hSb.ext e5,OwnI.nil⟩,sZ⟩) ?_
    clear hSb he hti w2;rintro ⟨t,vb⟩ w2 ⟨hti,he,hS,hvb⟩;dsimp only at hti hS hvb ⊢
    by_cases htl:t<i
    ·have hPt:=hPo t htl
     have hbt:=h3A p f t;have hbeg:msA p f t=((H+(byA (dpA p f) t).length:Nat):Int):=by unfold msA;rw [← hnn,← hH]
     have hPt':AtB zs (hd+4*i+4*t) (leS (msA p f t) 4):=hPt;have htn:=r7A (msA p f) t;have htl1:=knA (msA p f) t;rw [hbeg] at hPt' htn;obtain ⟨B0,hB0⟩:∃ B,B=H+(byA (dpA p f) t).length:=⟨_,rfl⟩;rw [← hB0] at hPt' htn;have hrr:=hS.rd.hr;clear hPt hbeg
     repeat' (first|(refine yL ?_;first|refine a0A rfl ?_|(refine oNc ?_;refine a9A rfl rfl ?_)|(refine oF 0 ?_;refine a1A (a':=⟨br,0,none⟩) rfl rfl (λ _=>rfl) ?_)|(refine oD 106 ?_;refine a6A (c:=.pointer (some ⟨bc,0,none⟩)) rfl (λ _=>rfl) rfl hrr rfl ?_)|(refine oD 107 ?_;refine a2A (hK _ _ (cmA rfl nZ rfl rfl (λ v w'=>v=.int .u32 B0∧RdI w.heap.size w' bc sl zs (hd+4*i+4*t+4)∧w2.grownBy w' (some bc)) (λ w8 e8=>(obA w8 w.heap.size bc sl zs _ B0 (hS.rd.rd.ext e8) hzy hPt' oZ oZ).mono λ en w' h=>⟨_,h.1,rfl,h.2.1,ayA e8 h.2.2⟩) (λ vv wX hXX=>?_)));clear hK K;obtain ⟨rfl,hX1,hX2⟩:=hXX;dsimp only [LA.vals];have hSX:=hS.step hX1 hX2;have hvX:OwnI w.heap.size bfB .u32 wX vb (mvA (msA p f) t):=hS.rd.own hX2 hvb dZ;refine aeA kZ (λ K hK=>?_))|(refine oD 108 ?_;refine g3A rfl ybA rfl rfl ?_)|(refine oD 109 ?_;refine a2A (hK _ _ (arA rfl nZ ybA rfl hvX rfl HasC.pred (λ u hu=>by rw [List.mem_singleton] at hu;subst hu;rfl) (by unfold maxLen;omega) oZ (λ v' wu wv eu ho hfr hlc=>?_)));clear hK K;refine aeA kZ (λ K hK=>?_))|refine yO ?_|(refine yC ?_ ?_<;>intro hc)|(refine yN hK ?_;clear hK K))|refine wG ?_|(refine yR ?_;intro K hK)|fail)
     have x1:=(glA he hX2 hbcw).trans eu;have x3:Ext w wv:=Fr.ext x1 hfr (λ k hk=>(Own.lt hvX k hk).1);have hS3:=(hSX.ext eu).fr hfr (λ k hk=>by
      obtain ⟨cur,hcur⟩:=azA (hvX.ext eu) hk;exact ⟨cur,_,_,hcur,⟨by decide,by decide,by decide⟩,by decide,by decide⟩)
     have hnew:OwnI w.heap.size bfB .u32 wv v' (mvA (msA p f) (t+1)):=by
      rw [htn];unfold OwnI;rw [List.map_append,List.length_append];exact Own.rebase ho (hlc.ge (λ k hk=>(Own.lt hvX k hk).1) x1.size)
     exact a5A (t+1,v') (λ w5 e5=>⟨htl,x3.trans e5,by rw [show hd+4*i+4*(t+1)=hd+4*i+4*t+4 by omega];exact hS3.ext e5,OwnI.ext hnew e5⟩) eZ sZ
    ·obtain rfl:t=i:=oZ
     repeat' (first|(refine yL ?_;first|refine a0A rfl ?_|refine yO ?_|(refine yC ?_ ?_<;>intro hc)|(refine yN hK ?_;clear hK K))|refine wG ?_|(refine yR ?_;intro K hK)|fail)
     exact a5A vb (λ w5 e5=>⟨he.trans e5,by rw [show H=hd+4*t+4*t by omega];exact hS.ext e5,λ _=>OwnI.ext hvb e5⟩) oZ sZ
 clear hSb he hti w2 hO3 hO0 hhl hck;rintro vb w2 ⟨he,hS,hvb⟩;have hposr:∀ w' pos,Rds w.heap.size w' br bc sl zs pos fv vk vc fl ks cs→∀ w'',Ext w' w''→Fc Tryz.prog 55 #[.pointer (some ⟨bc,0,none⟩)] w'' (Ret w'' (.val (.int .i64 (pos:Nat)))):=λ w' pos hh w'' e=>at_c _ bc sl pos (e.block hh.rd.rd.2.1)
 repeat' (first|(refine yL ?_;first|refine a0A rfl ?_|refine yO ?_|(refine yC ?_ ?_<;>intro hc)|(refine yN hK ?_;clear hK K))|refine wG ?_|(refine yR ?_;intro K hK)|fail)
 refine abA (ι:=Nat × Value) (λ j=>[(1,.val (.int .i64 at_)),(7,.val (.pointer (some ⟨br,0,none⟩))),(8,.val (.int .i64 i)),(9,.val fv),(10,.val (.bool O)),(11,.val vk),(12,.val vc),(15,.val vb),(16,.val j.2),(17,.val (.int .i64 j.1))])
  (λ j w'=>j.1≤i∧Ext w w'∧Rds w.heap.size w' br bc sl zs (H+(byA (dpA p f) j.1).length) fv vk vc fl ks cs∧(O=true→OwnI w.heap.size bfB .u32 w' vb (mvA (msA p f) i))∧∃ Q,KRow w.heap.size p j.1 w' j.2 Q) (λ j=>i-j.1)
  (λ w5 e5=>⟨(0,nilS),⟨Nat.zero_le _,he.trans e5,hS.ext e5,λ h=>(hvb h).ext e5,[],Own.nil,rfl,λ i hi=>absurd hi (Nat.not_lt_zero _)⟩,sZ⟩) ?_
 clear hS he hvb w2;rintro ⟨t,u⟩ w2 ⟨hti,he,hS,hvb,Q,hQ⟩;dsimp only at hti hS hvb hQ ⊢;have hrr:=hS.rd.hr;have hbt:=h3A p f t
 by_cases htl:t<i
 ·have hPt:=P4 t htl
  obtain ⟨-,d3,d4,d5⟩:=hD t htl;have hfg:=hflag t htl;have hf0':=hf0 oZ;have hbeg:msA p f t=((H+(byA (dpA p f) t).length:Nat):Int):=by unfold msA;rw [← hnn,← hH]
  have hbg:(mvA (msA p f) i).getD t 0=msA p f t:=odA htl;have htl1:=knA (msA p f) i;have hcat:H+(byA (dpA p f) (t+1)).length=H+(byA (dpA p f) t).length+(dpA p f t).length:=by
   show H+(_++dpA p f t).length=_;rw [List.length_append];omega
  have hble:=jmA (blk p (kp p t)) (f t);have hone:∀ w',Ext w2 w'→Fc Tryz.prog 56 #[.pointer (some ⟨br,0,none⟩),.int .i64 (cnt (blk p (kp p t)) 65536:Nat),.bool (f t)] w' (λ en w''=>∃ v,en=.returned v∧(∃ kk,Cn TT w'' v (blk p (kp p t)) kk)∧Rdr w.heap.size w'' br bc sl zs (H+(byA (dpA p f) t).length+(dpA p f t).length) 0∧w'.grownBy w'' (some bc)):=λ w' e=>one_r (hS.rd.ext e) (f t) hPt d3 (axB _ _)
  rw [hbeg] at hbg;obtain ⟨C0,hC0⟩:∃ c,c=cnt (blk p (kp p t)) 65536:=⟨_,rfl⟩;obtain ⟨q,hq⟩:∃ q,q=blk p (kp p t):=⟨_,rfl⟩;obtain ⟨P0,hP0⟩:∃ c,c=H+(byA (dpA p f) t).length:=⟨_,rfl⟩;obtain ⟨D0,hD0⟩:∃ c,c=(dpA p f t).length:=⟨_,rfl⟩;rw [← hC0,← hP0,← hD0,← hq] at hone;rw [← hP0] at hS hbg hcat;rw [← hD0] at hcat;rw [← hC0] at d3 d4 d5;have hqs:d3A (blk p (kp p t)) (f t)=dpA p f t:=rfl;rw [hqs,← hD0] at hble;obtain ⟨F,hF⟩:∃ F,F=(fB f i:Int):=⟨_,rfl⟩;rw [← hF] at hf0' hfg;obtain ⟨bs,hbs⟩:∃ bs,bs=mvA (msA p f) i:=⟨_,rfl⟩;rw [← hbs] at hbg htl1 hvb;obtain ⟨ft,hft⟩:∃ b,b=f t:=⟨_,rfl⟩;rw [← hft] at hone hfg;have hP0b:P0≤2000000000:=oZ;clear hPt hbeg hC0 hD0 hqs hF hft hP0;have hQ1:=hQ.1;have hat:=hposr w2 P0 hS;have hOO:O=false∨(O=true∧OwnI w.heap.size bfB .u32 w2 vb bs):=by
   cases O with
   | false=>exact .inl rfl
   | true=>exact .inr ⟨rfl,hvb rfl⟩
  rcases hOO with rfl|⟨rfl,hvb'⟩
  all_goals
   repeat' (first|(refine yL ?_;first|refine yB ?_|(refine oNc ?_;refine a9A rfl rfl ?_)|(refine oF 0 ?_;refine a1A (a':=⟨br,0,none⟩) rfl rfl (λ _=>rfl) ?_)|(refine oF 1 ?_;refine a1A (a':=⟨br,1,none⟩) rfl rfl (λ _=>rfl) ?_)|(refine oD 118 ?_;refine a6A (c:=.int .i64 0) rfl (λ _=>rfl) rfl hrr rfl ?_)|(refine oD 135 ?_;refine a6A (c:=.pointer (some ⟨bc,0,none⟩)) rfl (λ _=>rfl) rfl hrr rfl ?_)|(refine oD 145 ?_;refine acA rfl _ rfl (λ _=>rfl) rfl (HasI.ownV hS.c) rfl oZ ?_;rw [d5])|(refine oD 149 ?_;refine dlA rfl rfl rfl oZ oZ fZ ?_;rw [show (t:Int) / 8=((0:Nat):Int) by omega])|(refine oD 150 ?_;refine acA rfl _ rfl (λ _=>rfl) rfl (HasI.ownV hS.f) rfl oZ ?_;rw [hf0'])|(refine oD 153 ?_;refine hjA rfl rfl rfl oZ oZ fZ ?_;rw [show (t:Int) % 8=((t:Nat):Int) by omega])|(refine oD 154 ?_;refine myA rfl rfl rfl ?_)|(refine oD 155 ?_;refine clA (.inl rfl) rfl rfl rfl ?_;rw [hfg])|(refine oD 156 ?_;refine bqA (c:=.bool ft) rfl rfl rfl (λ _=>by cases ft <;> rfl) ?_)|(refine oD 129 ?_;refine acA rfl _ rfl (λ _=>rfl) rfl (HasI.ownV hvb') rfl oZ ?_;rw [hbg])|refine yO ?_|(refine yC ?_ ?_<;>intro hc)|(refine yV ?_;first|(refine oC 55 ?_;refine a3A (f:=55) rfl rfl rfl  (.val (.int .i64 (P0:Nat))) (by intro u1 w e hu1;(try obtain rfl:u1=_:=hu1);exact hat _ e) ?_)|(refine oC 53 ?_;refine a4A (f:=53) rfl rfl rfl rfl  (.val (.bool true)) (by intro u1 u2 w e hu1 hu2;(try obtain rfl:u1=_:=hu1);(try obtain rfl:u2=_:=hu2);exact fuA (hS.rd.ext e)) ?_))|(refine yN hK ?_;clear hK K))|(refine oCX ?_;first|refine anA (id:=29) [16,18] kZ kZ kZ (a7A ?_))|refine wG ?_|(refine yR ?_;intro K hK)|refine wPh ?_|fail)
   refine llA (v3:=undef) (f:=56) rfl rfl rfl rfl rfl (λ w' v w''=>∃ qd:Qd,v=qv qd∧(∀ u ∈ qcs qd,u.oneCell'=true)∧(∃ kk,Cn TT w'' (qv qd) q kk)∧Rdr w.heap.size w'' br bc sl zs (P0+D0) 0∧w'.grownBy w'' (some bc)) (λ u3 w1 e1 hu3=>?_) (λ v3 w3 w4 e3 hR=>⟨_,λ t u _ hu=>bsA t u hu,a7A ?_⟩)
   ·obtain rfl:u3=.bool ft:=hu3
    refine (hone w1 e1).mono (λ en w' ⟨v,g1,⟨kk,g2⟩,g3,g4⟩=>?_);obtain ⟨qd,rfl,h1⟩:=g2.qd;exact ⟨_,g1,qd,rfl,h1,⟨kk,g2⟩,g3,g4⟩
   obtain ⟨qd,rfl,honec,⟨kk,hcn⟩,hR4,hG4⟩:=hR;have hS4:=(hS.ext e3).go hR4 hG4;have hQ4:=(hQ.ext e3).fr (Fr.grown hG4) (λ k hk=>by
    obtain ⟨cur,hcur⟩:=(hS.rd.ext e3).bcAt k hk;exact ⟨cur,_,hcur,by decide,by decide,by decide,by decide⟩)
   have hv4:=λ h=>(hS.rd.ext e3).own hG4 (Own.ext (hvb h) e3) dZ
   have x4:=glA (he.trans e3) hG4 hbcw;clear hS hQ hR4 hG4 hone hrr hQ1 hat
   repeat' (first|(refine yL ?_;first|refine yB ?_|(refine oD 145 ?_;refine acA rfl _ rfl (λ _=>rfl) rfl (HasI.ownV hS4.c) rfl oZ ?_;rw [d5])|(refine oD 149 ?_;refine dlA rfl rfl rfl oZ oZ fZ ?_;rw [show (t:Int) / 8=((0:Nat):Int) by omega])|(refine oD 150 ?_;refine acA rfl _ rfl (λ _=>rfl) rfl (HasI.ownV hS4.f) rfl oZ ?_;rw [hf0'])|(refine oD 153 ?_;refine hjA rfl rfl rfl oZ oZ fZ ?_;rw [show (t:Int) % 8=((t:Nat):Int) by omega])|(refine oD 154 ?_;refine myA rfl rfl rfl ?_)|(refine oD 155 ?_;refine clA (.inl rfl) rfl rfl rfl ?_;rw [hfg])|(refine oD 156 ?_;refine bqA (c:=.bool ft) rfl rfl rfl (λ _=>by cases ft <;> rfl) ?_)|(refine oD 158 ?_;refine ewA (base:=w4.heap.size) (Nat.le_refl _) rfl daA rfl (λ v w e h=>by obtain rfl:v=_:=h;exact Cn.ext hcn e) ?_)|refine yO ?_|(refine yC ?_ ?_<;>intro hc)|(refine yN hK ?_;clear hK K))|refine wG ?_|(refine yR ?_;intro K hK)|refine wPh ?_|fail)
   refine jrA 158 rfl dZ rfl (λ v158 w5 e5 h158=>?_);obtain ⟨qc,r1,r2,r3⟩:=h158;refine dwA rfl daA rfl (hQ4.1.ext e5) rfl (HasC.ownV r1) r3 (by unfold maxLen;omega) oZ (λ v' w6 w7 e6 ho hf hl=>⟨_,λ t u _ hu=>bsA t u hu,amA ?_⟩);have hS6:Rds w.heap.size w7 br bc sl zs (P0+D0) fv vk vc fl ks cs:=(hS4.ext (e5.trans e6)).fr hf (λ k hk=>by
    obtain ⟨cur,hcur⟩:=azA (hQ4.1.ext (e5.trans e6)) hk;exact ⟨cur,_,_,hcur,⟨by decide,by decide,by decide⟩,by decide,by decide⟩)
   repeat' (first|(refine yL ?_;first|refine yB ?_|(refine oD 145 ?_;refine acA rfl _ rfl (λ _=>rfl) rfl (HasI.ownV hS6.c) rfl oZ ?_;rw [d5])|(refine oD 149 ?_;refine dlA rfl rfl rfl oZ oZ fZ ?_;rw [show (t:Int) / 8=((0:Nat):Int) by omega])|(refine oD 150 ?_;refine acA rfl _ rfl (λ _=>rfl) rfl (HasI.ownV hS6.f) rfl oZ ?_;rw [hf0'])|(refine oD 153 ?_;refine hjA rfl rfl rfl oZ oZ fZ ?_;rw [show (t:Int) % 8=((t:Nat):Int) by omega])|(refine oD 154 ?_;refine myA rfl rfl rfl ?_)|(refine oD 155 ?_;refine clA (.inl rfl) rfl rfl rfl ?_;rw [hfg])|(refine oD 156 ?_;refine bqA (c:=.bool ft) rfl rfl rfl (λ _=>by cases ft <;> rfl) ?_)|refine yO ?_|(refine yC ?_ ?_<;>intro hc)|(refine yN hK ?_;clear hK K))|refine wG ?_|(refine yR ?_;intro K hK)|refine wPh ?_|fail)
   have x6:=e5.trans e6;have hRu:∀ k,u.ownBlock=some k→∃ cur,w6.heap[k]?=some (.cells cur tC (0,0)):=λ k hk=>azA (hQ4.1.ext x6) hk
   have hS7:=(hS4.ext x6).fr hf (λ k hk=>by
    obtain ⟨cur,hcur⟩:=hRu k hk;exact ⟨cur,_,_,hcur,⟨by decide,by decide,by decide⟩,by decide,by decide⟩)
   have hv7:=λ h=>coA (Own.ext (hv4 h) x6) hf (λ k hk=>by
    obtain ⟨cur,hcur⟩:=hRu k hk;exact ⟨cur,_,_,hcur,by decide⟩)
   have hQ7:=(hQ4.ext x6).snoc (qc:=qc) ⟨kk,by rw [← hq];exact Cn.ext r2 e6⟩ ho hf hl (x4.trans x6).size;have x7:Ext w w7:=Fr.ext (x4.trans x6) hf (λ k hk=>(Own.lt hQ4.1 k hk).1);exact a5A (t+1,v') (λ w8 e8=>⟨htl,x7.trans e8,by dsimp only;rw [hcat];exact hS7.ext e8,λ h=>by rw [← hbs];exact Own.ext (hv7 h) e8,_,hQ7.ext e8⟩) eZ sZ
 obtain rfl:t=i:=oZ;obtain ⟨kks,hkks⟩:=hQ.kinds;have hjn:∀ w',Ext w2 w'→Fc Tryz.prog 57 #[vk,u] w' (Ret w' (.tup2 (.pred (rsP TT TT p)) (.val (.int .i64 0)))):=λ w' e=>by
  have:=ckB (d:=true) (kn:=kp p) (qs:=λ i=>blk p (kp p i)) (kks:=kks) (OwnI.slI (hS.k.ext e)) (Own.slC (hQ.1.ext e)) hkl hQ.2.1 (hT.ext (he.trans e)) (λ i hi=>(hD i hi).1) (λ i hi=>(hkks i hi).ext e) (λ i _ j hj=>efA oZ) oZ ⟨λ _=>by rw [hnn];exact syA p,λ _=>rfl⟩;rw [hnn,vsA htop] at this;exact this
 obtain ⟨P0,hP0⟩:∃ c,c=H+(byA (dpA p f) t).length:=⟨_,rfl⟩;rw [← hP0] at hS;have hat:=hposr w2 P0 hS;clear hkks P4 hD hflag
 repeat' (first|(refine yL ?_;first|refine a0A rfl ?_|(refine oNc ?_;refine a9A rfl rfl ?_)|(refine oF 0 ?_;refine a1A (a':=⟨br,0,none⟩) rfl rfl (λ _=>rfl) ?_)|(refine oF 1 ?_;refine a1A (a':=⟨br,1,none⟩) rfl rfl (λ _=>rfl) ?_)|(refine oD 163 ?_;refine a6A (c:=.int .i64 0) rfl (λ _=>rfl) rfl hrr rfl ?_)|(refine oD 180 ?_;refine a6A (c:=.pointer (some ⟨bc,0,none⟩)) rfl (λ _=>rfl) rfl hrr rfl ?_)|(refine oD 182 ?_;refine b3A rfl rfl rfl fZ ?_;rw [show (at_:Int)+(P0:Int)=((at_+L:Nat):Int) by omega])|refine yO ?_|(refine yC ?_ ?_<;>intro hc)|(refine yV ?_;first|(refine oC 57 ?_;refine a4A (f:=57) rfl rfl rfl rfl  (.tup2 (.pred (rsP TT TT p)) (.val (.int .i64 0))) (by intro u1 u2 w e hu1 hu2;(try obtain rfl:u1=_:=hu1);(try obtain rfl:u2=_:=hu2);exact hjn _ e) ?_)|(refine oC 55 ?_;refine a3A (f:=55) rfl rfl rfl  (.val (.int .i64 (P0:Nat))) (by intro u1 w e hu1;(try obtain rfl:u1=_:=hu1);exact hat _ e) ?_))|(refine yN hK ?_;clear hK K))|refine wG ?_|(refine yR ?_;intro K hK)|fail)
 refine o2A rfl (λ v5 v6 v8 w5 e5 h5 h6 h8=>?_);exact ⟨_,rfl,he.trans e5,v5,v6,v8,rfl,h5,h6,h8⟩
end Go.Proofs.YtbokphkfojijoaaGreatDoor.Pt
end
section
namespace Go.LA
open Go.RowKit
section
variable {P:Program} {l:List Oper} {N:Nn} {wb:World} {K:List Oper→Env→Prop} {rest:List Oper} {E:Env} {Q:Exit→Act→World→Prop}
variable {d:Tmp} {ty t t':TypeId} {pos:String} {after:Array Edge} {g:Option (Nat × Bool)} {x y z:Operand} {k k':IntKind}
theorem uxA {w:World} {v:Value} {xs:List Int} {src dst e:TypeId} (h:SlI .u8 w v xs) (hs:P.underlying src=some (.slice e)) (he:P.underlying e=some (.int .u8)) (hd:P.underlying dst=some .string) :
 (convert src dst v).run P w=.ok (.string (strOfNums xs)) w:=by
 obtain ⟨h0,a,cap,rfl,hc,hm,hn,hcs⟩:=h;cases a with
 | none =>
   obtain rfl:=hn rfl;obtain rfl:xs=[]:=List.eq_nil_of_length_eq_zero oZ;exact run_convert_bytes_nil w src e hs he _ _ dst hd
 | some a =>
   rcases hcs with h1|⟨b,off,ha,hcell⟩
   ·obtain rfl:xs=[]:=List.eq_nil_of_length_eq_zero h1
    rw [List.length_nil,run_convert_bytes_string w src dst e _ _ cap hs he hd,run_bytesToString w a 0 cap [] (by rfl),foldl_push_bytes];rfl
   ·obtain rfl:=Option.some.inj ha
    exact run_convert_bytes_arg w src e hs he b off _ cap xs rfl (λ i hi=>hcell i _ (by simp [List.getD,List.getElem?_eq_getElem hi])) dst hd
theorem u7A {src dst e:TypeId} {r:AD} {xs:List Int} (hg:bkA l E g=some true) (hs:P.underlying src=some (.slice e)) (he:P.underlying e=some (.int .u8)) (hd:P.underlying dst=some .string) (hr:opE E x=r) (hx:HasI wb r .u8 xs)
 (h:LA P l wb K rest ((d,.val (.string (strOfNums xs)))::E)):LA P l wb K (⟨some d,.convert src dst x,ty,pos,after,g⟩::rest) E :=
 bcA _ hg (btA λ a w he' hh=>by
  have e1:=hh x (by simp [Op.operands]);rw [hr] at e1;have:=uxA (P:=P) (hx _ _ he' e1) hs he hd;simp only [execOp,Sem.run_bind,this,Result.andThen_ok,Sem.run_pure]) h
theorem x0A {a b:ByteArray} (hg:bkA l E g=some true) (ht:P.underlying t=some .string) (hx:opE E x=.val (.string a)) (hy:opE E y=.val (.string b)) (h:LA P l wb K rest ((d,.val (.bool (a.toList == b.toList)))::E)) :
 LA P l wb K (⟨some d,.binOp .eql t x y t',ty,pos,after,g⟩::rest) E :=
 bqA hg hx hy (λ w=>by simp [eqGuard,binOp,Op.equal,Op.stringOp,run_underlying ht]) h
theorem twA {a b:ByteArray} (hg:bkA l E g=some true) (ht:P.underlying t=some .string) (hx:opE E x=.val (.string a)) (hy:opE E y=.val (.string b)) (hab:a=b) (h:LA P l wb K rest ((d,.val (.bool true))::E)) :
 LA P l wb K (⟨some d,.binOp .eql t x y t',ty,pos,after,g⟩::rest) E :=
 x0A hg ht hx hy (by subst hab;simpa using h)
theorem tvA {a b:ByteArray} (hg:bkA l E g=some true) (ht:P.underlying t=some .string) (hx:opE E x=.val (.string a)) (hy:opE E y=.val (.string b)) (hab:a=b) (h:LA P l wb K rest ((d,.val (.bool false))::E)) :
 LA P l wb K (⟨some d,.binOp .neq t x y t',ty,pos,after,g⟩::rest) E :=
 bqA (c:=.bool false) hg hx hy (λ w=>by subst hab;simp [eqGuard,binOp,Op.equal,Op.stringOp,run_underlying ht]) h
end
end Go.LA
end
section
namespace Go.Proofs.YtbokphkfojijoaaGreatDoor.Pt
open Go.LA Go.ArrP Go.RowKit
theorem niA {p:Nat→Bool} (h:nk p≤8):(eqA p).length≤1100000:=by
 unfold eqA;rw [soA h];have h1:=h3A p (cpA p) (nk p);have h2:eoA (nk p) (ekA (cpA p) (nk p))≤1000:=by
  unfold eoA;split
  ·split <;> omega
  ·omega
 omega
theorem jjA {ps:Nat→Nat→Bool} (h:∀ i,nk (ps i)≤8) (n:Nat):(byA (λ i=>eqA (ps i)) n).length≤n*1100000:=nxA n (λ i _=>niA (h i))
theorem taA {ps:Nat→Nat→Bool} (h:∀ i,nk (ps i)≤8) (n:Nat):∀ x ∈ byA (λ i=>eqA (ps i)) n,0≤x∧x<256:=λ x hx=>by
 obtain ⟨i,-,h2⟩:=hhA n hx;exact vvA (h i) x h2
theorem apB {ps:Nat→Nat→Bool} {i m:Nat} (h:i<m):AtB (byA (λ i=>eqA (ps i)) m) (byA (λ i=>eqA (ps i)) i).length (eqA (ps i)):=by
 have h1:AtB (byA (λ i=>eqA (ps i)) m) 0 (byA (λ i=>eqA (ps i)) m):=⟨[],[],by simp,rfl⟩;have:=h1.cat h;rw [Nat.zero_add] at this;exact this
theorem vwA {w:World} {v:Value} {n:Nat} {ps:Nat→Nat→Bool} (h:NIX tIv n ps w v) (hn:n≤100) (h8:∀ i,nk (ps i)≤8) (hT:Tab w):Fc Tryz.prog 22 #[v] w (Ret w (.pred (b4A w.heap.size tB .u8 (byA (λ i=>eqA (ps i)) n)))):=by
 rcases h with ⟨rfl,rfl⟩|⟨b,sv,ptrs,rfl,hb,hs⟩
 ·exact (iby_0 (ps:=ps) (.inl ⟨rfl,rfl⟩)).mono (λ en w' ⟨v',g1,g2,g3⟩=>⟨v',g1,g2,by obtain rfl:v'=nilS:=g3;exact OwnI.nil⟩)
 have hlen:∀ w',Ext w w'→Fc Tryz.prog 29 #[.pointer (some ⟨b,0,none⟩)] w' (Ret w' (.val (.int .i64 n))):=λ w' e=>mdA (ps:=ps) (.inr ⟨b,sv,ptrs,rfl,e.block hb,hs.ext e⟩)
 refine Fc.of (args:=[_]) Tryz.func22 rfl rfl Tryz.ntmps22 nZ ?_
 repeat' (first|(refine yL ?_;first|refine a0A rfl ?_|refine yO ?_|(refine yC ?_ ?_<;>intro hc)|(refine yV ?_;first|(refine oC 29 ?_;refine a3A (f:=29) rfl rfl rfl  (.val (.int .i64 n)) (by intro u1 w e hu1;(try obtain rfl:u1=_:=hu1);exact hlen _ e) ?_))|(refine yN hK ?_;clear hK K))|refine wG ?_|(refine yR ?_;intro K hK)|fail)
 refine abA (ι:=Nat × Value) (λ j=>[(0,.val (.pointer (some ⟨b,0,none⟩))),(3,.val j.2),(6,.val (.int .i64 n)),(7,.val (.int .i64 j.1))])
  (λ j w'=>Ext w w'∧j.1≤n∧OwnI w.heap.size tB .u8 w' j.2 (byA (λ i=>eqA (ps i)) j.1)) (λ j=>n-j.1)
  (λ w2 e2=>⟨(0,nilS),⟨e2,Nat.zero_le _,OwnI.nil⟩,sZ⟩) ?_
 rintro ⟨i,vb⟩ w1 ⟨he,hi,hB⟩;dsimp only at hi hB ⊢;have hb1:=he.block hb;have hs1:=hs.ext he
 by_cases hil:i<n
 ·have hwr:∀ w',Ext w1 w'→Fc Tryz.prog 18 #[ptrs.getD i undef] w' (Ret w' (.pred (b4A w.heap.size tB .u8 (eqA (ps i))))):=λ w' e=>(ygA (.inr ((hs1.at_ i hil).ext e)) (h8 i) (hT.ext (he.trans e))).mono (a8A (he.trans e).size)
  have hl1:=jjA h8 i;have hl2:=niA (h8 i);have hcat:byA (λ i=>eqA (ps i)) (i+1)=byA (λ i=>eqA (ps i)) i++eqA (ps i):=rfl;obtain ⟨B,hBB⟩:∃ B,B=byA (λ i=>eqA (ps i)) i:=⟨_,rfl⟩;obtain ⟨D,hD⟩:∃ D,D=eqA (ps i):=⟨_,rfl⟩;rw [← hBB] at hB hcat hl1;rw [← hD] at hwr hcat hl2
  repeat' (first|(refine yL ?_;first|refine a0A rfl ?_|refine a9A rfl rfl ?_|refine a1A (a':=⟨b,0,none⟩) rfl rfl (λ _=>rfl) ?_|(refine oD 14 ?_;refine a6A (c:=sv) rfl (λ _=>rfl) rfl hb1 rfl ?_)|(refine oD 16 ?_;refine czA rfl _ rfl (λ _=>rfl) rfl (HasC.ownV hs1.own) rfl i rfl hil hs1.own.lenV ?_)|(refine oD 19 ?_;refine a2A (hK _ _ (awA 18 rfl (λ vd wd ed hd=>?_)));clear hK K;replace hd:OwnI w.heap.size tB .u8 wd vd D:=hd;have hBd:=hB.ext ed;refine arA rfl dZ erA rfl hBd rfl (HasI.ownV hd).c c4A (by unfold maxLen;omega) oZ (λ v' wu wv eu ho hfr hlc=>?_);refine aeA kZ (λ K hK=>?_))|refine yO ?_|(refine yC ?_ ?_<;>intro hc)|(refine yV ?_;first|(refine oC 18 ?_;refine a3A (f:=18) rfl rfl rfl  (.pred (b4A w.heap.size tB .u8 D)) (by intro u1 w e hu1;(try obtain rfl:u1=_:=hu1);exact hwr _ e) ?_))|(refine yN hK ?_;clear hK K))|refine wG ?_|(refine yR ?_;intro K hK)|fail)
  have hxd:=he.trans (ed.trans eu);have x3:Ext w wv:=Fr.ext hxd hfr (λ k hk=>(Own.lt hB k hk).1);have hnew:OwnI w.heap.size tB .u8 wv v' (B++D):=by
   unfold OwnI;rw [List.map_append,List.length_append];exact Own.rebase ho (hlc.ge (λ k hk=>(Own.lt hB k hk).1) hxd.size)
  exact a5A (i+1,v') (λ w5 e5=>⟨x3.trans e5,hil,by dsimp only;rw [hcat];exact OwnI.ext hnew e5⟩) eZ sZ
 ·obtain rfl:i=n:=oZ
  repeat' (first|(refine yL ?_;first|refine a0A rfl ?_|refine yO ?_|(refine yC ?_ ?_<;>intro hc)|(refine yN hK ?_;clear hK K))|refine wG ?_|(refine yR ?_;intro K hK)|fail)
  exact aiA rfl rfl he (λ u w5 e5 hu=>by obtain rfl:u=_:=hu;exact OwnI.ext hB e5)
def rdX (t:Nat) (b:Bool) (n:Nat) (ps:Nat→Nat→Bool):AD:=match b with
 | true=>.tup2 (.pred (ixP t n ps)) (.val (.int .i64 0))
 | false=>.tup2 (.val (.pointer none)) (.val (.int .i64 5))
theorem cbB {p:Nat→Bool} (h:∀ x,65536≤x→p x=false):nk p≤1:=by
 have h1:cnt (ne p) 65536=cnt (ne p) 1:=gmA (p:=ne p) (a:=1) 65536 oZ (λ k hk _=>by
  cases hn:ne p k with
  | false=>rfl
  | true =>
    obtain ⟨i,hi,hp⟩:=ne_iff.1 hn;rw [h _ oZ] at hp;cases hp)
 have h2:=cnt_le (ne p) 1;show cnt (ne p) 65536≤1;omega
theorem id8 {ids:List Int} (hl:ids.length≤300) (i:Int):nk (idP ids i)≤8:=Nat.le_trans (cbB λ x hx=>jdA oZ) dZ
theorem bpB {ids:List Int} {k:Nat} (T:Nat):cnt (sumP ids (k+1)) T=cnt (sumP ids k) T+cnt (idP ids k) T:=t4A T λ i _=>by
 have h1:=h9A (ids:=ids) (x:=i) (k+1);have h2:=h9A (ids:=ids) (x:=i) k;have h3:idP ids k i=true↔_:=idP_iff (ids:=ids) (id:=k) (x:=i)
 by_cases c1:idP ids k i=true
 ·have g:=h3.1 c1
  have c2:sumP ids k i=false:=gyA λ h'=>by have:=(h2.1 h').2.2;omega
  have c4:sumP ids (k+1) i=true:=h1.2 ⟨g.1,by omega,by omega⟩;rw [c1,c2,c4];rfl
 ·have c1':=gyA c1
  by_cases c2:sumP ids k i=true
  ·have g:=h2.1 c2
   have c4:sumP ids (k+1) i=true:=h1.2 ⟨g.1,g.2.1,by omega⟩;rw [c1',c2,c4];rfl
  ·have c4:sumP ids (k+1) i=false:=gyA λ h'=>by
    have g:=h1.1 h'
    by_cases e:ids.getD i 0=(k:Int)
    ·exact c1 (h3.2 ⟨g.1,e⟩)
    ·exact c2 (h2.2 ⟨g.1,g.2.1,by omega⟩)
   rw [c1',gyA c2,c4];rfl
theorem mwA {ids:List Int} {n T:Nat} (h:IdsIn ids n) (hT:ids.length≤T):cnt (sumP ids n) T=ids.length:=ajB (λ x=>by
 rw [h9A]
 constructor
 ·exact λ h=>h.1
 ·intro hx;have:=h x hx;omega) hT
end Go.Proofs.YtbokphkfojijoaaGreatDoor.Pt
end
