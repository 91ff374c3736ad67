import Derived.RangeFuncNested
import Derived.RangeFuncLeaves
import Derived.OrdersIn
import Derived.TacticsIn
import Derived.Test.YtlnaebejmjmepaaGreatDoorM12
import Derived.Test.YtlnaebejmjmepaaGreatDoorM13
import Derived.Test.YtlnaebejmjmepaaGreatDoorM14
import Derived.Test.YtlnaebejmjmepaaGreatDoorM20
set_option linter.unusedSimpArgs false
set_option linter.unusedVariables false
set_option maxRecDepth 3000
set_option maxHeartbeats 16000000
section
namespace Go.Proofs.YtlnaebejmjmepaaGreatDoor
open Go.LA Go.ArrP Go.RowKit
def fdA (ks:Nat→Nat) (qs:Nat→Nat→Bool):Nat→Nat→Bool
 | 0=>λ _=>false
 | i+1=>upd (fdA ks qs i) (ks i) (qs i)
def Dir (ks:Nat→Nat) (qs:Nat→Nat→Bool) (n:Nat):Prop:=∀ i,i<n→0<cnt (qs i) 65536∧(0<i→ks (i-1)<ks i)
theorem loA {ks:Nat→Nat} {qs:Nat→Nat→Bool} {n:Nat} (hD:Dir ks qs n) (hq:∀ i,i<n→∀ j,65536≤j→qs i j=false):∀ i,i≤n→∀ j,(0<i→ks (i-1)<j)→ne (fdA ks qs i) j=false
 | 0,_,j,_=>idA j
 | i+1,hi,j,hj=>by
   have h1:=hj (Nat.succ_pos i);rw [Nat.add_sub_cancel] at h1;have h2:=loA hD hq i oZ j (λ h=>by have:=(hD i oZ).2 h;omega);show ne (upd (fdA ks qs i) (ks i) (qs i)) j=false;rw [upd_ne _ (hq i oZ) (hD i oZ).1,h2,decide_eq_false oZ];rfl
def uiA (d:Bool) (p:Nat→Bool):AD:=match d with
 | true=>.tup2 (.pred (rsP TT TT p)) (.val (.int .i64 0))
 | false=>.tup2 (.val (.pointer none)) (.val (.int .i64 2))
theorem ugA {w:World} {ka la:Value} {xs:List Int} {n:Nat} {Q:List Qd} (hk:SlI .u16 w ka xs) (hl:SlC w la n 4 (bbA Q)) (hn:xs.length≠n):Fc Tryz.prog 11 #[ka,la] w (Ret w (uiA false (λ _=>false))):=by
 have h1:=hk.len;have h2:=hl.len;refine Fc.of (args:=[_,_]) Tryz.func11 rfl rfl Tryz.ntmps11 nZ ?_
 repeat' (first|(refine yL ?_;first|refine a0A rfl ?_|(refine oD 10 ?_;refine asA rfl _ rfl rfl (HasI.val hk).c ?_)|(refine oD 12 ?_;refine asA rfl _ rfl rfl (HasC.val hl) ?_)|refine yO ?_|(refine yC ?_ ?_<;>intro hc)|(refine yN hK ?_;clear hK K))|refine wG ?_|(refine yR ?_;intro K hK)|fail)
 exact bgA rfl rfl rfl (Ext.refl _) rfl rfl
theorem wlA {w:World} {ka la:Value} {xs:List Int} {n:Nat} {Q:List Qd} {kn:Nat→Nat} {qs:Nat→Nat→Bool} {kks:Nat→Int} (hk:SlI .u16 w ka xs) (hl:SlC w la n 4 (bbA Q)) (hn:xs.length=n) (hQ:Q.length=n) (hT:Tab w)
 (hkn:∀ i,i<n→kn i<65536∧xs.getD i 0=(kn i:Int)) (hc:∀ i,i<n→Cn TT w (qv (Q.getD i q0)) (qs i) (kks i)) (hqt:∀ i,i<n→∀ j,65536≤j→qs i j=false) (hn2:n≤1000000) {d:Bool} (hd:d=true↔Dir kn qs n) :
 Fc Tryz.prog 11 #[ka,la] w (Ret w (uiA d (fdA kn qs n))):=by
 have hlh:=hl.len;refine Fc.of (args:=[_,_]) Tryz.func11 rfl rfl Tryz.ntmps11 nZ ?_
 repeat' (first|(refine yL ?_;first|refine a0A rfl ?_|(refine oD 10 ?_;refine asA rfl _ rfl rfl (HasI.val hk).c ?_)|(refine oD 12 ?_;refine asA rfl _ rfl rfl (HasC.val hl) ?_)|(refine oD 16 ?_;refine asA rfl _ rfl rfl (HasC.val (hl.ext (Ext.refl _))) ?_)|refine yO ?_|(refine yC ?_ ?_<;>intro hc)|(refine yV ?_;first|(refine oC 17 ?_;refine cjA (f:=17) rfl rfl  (.pred (rsP (λ k=>w.heap.size≤k) TT (λ _=>false))) (by intro w e;exact new_c _ (λ k hk=>Nat.le_trans e.size hk)) ?_))|(refine yN hK ?_;clear hK K))|refine wG ?_|(refine yR ?_;intro K hK)|fail)
 refine e4A 6 rfl (λ v6 w6 e6 h6=>?_);obtain ⟨b,kv0,lv0,rfl,hS0,hB0⟩:=h6
 refine agA (ι:=Nat) (λ i=>[(0,.val ka),(1,.val la),(6,.val (.pointer (some ⟨b,0,none⟩))),(15,.val la),(16,.val (.int .i64 n)),(17,.val (.int .i64 i))])
  (λ i w'=>Ext w w'∧i≤n∧Dir kn qs i∧∃ kv lv,RS TT w' b kv lv (fdA kn qs i)∧∀ k,onw b kv lv k→w.heap.size≤k) (λ i=>n-i)
  (λ w' e=>⟨0,⟨e6.trans e,Nat.zero_le _,λ i hi=>absurd hi (Nat.not_lt_zero _),kv0,lv0,hS0.ext e,hB0⟩,sZ⟩) ?_
 rintro i w1 ⟨he,hi,hDi,kv,lv,hS,hB⟩;have hk1:=hk.ext he;have hl1:=hl.ext he;have hT1:=hT.ext he
 by_cases hil:i<n
 ·have hat:=gqA Q i oZ
  obtain ⟨qd,hqd,hone⟩:=(hc i hil).qd;have hqe:Q.getD i q0=qd:=q7A hqd;rw [hqe] at hat;have hcn:Cn (λ j=>j<w.heap.size) w1 (qv qd) (qs i) (kks i):=Cn.ext (Cn.mono (by rw [← hqe];exact hc i hil) λ j hj _=>hj) he;obtain ⟨hk0,hki⟩:=hkn i hil;have hlen:∀ w' u,Cn (λ j=>j<w.heap.size) w' u (qs i) (kks i)→_:=λ w' u h=>hkA h
  obtain ⟨c,hcc⟩:∃ c,c=cnt (qs i) 65536:=⟨_,rfl⟩;rw [← hcc] at hlen;have hnd:¬ (0<cnt (qs i) 65536∧(0<i→kn (i-1)<kn i))→d=false:=λ h=>by
   cases hdd:d with
   | false=>rfl
   | true=>exact absurd (hd.1 hdd i hil) h
  have hs1:0<i→(i:Int)-1=((i-1:Nat):Int):=λ h=>by omega
  obtain ⟨hk2,hki2⟩:=hkn (i-1) oZ
  by_cases hbad:c=0∨(¬ c=0∧0<i∧¬ kn (i-1)<kn i)
  ·rw [hnd (λ h=>by
    rcases hbad with h' | ⟨-,h1,h2⟩
    ·omega
    ·exact h2 (h.2 h1))]
   clear hnd hd
   rcases hbad with h0|⟨h0,hip,hlt⟩
   all_goals
    repeat' (first|(refine yL ?_;first|refine a0A rfl ?_|(refine oD 20 ?_;refine c3A (s:=4) rfl _ rfl (λ _=>rfl) rfl (HasC.val hl1) rfl i rfl oZ ?_;rw [hat])|(refine oD 21 ?_;refine akA (cs:=qcs _) rfl (λ _=>rfl) (λ _=>rfl) rfl ?_)|(refine oD 8 ?_;refine a4A (hK _ _ (sbA rfl dZ (λ _=>rfl) (λ bv wv ev hbv hhv=>?_)));clear hK K;refine aiA kZ (λ K hK=>?_))|(refine a4A (hK _ _ (ggA (c:=qv qd) rfl rfl rfl hhv (λ _=>rfl) rfl hone (λ wu eu=>?_)));clear hK K;dsimp only [LA.vals];have hh9:=setRow_heap wu bv _ (qv qd).cells _ (0,0) (eu.block hhv);have x8:=((Ext.refl w1).trans (ev.trans eu)).setRow hbv (qv qd).cells;obtain ⟨W8,hW8⟩:∃ W,W=wu.setRow bv (qv qd).cells:=⟨_,rfl⟩;rw [← hW8] at hh9 x8 ⊢;clear hW8;have hS8:=hS.ext x8;have hcn8:=Cn.ext hcn x8;have hcA:Cn (λ j=>TT j∧kv.ownBlock≠some j∧True) W8 (qv qd) (qs i) (kks i):=Cn.mono hcn8 (λ j _ hj=>⟨trivial,λ hkv=>by have:=hB j (.inr (.inl hkv));omega,trivial⟩);have hT8:=hT1.ext x8;have hFA:∀ w',Ext W8 w'→Fsh (λ j=>TT j∧kv.ownBlock≠some j∧True) w':=λ w' e j hj=>⟨trivial,λ hkv=>by have:=(Own.lt hS8.hk j hkv).2;have:=e.size;omega,trivial⟩;refine aiA kZ (λ K hK=>?_))|(refine oLt 32 ?_;refine bzA (n:=4) rfl hh9 rfl rfl (λ _=>rfl) (λ _=>rfl) ?_)|(refine oD 36 ?_;refine ahA rfl _ rfl (λ _=>rfl) rfl (HasI.val (hk1.ext x8)) rfl oZ ?_;rw [hki])|(refine oD 49 ?_;refine ahA rfl _ rfl (λ _=>rfl) rfl (HasI.val (hk1.ext x8)) rfl oZ ?_;rw [hki])|(refine oNc ?_;refine afA rfl rfl ?_)|(refine oF 0 ?_;refine a1A (a':=⟨b,0,none⟩) rfl rfl (λ _=>rfl) ?_)|(refine oF 1 ?_;refine a1A (a':=⟨b,1,none⟩) rfl rfl (λ _=>rfl) ?_)|(refine oLt 22 ?_;refine a5A (c:=kv) rfl (λ _=>rfl) rfl hS8.hb rfl ?_)|(refine oLt 26 ?_;refine a5A (c:=lv) rfl (λ _=>rfl) rfl hS8.hb rfl ?_)|(refine oD 51 ?_;refine ehA rfl c8A rfl rfl ?_)|(refine oD 59 ?_;refine eoA (base:=W8.heap.size) (Nat.le_refl _) rfl d8A rfl (λ v w e h=>h) ?_)|(refine oD 31 ?_;refine abA rfl rfl rfl fZ ?_;rw [hs1 hip])|(refine oD 32 ?_;refine ahA rfl _ rfl (λ _=>rfl) rfl (HasI.val (hk1.ext x8)) rfl oZ ?_;rw [hki2])|refine yO ?_|(refine yC ?_ ?_<;>intro hc)|(refine yV ?_;first|(refine oC 47 ?_;refine a2A (f:=47) rfl rfl rfl  (.val (.int .i64 c)) (by intro u1 w e hu1;(try obtain rfl:u1=_:=hu1);exact hlen _ _ (Cn.ext hcn8 e)) ?_)|(refine oC 48 ?_;refine a2A (f:=48) rfl rfl rfl  (.pred (cnP (λ j=>TT j∧kv.ownBlock≠some j∧True) (qs i) (aoA (qs i)))) (by intro u1 w e hu1;(try obtain rfl:u1=_:=hu1);exact d4A (Cn.ext hcA e) (hT8.ext e) (hFA _ e)) ?_))|(refine yN hK ?_;clear hK K))|refine wG ?_|(refine yR ?_;intro K hK)|fail)
    exact bgA rfl rfl rfl (he.trans x8) rfl rfl
  ·have h0:¬ c=0:=λ h=>hbad (.inl h)
   have hgo:i=0∨(0<i∧kn (i-1)<kn i):=by
    rcases Nat.eq_zero_or_pos i with h|h
    ·exact .inl h
    ·exact .inr ⟨h,Decidable.not_not.1 (λ h'=>hbad (.inr ⟨h0,h,h'⟩))⟩
   have hDn:Dir kn qs (i+1):=λ j hj=>by
    by_cases e:j=i
    ·subst e;exact ⟨by omega,λ h=>by omega⟩
    ·exact hDi j oZ
   clear hnd;have hlast:=loA hDi (λ j hj=>hqt j oZ) i (Nat.le_refl _);replace hlast:∀ j,kn i≤j→ne (fdA kn qs i) j=false:=λ j hj=>hlast j (λ h=>by omega)
   have hq0:0<cnt (qs i) 65536:=oZ
   rcases hgo with hi0|⟨hip,hlt⟩
   all_goals
    repeat' (first|(refine yL ?_;first|refine yB ?_|(refine oD 20 ?_;refine c3A (s:=4) rfl _ rfl (λ _=>rfl) rfl (HasC.val hl1) rfl i rfl oZ ?_;rw [hat])|(refine oD 21 ?_;refine akA (cs:=qcs _) rfl (λ _=>rfl) (λ _=>rfl) rfl ?_)|(refine oD 8 ?_;refine a4A (hK _ _ (sbA rfl dZ (λ _=>rfl) (λ bv wv ev hbv hhv=>?_)));clear hK K;refine aiA kZ (λ K hK=>?_))|(refine a4A (hK _ _ (ggA (c:=qv qd) rfl rfl rfl hhv (λ _=>rfl) rfl hone (λ wu eu=>?_)));clear hK K;dsimp only [LA.vals];have hh9:=setRow_heap wu bv _ (qv qd).cells _ (0,0) (eu.block hhv);have x8:=((Ext.refl w1).trans (ev.trans eu)).setRow hbv (qv qd).cells;obtain ⟨W8,hW8⟩:∃ W,W=wu.setRow bv (qv qd).cells:=⟨_,rfl⟩;rw [← hW8] at hh9 x8 ⊢;clear hW8;have hS8:=hS.ext x8;have hcn8:=Cn.ext hcn x8;have hcA:Cn (λ j=>TT j∧kv.ownBlock≠some j∧True) W8 (qv qd) (qs i) (kks i):=Cn.mono hcn8 (λ j _ hj=>⟨trivial,λ hkv=>by have:=hB j (.inr (.inl hkv));omega,trivial⟩);have hT8:=hT1.ext x8;have hFA:∀ w',Ext W8 w'→Fsh (λ j=>TT j∧kv.ownBlock≠some j∧True) w':=λ w' e j hj=>⟨trivial,λ hkv=>by have:=(Own.lt hS8.hk j hkv).2;have:=e.size;omega,trivial⟩;refine aiA kZ (λ K hK=>?_))|(refine oLt 32 ?_;refine bzA (n:=4) rfl hh9 rfl rfl (λ _=>rfl) (λ _=>rfl) ?_)|(refine oD 36 ?_;refine ahA rfl _ rfl (λ _=>rfl) rfl (HasI.val (hk1.ext x8)) rfl oZ ?_;rw [hki])|(refine oD 49 ?_;refine ahA rfl _ rfl (λ _=>rfl) rfl (HasI.val (hk1.ext x8)) rfl oZ ?_;rw [hki])|(refine oNc ?_;refine afA rfl rfl ?_)|(refine oF 0 ?_;refine a1A (a':=⟨b,0,none⟩) rfl rfl (λ _=>rfl) ?_)|(refine oF 1 ?_;refine a1A (a':=⟨b,1,none⟩) rfl rfl (λ _=>rfl) ?_)|(refine oLt 22 ?_;refine a5A (c:=kv) rfl (λ _=>rfl) rfl hS8.hb rfl ?_)|(refine oLt 26 ?_;refine a5A (c:=lv) rfl (λ _=>rfl) rfl hS8.hb rfl ?_)|(refine oD 51 ?_;refine ehA rfl c8A rfl rfl ?_)|(refine oD 59 ?_;refine eoA (base:=W8.heap.size) (Nat.le_refl _) rfl d8A rfl (λ v w e h=>h) ?_)|(refine oD 31 ?_;refine abA rfl rfl rfl fZ ?_;rw [hs1 hip])|(refine oD 32 ?_;refine ahA rfl _ rfl (λ _=>rfl) rfl (HasI.val (hk1.ext x8)) rfl oZ ?_;rw [hki2])|refine yO ?_|(refine yC ?_ ?_<;>intro hc)|(refine yV ?_;first|(refine oC 47 ?_;refine a2A (f:=47) rfl rfl rfl  (.val (.int .i64 c)) (by intro u1 w e hu1;(try obtain rfl:u1=_:=hu1);exact hlen _ _ (Cn.ext hcn8 e)) ?_)|(refine oC 48 ?_;refine a2A (f:=48) rfl rfl rfl  (.pred (cnP (λ j=>TT j∧kv.ownBlock≠some j∧True) (qs i) (aoA (qs i)))) (by intro u1 w e hu1;(try obtain rfl:u1=_:=hu1);exact d4A (Cn.ext hcA e) (hT8.ext e) (hFA _ e)) ?_))|(refine yN hK ?_;clear hK K))|(refine oCX ?_;first|refine aqA (id:=9) [11,19,22,25] kZ kZ kZ (a7A ?_))|refine wG ?_|(refine yR ?_;intro K hK)|refine wPh ?_|fail)
    have hplK:∀ (AA:Nat→Prop) w',Ext W8 w'→(∀ j,AA j→kv.ownBlock≠some j)→Plain AA (λ j=>kv.ownBlock=some j) w':=λ AA w' x hA j hj=>by
     obtain ⟨cur,hcur⟩:=bxA (hS8.hk.ext x) hj;exact ⟨cur,_,_,hcur,by decide,by decide,λ ha=>absurd hj (hA j ha)⟩
    have hplL:∀ (AA:Nat→Prop) w' n cs,LA.Own 0 tC 4 w' lv n cs→Plain AA (λ j=>lv.ownBlock=some j) w':=λ AA w' n cs ho j hj=>by
     obtain ⟨cur,hcur⟩:=bxA ho hj;exact ⟨cur,_,_,hcur,by decide,by decide,λ _=>by decide⟩
    have lkv:∀ k,kv.ownBlock=some k→k<W8.heap.size:=λ k h=>hS8.lt (.inr (.inl h))
    have llv:∀ k,lv.ownBlock=some k→k<W8.heap.size:=λ k h=>hS8.lt (.inr (.inr h))
    have hsn:=slot_ne hS8;obtain ⟨Q',q1,q2,q3⟩:=hS8.hl;have hklen:=brA (fdA kn qs i);have hnkl:=fcA (fdA kn qs i);have hmv:∀ (kv' v:Value) (kk:Int) (w1' w2:World),Ext W8 w1'→Fr (λ j=>kv.ownBlock=some j) w1' w2→LocR w1' kv kv'→Cn (λ j=>TT j∧kv.ownBlock≠some j∧True) w1' v (qs i) kk→Cn (λ j=>TT j∧kv.ownBlock≠some j∧kv'.ownBlock≠some j) w2 v (qs i) kk:=λ kv' v kk w1' w2 x hf hl h =>
     Cn.fr (Cn.mono h (λ j hj ha=>⟨trivial,ha.2.1,λ hk'=>by
      rcases hl with hl|hl
      ·exact ha.2.1 (hl▸hk')
      ·have:=hl j hk';omega⟩)) hf (hplK _ _ x (λ j ha=>ha.2.1))
    refine e7A rfl c8A rfl hS8.hk rfl HasC.own (λ u hu=>by rw [List.mem_singleton] at hu;subst hu;rfl) (by unfold maxLen;omega) oZ (λ kv' w1' w2 e1 ho' hf hlo=>⟨_,λ t u _ hu=>c2A t u hu,a7A ?_⟩);have hb2:=hf.at (e1.block hS8.hb) (λ h=>hsn.1 h);have hh2:=hf.at (e1.block hh9) (λ h=>Own.apart hS8.hk hh9 dZ h);have q22:LA.Own 0 tC 4 w2 lv (nk (fdA kn qs i)) (bbA Q'):=hf.own (q2.ext e1) (λ k h1 h2=>hsn.2.2 k h2 h1);have hcA2:=hmv _ _ _ _ _ e1 hf hlo (Cn.ext hcA e1);have hFA2:∀ w',Ext w2 w'→Fsh (λ j=>TT j∧kv.ownBlock≠some j∧kv'.ownBlock≠some j) w':=λ w' e j hj=>⟨trivial,λ h=>by have:=lkv j h;have:=e1.size;have:=hf.size;have:=e.size;omega,λ h=>by have:=(Own.lt ho' j h).2;have:=e.size;omega⟩
    have hT2:=hT.ext (Fr.ext (he.trans (x8.trans e1)) hf (λ j h=>hB j (.inr (.inl h))));have sz2:=Nat.le_trans e1.size hf.size
    repeat' (first|(refine yL ?_;first|refine yB ?_|(refine oNc ?_;refine afA rfl rfl ?_)|(refine oF 0 ?_;refine a1A (a':=⟨b,0,none⟩) rfl rfl (λ _=>rfl) ?_)|(refine oF 1 ?_;refine a1A (a':=⟨b,1,none⟩) rfl rfl (λ _=>rfl) ?_)|(refine oLt 22 ?_;refine a5A (c:=kv) rfl (λ _=>rfl) rfl hb2 rfl ?_)|(refine oLt 26 ?_;refine a5A (c:=lv) rfl (λ _=>rfl) rfl hb2 rfl ?_)|(refine oLt 32 ?_;refine bzA (n:=4) rfl hh2 rfl rfl (λ _=>rfl) (λ _=>rfl) ?_)|(refine oD 59 ?_;refine eoA (base:=W8.heap.size) sz2 rfl d8A rfl (λ v w e h=>h) ?_)|refine yO ?_|(refine yC ?_ ?_<;>intro hc)|(refine yV ?_;first|(refine oC 48 ?_;refine a2A (f:=48) rfl rfl rfl  (.pred (cnP (λ j=>TT j∧kv.ownBlock≠some j∧kv'.ownBlock≠some j) (qs i) (aoA (qs i)))) (by intro u1 w e hu1;(try obtain rfl:u1=_:=hu1);exact d4A (Cn.ext hcA2 e) (hT2.ext e) (hFA2 _ e)) ?_))|(refine yN hK ?_;clear hK K))|refine wG ?_|(refine yR ?_;intro K hK)|refine wPh ?_|fail)
    refine mtA 59 rfl dZ rfl (λ v53 w3 e3 h53=>?_);obtain ⟨qc,r1,r2,r3⟩:=h53;refine e7A rfl d8A rfl (q22.ext e3) rfl (HasC.ownV r1) r3 (by unfold maxLen;omega) oZ (λ lv' w3' w4 e3' hol hfl hll=>⟨_,λ t u _ hu=>c2A t u hu,a7A ?_⟩);have x23:=e3.trans e3';have hb4:=hfl.at (x23.block hb2) (λ h=>hsn.2.1 h);have r14:=hfl.own (ho'.ext x23) (λ k h1 h2=>by
     obtain ⟨cur,hcur⟩:=bxA (ho'.ext x23) h1;exact Own.apart (q22.ext x23) hcur dZ h2)
    have rc4:=(r2.ext e3').fr hfl (hplL _ _ _ _ (q22.ext x23));obtain ⟨ck1,ck2⟩:=e0A r14;obtain ⟨cl1,cl2⟩:=e0A hol;have hF4:Fr (onw b kv lv) W8 w4:=(((Fr.of e1).trans (hf.mono λ k h=>.inr (.inl h))).trans (Fr.of x23)).trans (hfl.mono λ k h=>.inr (.inr h))
    repeat' (first|(refine yL ?_;first|refine yB ?_|(refine oNc ?_;refine afA rfl rfl ?_)|(refine oF 0 ?_;refine a1A (a':=⟨b,0,none⟩) rfl rfl (λ _=>rfl) ?_)|(refine oF 1 ?_;refine a1A (a':=⟨b,1,none⟩) rfl rfl (λ _=>rfl) ?_)|(refine oLt 22 ?_;refine a5A (c:=kv) rfl (λ _=>rfl) rfl hb4 rfl ?_)|(refine oLt 26 ?_;refine a5A (c:=lv) rfl (λ _=>rfl) rfl hb4 rfl ?_)|refine yO ?_|(refine yC ?_ ?_<;>intro hc)|(refine yN hK ?_;clear hK K))|refine wG ?_|(refine yR ?_;intro K hK)|refine wPh ?_|fail)
    refine dzA (news:=[kv']) rfl rfl rfl hb4 ck1 (λ _=>rfl) nZ (λ u hu=>by rw [List.mem_singleton] at hu;subst hu;exact ck2) (λ w6 e6=>⟨_,λ t u hu=>c2A t u hu,a7A ?_⟩);have hb6:(w6.setRow b #[kv',lv]).heap[b]?=_:=setRow_heap w6 b _ _ _ _ (e6.block hb4);have rc7:=(rc4.ext e6).setRow (e6.block hb4) ⟨by decide,by decide,by decide⟩ #[kv',lv];obtain ⟨w7,hw7⟩:∃ w7,w7=w6.setRow b #[kv',lv]:=⟨_,rfl⟩;have hF7:Fr (onw b kv lv) W8 w7:=hw7▸((hF4.trans (Fr.of e6)).setRow (.inl rfl) _);have r17:LA.Own 0 tK 1 w7 kv' _ _:=hw7▸Own.setRow (r14.ext e6) _ (Own.apart (r14.ext e6) (e6.block hb4) dZ);have s17:LA.Own 0 tC 4 w7 lv' _ _:=hw7▸Own.setRow (hol.ext e6) _ (Own.apart (hol.ext e6) (e6.block hb4) dZ);rw [show (#[kv,lv].toList.take 0++[kv']++#[kv,lv].toList.drop (0+[kv'].length)).toArray=#[kv',lv] from rfl];rw [← hw7] at hb6 rc7 ⊢;clear hw7
    repeat' (first|(refine yL ?_;first|refine yB ?_|(refine oNc ?_;refine afA rfl rfl ?_)|(refine oF 0 ?_;refine a1A (a':=⟨b,0,none⟩) rfl rfl (λ _=>rfl) ?_)|(refine oF 1 ?_;refine a1A (a':=⟨b,1,none⟩) rfl rfl (λ _=>rfl) ?_)|(refine oLt 22 ?_;refine a5A (c:=kv) rfl (λ _=>rfl) rfl hb6 rfl ?_)|(refine oLt 26 ?_;refine a5A (c:=lv) rfl (λ _=>rfl) rfl hb6 rfl ?_)|refine yO ?_|(refine yC ?_ ?_<;>intro hc)|(refine yN hK ?_;clear hK K))|refine wG ?_|(refine yR ?_;intro K hK)|refine wPh ?_|fail)
    refine dzA (news:=[lv']) rfl rfl rfl hb6 cl1 (λ _=>rfl) nZ (λ u hu=>by rw [List.mem_singleton] at hu;subst hu;exact cl2) (λ w8 e8=>⟨_,λ t u hu=>c2A t u hu,apA ?_⟩);have hb8:(w8.setRow b #[kv',lv']).heap[b]?=_:=setRow_heap w8 b _ _ _ _ (e8.block hb6);have rc9:=(rc7.ext e8).setRow (e8.block hb6) ⟨by decide,by decide,by decide⟩ #[kv',lv'];obtain ⟨w9,hw9⟩:∃ w9,w9=w8.setRow b #[kv',lv']:=⟨_,rfl⟩;have hF9:Fr (onw b kv lv) W8 w9:=hw9▸((hF7.trans (Fr.of e8)).setRow (.inl rfl) _);have r19:LA.Own 0 tK 1 w9 kv' _ _:=hw9▸Own.setRow (r17.ext e8) _ (Own.apart (r17.ext e8) (e8.block hb6) dZ);have s19:LA.Own 0 tC 4 w9 lv' _ _:=hw9▸Own.setRow (s17.ext e8) _ (Own.apart (s17.ext e8) (e8.block hb6) dZ);rw [show (#[kv',lv].toList.take 1++[lv']++#[kv',lv].toList.drop (1+[lv'].length)).toArray=#[kv',lv'] from rfl];rw [← hw9] at hb8 rc9 ⊢;clear hw9;have hkk9:OwnI 0 tK .u16 w9 kv' (b9A (fdA kn qs i)++[((kn i):Int)]):=by unfold OwnI;rw [List.map_append,List.length_append,List.length_singleton];exact r19
    have hmut:Mut TT W8 b kv lv _ w9:=hS8.app hk0 hlast (hqt i hil) hq0 q1 q3 (Cn.mono rc9 (λ j _ ha=>⟨trivial,ha.2.2⟩)) hF9 hb8 hkk9 s19 (hlo.le e1.size) (hll.le (by have:=x23.size;omega))
    repeat' (first|(refine yL ?_;first|refine yB ?_|(refine oNc ?_;refine afA rfl rfl ?_)|(refine oF 0 ?_;refine a1A (a':=⟨b,0,none⟩) rfl rfl (λ _=>rfl) ?_)|(refine oF 1 ?_;refine a1A (a':=⟨b,1,none⟩) rfl rfl (λ _=>rfl) ?_)|(refine oLt 22 ?_;refine a5A (c:=kv) rfl (λ _=>rfl) rfl hb8 rfl ?_)|(refine oLt 26 ?_;refine a5A (c:=lv) rfl (λ _=>rfl) rfl hb8 rfl ?_)|refine yO ?_|(refine yC ?_ ?_<;>intro hc)|(refine yN hK ?_;clear hK K))|refine wG ?_|(refine yR ?_;intro K hK)|refine wPh ?_|fail)
    obtain ⟨kv9,lv9,m1,m2,m3,m4⟩:=hmut;have x9:=Fr.ext (he.trans x8) m2 (λ k hk=>hB k hk);have hon9:=gaA hB (he.trans x8).size m3 m4;exact a6A (i+1) (λ w5 e5=>⟨x9.trans e5,hil,hDn,kv9,lv9,m1.ext e5,hon9⟩) oZ sZ
 ·obtain rfl:i=n:=oZ
  obtain rfl:d=true:=hd.2 hDi
  repeat' (first|(refine yL ?_;first|refine a0A rfl ?_|refine yO ?_|(refine yC ?_ ?_<;>intro hc)|(refine yN hK ?_;clear hK K))|refine wG ?_|(refine yR ?_;intro K hK)|fail)
  exact e2A rfl (λ x y w5 e5 hx hy=>⟨_,rfl,he.trans e5,x,y,rfl,⟨b,kv,lv,hx,hS.ext e5,λ _ _=>trivial⟩,hy⟩)
def stepW (L:List Sp) (x:Int):List Sp:=if 0<L.length∧(L.getD (L.length-1) (0,0)).2=x then L.set (L.length-1) ((L.getD (L.length-1) (0,0)).1,x+1) else L++[(x,x+1)]
theorem t6A {p:Nat→Bool} {a b:Nat} (hab:a≤b) (hf:∀ x,a≤x→x<b→p x=false) (hb:p b=true):stepW (spL p a) (b:Int)=spL p (b+1):=by
 rw [← deA hab hf];unfold stepW
 rcases m6A (p:=p) (Nat.lt_succ_self b) (λ x h1 h2=>(show x=b by omega)▸hb) with ⟨h1,h2,h3⟩|⟨h1,h3⟩
 ·rw [if_pos ⟨h1,h2⟩,h3];rfl
 ·rw [if_neg (λ h=>by rcases h1 with h1|h1;·omega
                      ·exact h1 h.2),h3];rfl
theorem poA (L:List Sp) (x:Int):(stepW L x).length≤L.length+1:=by
 unfold stepW
 split
 ·rw [List.length_set];omega
 ·rw [List.length_append];simp
def wK (base:Int) (xs:List Int) (L0:List Sp):Nat→List Sp
 | 0=>L0
 | k+1=>stepW (wK base xs L0 k) (base+xs.getD k 0)
def wI (ks:List Int) (xss:Nat→List Int):Nat→List Sp
 | 0=>[]
 | i+1=>if i<ks.length then wK (ks.getD i 0*65536) (xss i) (wI ks xss i) (xss i).length else wI ks xss i
theorem pjA (base:Int) (xs:List Int) (L0:List Sp):∀ k,(wK base xs L0 k).length≤L0.length+k
 | 0=>Nat.le_refl _
 | k+1=>by
   have h1:=pjA base xs L0 k;have h2:=poA (wK base xs L0 k) (base+xs.getD k 0);show (stepW _ _).length≤_;omega
theorem w5A {ks:List Int} {xss:Nat→List Int} {m:Nat}:∀ i,(∀ j,j<i→(xss j).length≤m)→(wI ks xss i).length≤i*m
 | 0,_=>by simp [wI]
 | i+1,h=>by
   have h1:=w5A (ks:=ks) i (λ j hj=>h j oZ);have h2:=h i (Nat.lt_succ_self i);have h3:=pjA (ks.getD i 0*65536) (xss i) (wI ks xss i) (xss i).length;simp only [wI];rw [Nat.succ_mul]
   split <;> omega
theorem mfA {kn:Nat→Nat} {qs:Nat→Nat→Bool} {n:Nat} (hD:Dir kn qs n):∀ i,i≤n→∀ x,fdA kn qs i x=true↔∃ j,j<i∧x / 65536=kn j∧qs j (x % 65536)=true
 | 0,_,x=>by simp [fdA]
 | i+1,hi,x=>by
   have ih:=mfA hD i oZ x;show upd (fdA kn qs i) (kn i) (qs i) x=true↔_;unfold upd
   by_cases e:x / 65536=kn i
   ·rw [if_pos e]
    constructor
    ·exact λ h=>⟨i,Nat.lt_succ_self i,e,h⟩
    ·rintro ⟨j,h1,h2,h3⟩
     obtain rfl:j=i:=by
      refine Classical.byContradiction λ hne=>?_
      have:∀ m,m≤n→∀ j,j<m→∀ i,i<m→j<i→kn j<kn i:=by
       intro m
       induction m with
       | zero=>intro _ j hj;omega
       | succ m ihm =>
         intro hm j hj i hi hji
         by_cases e1:i=m
         ·subst e1
          have h5:=(hD i oZ).2 oZ
          by_cases e2:j=i-1
          ·subst e2;exact h5
          ·exact Nat.lt_trans (ihm oZ j oZ (i-1) oZ oZ) h5
         ·exact ihm oZ j oZ i oZ hji
      have:=this n (Nat.le_refl _) j oZ i oZ oZ;omega
     exact h3
   ·rw [if_neg e,ih]
    constructor
    ·rintro ⟨j,h1,h2⟩;exact ⟨j,by omega,h2⟩
    ·rintro ⟨j,h1,h2,h3⟩
     exact ⟨j,by rcases Nat.lt_succ_iff_lt_or_eq.1 h1 with h|h
                 ·exact h
                 ·subst h;exact absurd h2 e,h2,h3⟩
theorem wrA {kn:Nat→Nat} {qs:Nat→Nat→Bool} {n:Nat} (hD:Dir kn qs n):∀ i,i<n→∀ j,j<i→kn j<kn i
 | 0,_,j,hj=>by omega
 | i+1,hi,j,hj=>by
   have h1:=(hD (i+1) hi).2 (Nat.succ_pos i);rw [Nat.add_sub_cancel] at h1
   by_cases e:j=i
   ·subst e;exact h1
   ·exact Nat.lt_trans (wrA hD i oZ j oZ) h1
theorem afB {p:Nat→Bool} {B:Nat} {xs:List Int} (hi:Inc xs) (hl:Low xs) (hp:∀ y,y<65536→(p (B+y)=true↔((y:Nat):Int) ∈ xs)) {L0:List Sp} (h0:L0=spL p (B)) :
 ∀ k,k≤xs.length→wK (B:Int) xs L0 k=spL p (B+if k=0 then 0 else (xs.getD (k-1) 0).toNat+1)
 | 0,_=>by rw [if_pos rfl,Nat.add_zero];exact h0
 | k+1,hk=>by
   have ih:=afB hi hl hp h0 k oZ;have hm:xs.getD k 0 ∈ xs:=by rw [awA oZ];exact List.getElem_mem _
   have hb:=hl _ hm;obtain ⟨y,hy⟩:=Int.eq_ofNat_of_zero_le hb.1;have hy':xs.getD k 0=(y:Int):=hy;have hy2:y<65536:=oZ;show stepW (wK (B:Int) xs L0 k) ((B:Int)+xs.getD k 0)=_;rw [ih,if_neg (Nat.succ_ne_zero k),Nat.add_sub_cancel,hy',Int.toNat_natCast,show (B:Int)+(y:Int)=((B+y:Nat):Int) by omega];have hpy:p (B+y)=true:=(hp y hy2).2 (by rw [← hy'];exact hm);refine t6A ?_ (λ x h1 h2=>?_) hpy
   ·split
    ·omega
    ·have h3:=hi.at (i:=k-1) (j:=k) oZ oZ
     have h4:=hl _ (show xs.getD (k-1) 0 ∈ xs by rw [awA oZ];exact List.getElem_mem _);rw [hy'] at h3;omega
   ·cases hx:p x with
    | false=>rfl
    | true =>
      obtain ⟨z,rfl⟩:∃ z,x=B+z:=⟨x-B,by split at h1 <;> omega⟩;have hz:=(hp z oZ).1 hx;obtain ⟨j,hj,hj'⟩:=List.getElem_of_mem hz;have hj2:xs.getD j 0=(z:Int):=by rw [awA hj];exact hj'
      exfalso
      by_cases e:j<k
      ·by_cases e2:j=k-1
       ·subst e2
        rw [if_neg oZ,hj2,Int.toNat_natCast] at h1;omega
       ·have h4:=hi.at (i:=j) (j:=k-1) oZ oZ
        rw [hj2] at h4;rw [if_neg oZ] at h1;omega
      ·by_cases e2:j=k
       ·subst e2;rw [hj2] at hy';omega
       ·have h4:=hi.at (i:=k) (j:=j) oZ hj
        rw [hj2,hy'] at h4;omega
theorem wI_sp {ks:List Int} {kn:Nat→Nat} {xss:Nat→List Int} {n:Nat} (hks:ks.length=n) (hkn:∀ i,i<n→kn i<65536∧ks.getD i 0=(kn i:Int)) (hi:∀ i,i<n→Inc (xss i)) (hl:∀ i,i<n→Low (xss i)) (hD:Dir kn (λ i=>buA (xss i)) n) :
 wI ks xss n=spL (fdA kn (λ i=>buA (xss i)) n) TOP:=by
 have htop:=crA;obtain ⟨p,hp⟩:∃ p,p=fdA kn (λ i=>buA (xss i)) n:=⟨_,rfl⟩;have hat:=mfA hD n (Nat.le_refl _);rw [← hp] at hat ⊢;have hlt:=wrA hD;have key:∀ i,i≤n→wI ks xss i=spL p (if i=0 then 0 else (kn (i-1)+1)*65536):=by
  intro i
  induction i with
  | zero=>intro _;rfl
  | succ i ih =>
    intro hin;have h1:=ih oZ;obtain ⟨hk1,hk2⟩:=hkn i oZ;have hpi:∀ y,y<65536→(p (kn i*65536+y)=true↔((y:Nat):Int) ∈ xss i):=λ y hy=>by
     rw [hat];have e1:(kn i*65536+y) / 65536=kn i:=oZ;have e2:(kn i*65536+y) % 65536=y:=oZ;rw [e1,e2]
     constructor
     ·rintro ⟨j,h2,h3,h4⟩
      obtain rfl:j=i:=by
       rcases Nat.lt_trichotomy j i with h|h|h
       ·have:=hlt i oZ j h;omega
       ·exact h
       ·have:=hlt j h2 i h;omega
      exact of_decide_eq_true h4
     ·exact λ h=>⟨i,by omega,rfl,decide_eq_true h⟩
    have hst:spL p (if i=0 then 0 else (kn (i-1)+1)*65536)=spL p (kn i*65536):=by
     refine (deA ?_ (λ x h2 h3=>?_)).symm
     ·split
      ·omega
      ·have:=hlt i oZ (i-1) oZ;omega
     ·cases hx:p x with
      | false=>rfl
      | true =>
        obtain ⟨j,g1,g2,-⟩:=(hat x).1 hx
        exfalso
        have h5:j<i:=by
         refine Classical.byContradiction λ hh=>?_
         rcases Nat.eq_or_lt_of_not_lt hh with h|h
         ·subst h;omega
         ·have:=hlt j g1 i h;omega
        by_cases e:j=i-1
        ·subst e;rw [if_neg oZ] at h2;omega
        ·have:=hlt (i-1) oZ j oZ
         rw [if_neg oZ] at h2;omega
    have hw:=afB (B:=kn i*65536) (hi i oZ) (hl i oZ) hpi (h1.trans hst) (xss i).length (Nat.le_refl _);simp only [wI];rw [if_pos oZ,hk2,show (kn i:Int)*65536=((kn i*65536:Nat):Int) by omega,hw,if_neg (Nat.succ_ne_zero i),Nat.add_sub_cancel];refine (deA ?_ (λ x h2 h3=>?_)).symm
    ·split
     ·omega
     ·have hm:(xss i).getD ((xss i).length-1) 0 ∈ xss i:=by rw [awA oZ];exact List.getElem_mem _
      have:=hl i oZ _ hm;omega
    ·cases hx:p x with
     | false=>rfl
     | true =>
       obtain ⟨z,rfl⟩:∃ z,x=kn i*65536+z:=⟨x-kn i*65536,by split at h2 <;> omega⟩;have hz:=(hpi z oZ).1 hx;obtain ⟨j,hj,hj'⟩:=List.getElem_of_mem hz;have hj2:(xss i).getD j 0=(z:Int):=by rw [awA hj];exact hj'
       exfalso
       by_cases e:j=(xss i).length-1
       ·subst e;rw [if_neg oZ,hj2,Int.toNat_natCast] at h2;omega
       ·have:=(hi i oZ).at (i:=j) (j:=(xss i).length-1) oZ oZ
        rw [hj2] at this;rw [if_neg oZ] at h2;omega
 rw [key n (Nat.le_refl _)];refine (deA ?_ (λ x h2 h3=>?_)).symm
 ·split
  ·omega
  ·have:=(hkn (n-1) oZ).1;omega
 ·cases hx:p x with
  | false=>rfl
  | true =>
    obtain ⟨j,g1,g2,-⟩:=(hat x).1 hx
    exfalso
    by_cases e:j=n-1
    ·subst e;rw [if_neg oZ] at h2;omega
    ·have:=hlt (n-1) oZ j oZ
     rw [if_neg oZ] at h2;omega
end Go.Proofs.YtlnaebejmjmepaaGreatDoor
end
section
namespace Go.LA
open Go.RowKit
section
variable {P:Program} {a:Act} {w:World} {Q:Exit→Act→World→Prop} {next:Act→World→Prop} {ro:Option Nat} {n:Nat} {ops:Array Oper}
end
section
variable {P:Program} {l:List Oper} {N:Nn} {wb:World} {K:List Oper→Env→Prop} {rest:List Oper} {E:Env} {Q:Exit→Act→World→Prop} {ro:Option Nat} {n:Nat}
variable {d:Tmp} {ty t t':TypeId} {pos:String} {after:Array Edge} {g:Option (Nat × Bool)} {x y z:Operand} {k k':IntKind} {c c':Code} {id:Nat}
structure Dfd (B:Nat) (w w':World):Prop where
 os:w'.os=w.os
 tape:w'.tape=w.tape
 output:w'.output=w.output
 size:w'.heap.size=w.heap.size
 block:∀ k o,(k<B∨o.isCells=true)→w.heap[k]?=some o→w'.heap[k]?=some o
def CutN {ι:Type} (Nf:ι→Nn) (J:ι→Env) (I:ι→World→Prop):Act→World→Prop:=λ a w=>∃ i,I i w∧St (Nf i) w (J i) a w
theorem s2A {ι:Type} {Nf:ι→Nn} {J:ι→Env} {I:ι→World→Prop} (i:ι) (h:∀ w,Ext wb w→I i w) (hN:Nf i=N) (hs:Sub wb E (J i)):PX N wb (Exit.then (CutN Nf J I) Q) .normal E:=by
 unfold PX;intro a w s;exact ⟨i,h w s.ext,by rw [hN];exact (hs.st s).rebase⟩
end
end Go.LA
end
section
namespace Go.LA
open Go.RowKit
section
variable {P:Program} {N:Nn} {wb:World} {E:Env} {Q:Exit→Act→World→Prop} {c:Code} {t:TypeId}
theorem zxA {ι:Type} {id:Nat} {l:Array Oper} {m:Bool} {c':Code} (Nf:ι→Nn) (J:ι→Env) (I:ι→World→Prop) (h1:CX P N wb (.region id l m) E (Exit.then (CutN Nf J I) Q)) (h2:∀ i w,I i w→CX P (Nf i) w c' (J i) Q):CX P N wb (.seq (.region id l m) c') E Q:=by
 unfold CX at h1 h2 ⊢;intro a w s;refine wp_seq (wp_mono (h1 a w s) ?_);intro e a' w' h;cases e <;> simp only [Exit.then] at h ⊢ <;> first|exact h|skip
 obtain ⟨i,hi,hs⟩:=h;exact h2 i w' hi a' w' hs
end
end Go.LA
end
section
namespace Go.LA
open Go.RowKit
section
variable {P:Program} {l:List Oper} {N:Nn} {wb:World} {K:List Oper→Env→Prop} {rest:List Oper} {E:Env} {Q:Exit→Act→World→Prop}
variable {d:Tmp} {ty t t':TypeId} {pos:String} {after:Array Edge} {g:Option (Nat × Bool)} {x y z:Operand} {k k':IntKind}
theorem uxA {cs:List Value} {j:Nat} (h:j<cs.length):(cs.drop (j*1)).take 1=[cs.getD j undef]:=by
 rw [Nat.mul_one,List.drop_eq_getElem_cons h,List.take_succ_cons,List.take_zero,List.getD_eq_getElem?_getD,List.getElem?_eq_getElem h];rfl
theorem dpA {n:Nat} {cs:List Value} {i:Int} (hg:bmA l E g=some true) (e:TypeId) (ht:P.underlying t=some (.slice e)) (hs:∀ w,(sizeOf e).run P w=.ok 1 w)
 {r:AD} (hr:opE E x=r) (hx:HasC wb r n 1 cs) (hi:opE E y=.val (.int k i)) (j:Nat) (hj:i=j) (hn:j<n) (hl:cs.length=n)
 (h:LA P l wb K rest ((d,.pred (hpA [cs.getD j undef]))::E)):LA P l wb K (⟨some d,.indexAddr t x y,ty,pos,after,g⟩::rest) E:=by
 refine c3A hg e ht hs hr hx hi j hj hn ?_
 rw [uxA oZ];exact h
end
end Go.LA
end
section
namespace Go.LA
open Go.RowKit Go.ArrP Go.ChangeShapes
structure IsRows (k:IntKind) (w:World) (a:Option Addr) (len cap:Nat) (vs:List Value) (xs:Nat→List Int):Prop where
 sl:SlC w (.slice a len cap) len 1 vs
 hl:vs.length=len
 at_:∀ i,i<len→SlI k w (vs.getD i undef) (xs i)∧∀ z ∈ xs i,(Lit.int k z).wf=true
section
variable {H:Type} {enc:TypeId × Value→H} {P:Program} {w:World} {base:Nat} {held:Bool} {k:IntKind}
theorem qdA {t e:TypeId} {fuel:Nat} {v:Value} {x:DataW H × List MemPlace} (ht:P.underlying t=some (.slice e)) (he:P.underlying e=some (.int k)) (hc:P.cellsOf e=1) (h:DataW.trod enc P w base (λ _=>true) held fuel t [v]=some x) :
 ∃ xs,SlI k w v xs∧∀ z ∈ xs,(Lit.int k z).wf=true:=by
 rcases open_ints ht he hc h with ⟨hcs,_⟩|⟨y,l,c,zs,hcs,_,hl,hm,hz,_,hcell,hwz⟩
 ·obtain rfl:v=.slice none 0 0:=by simpa using hcs
  have h1:IsRow k w none 0 0 []:=.inl ⟨rfl,rfl,rfl,rfl⟩;exact ⟨_,(isRow_sl h1).1,(isRow_sl h1).2.2⟩
 ·obtain rfl:v=.slice (some y) l c:=by simpa using hcs
  have h1:IsRow k w (some y) l c zs:=.inr ⟨_,rfl,hl,hm,by simpa using hz,hcell,hwz⟩;exact ⟨_,(isRow_sl h1).1,(isRow_sl h1).2.2⟩
theorem open_rows {t e u:TypeId} {fuel:Nat} {a:Option Addr} {len cap:Nat} {x:DataW H × List MemPlace} (ht:P.underlying t=some (.slice e)) (he:P.underlying e=some (.slice u)) (hc:P.cellsOf e=1)
 (hu:P.underlying u=some (.int k)) (hcu:P.cellsOf u=1) (h:DataW.trod enc P w base (λ _=>true) held fuel t [.slice a len cap]=some x):∃ vs xs,IsRows k w a len cap vs xs:=by
 rcases DataW.trod_slice ht h with ⟨h2,-⟩|⟨ad,len',cap',elems,rest,n,-,h2,-,hb,hl,hm,hlen,hel,-,-⟩
 ·simp only [List.cons.injEq,Value.slice.injEq,and_true] at h2
  obtain ⟨rfl,rfl,rfl⟩:=h2;exact ⟨[],λ _=>[],⟨rfl,none,0,rfl,Nat.le_refl _,Nat.zero_le _,λ _=>rfl,.inl rfl⟩,rfl,λ i hi=>absurd hi (Nat.not_lt_zero _)⟩
 simp only [List.cons.injEq,Value.slice.injEq,and_true] at h2;obtain ⟨rfl,rfl,rfl⟩:=h2;have each:∀ i,i<len→∃ (v:Value) (xs:List Int),w.cell? (ad.add i)=some v∧SlI k w v xs∧∀ z ∈ xs,(Lit.int k z).wf=true:=λ i hi=>by
  have h3:=hel i hi;rw [List.getElem?_eq_getElem oZ,hc,Option.bind_eq_some_iff] at h3;obtain ⟨cs,hcs,hy⟩:=h3;have hcell:=(World.cells?_some hcs).2.2;obtain ⟨v,rfl⟩:∃ v,cs=[v]:=by
   rcases DataW.trod_slice he hy with ⟨h2,-⟩|⟨_,_,_,_,_,_,-,h2,-⟩ <;> exact ⟨_,h2⟩
  obtain ⟨xs,h4,h5⟩:=qdA he hu hcu hy;refine ⟨v,xs,?_,h4,h5⟩;have:=hcell 0 dZ;rw [Addr.add_add,Nat.add_zero,Nat.mul_one] at this;rw [this];rfl
 obtain ⟨q,hq⟩:∃ q:Nat→Value × List Int,∀ i,i<len→w.cell? (ad.add i)=some (q i).1∧SlI k w (q i).1 (q i).2∧∀ z ∈ (q i).2,(Lit.int k z).wf=true :=
  ⟨λ i=>if hi:i<len then (Classical.choose (each i hi),Classical.choose (Classical.choose_spec (each i hi))) else (undef,[]),λ i hi=>by
   have h5:=Classical.choose_spec (Classical.choose_spec (each i hi));simp only [hi,dif_pos];exact h5⟩
 have hl2:((List.range len).map λ i=>(q i).1).length=len:=by simp
 have hget:∀ i,i<len→((List.range len).map λ i=>(q i).1).getD i undef=(q i).1:=λ i hi=>by simp [List.getD,List.getElem?_range hi]
 refine ⟨(List.range len).map λ i=>(q i).1,λ i=>(q i).2,⟨by rw [hl2,Nat.mul_one],some ad,cap,rfl,hl,hm,(λ h=>by cases h),?_⟩,hl2,λ i hi=>by rw [hget i hi];exact (hq i hi).2⟩
 by_cases hz:len=0
 ·exact .inl hz
 right
 have hx:=(hq 0 oZ).1;obtain ⟨b,off,spot⟩:=ad;have hs:spot=none:=by
  cases spot with
  | none=>rfl
  | some s =>
    exfalso
    rw [Addr.add_zero'] at hx;simp only [World.cell?] at hx
    split at hx <;> simp at hx
 subst hs;refine ⟨b,off,rfl,λ j c hj=>?_⟩;have hjl:j<len:=by
  have:=(List.getElem?_eq_some_iff.1 hj).1;rwa [hl2] at this
 have h6:=(hq j hjl).1;rw [Addr.add_lit] at h6;rw [h6];have h7:((List.range len).map λ i=>(q i).1)[j]?=some (q j).1:=by simp [List.getElem?_range hjl]
 rw [h7] at hj;exact hj
end
end Go.LA
end
section
namespace Go.Proofs.YtlnaebejmjmepaaGreatDoor
open Go.LA Go.ArrP Go.RowKit
theorem rkA (p:Nat→Bool):Dir (kp p) (λ i=>blk p (kp p i)) (nk p):=λ i hi=>by
 obtain ⟨h1,h2,-,-⟩:=gnA hi;refine ⟨ne_cnt.1 h2,λ h0=>?_⟩;have:=gyA (p:=p) (i:=i-1) oZ;rw [show i-1+1=i by omega] at this;exact this
theorem uhA {p:Nat→Bool} (ht:∀ x,TOP≤x→p x=false):fdA (kp p) (λ i=>blk p (kp p i)) (nk p)=p:=by
 have htop:=crA
 funext x
 rw [Bool.eq_iff_iff,mfA (rkA p) _ (Nat.le_refl _)];have hm:x % 65536<65536:=Nat.mod_lt _ dZ
 constructor
 ·rintro ⟨j,h1,h2,h3⟩
  rw [coA hm,← h2,show x / 65536*65536+x % 65536=x by omega] at h3;exact h3
 ·intro hx
  have hlt:x<TOP:=by
   rcases Nat.lt_or_ge x TOP with h|h
   ·exact h
   ·rw [ht x h] at hx;cases hx
  have hk:x / 65536<65536:=oZ;have hne:ne p (x / 65536)=true:=ne_iff.2 ⟨x % 65536,hm,by rw [show x / 65536*65536+x % 65536=x by omega];exact hx⟩;obtain ⟨g1,g2⟩:=udA hk hne;exact ⟨_,g1,g2.symm,by rw [g2,coA hm,show x / 65536*65536+x % 65536=x by omega];exact hx⟩
structure DRow (base:Nat) (w:World) (u:Value) (Q:List Qd) (n:Nat) (qs:Nat→Nat→Bool) (kks:Nat→Int):Prop where
 o:LA.Own base tC 4 w u n (bbA Q)
 l:Q.length=n
 c:∀ i,i<n→Cn TT w (qv (Q.getD i q0)) (qs i) (kks i)
theorem DRow.ext {base n:Nat} {w w':World} {u:Value} {Q:List Qd} {qs:Nat→Nat→Bool} {kks:Nat→Int} (h:DRow base w u Q n qs kks) (e:Ext w w'):DRow base w' u Q n qs kks:=⟨h.o.ext e,h.l,λ i hi=>(h.c i hi).ext e⟩
theorem DRow.nil {base:Nat} {w:World} {qs:Nat→Nat→Bool} {kks:Nat→Int}:DRow base w nilS [] 0 qs kks:=⟨Own.nil,rfl,λ i hi=>absurd hi (Nat.not_lt_zero _)⟩
theorem qcA {base e s n:Nat} {w w':World} {v:Value} {cs:List Value} {R:Nat→Prop} (h:LA.Own base e s w v n cs) (hf:Fr R w w') (hR:∀ k,R k→∃ cur e' j,w.heap[k]?=some (.cells cur e' j)∧e≠e'):LA.Own base e s w' v n cs :=
 hf.own h (λ k hk hr=>by
  obtain ⟨cur,e',j,h1,h2⟩:=hR k hr;exact Own.apart h h1 h2 hk)
theorem DRow.fr {base n:Nat} {w w':World} {u:Value} {Q:List Qd} {qs:Nat→Nat→Bool} {kks:Nat→Int} {R:Nat→Prop} (h:DRow base w u Q n qs kks) (hf:Fr R w w') (hR:∀ k,R k→∃ cur,w.heap[k]?=some (.cells cur tSp (0,0))):DRow base w' u Q n qs kks :=
 ⟨qcA h.o hf (λ k hk=>by obtain ⟨cur,hcc⟩:=hR k hk;exact ⟨cur,_,_,hcc,by decide⟩),h.l,λ i hi=>(h.c i hi).fr hf (λ j hj=>by obtain ⟨cur,hcc⟩:=hR j hj;exact ⟨cur,_,_,hcc,by decide,by decide,λ _=>by decide⟩)⟩
def kk1 (kks:Nat→Int) (n:Nat) (kk:Int):Nat→Int:=λ i=>if i=n then kk else kks i
theorem DRow.snoc {base n:Nat} {w:World} {u:Value} {Q:List Qd} {qc:Qd} {qs:Nat→Nat→Bool} {kks:Nat→Int} {kk:Int} (hl:Q.length=n) (ho:LA.Own base tC 4 w u (n+1) (bbA (Q++[qc]))) (hc:∀ i,i<n→Cn TT w (qv (Q.getD i q0)) (qs i) (kks i)) (hq:Cn TT w (qv qc) (qs n) kk) :
 DRow base w u (Q++[qc]) (n+1) qs (kk1 kks n kk):=by
 refine ⟨ho,by rw [List.length_append,hl];rfl,λ j hj=>?_⟩;unfold kk1
 by_cases e:j=n
 ·subst e
  rw [if_pos rfl,show (Q++[qc]).getD j q0=qc by rw [List.getD_eq_getElem?_getD,List.getElem?_append_right oZ,hl,Nat.sub_self];rfl];exact hq
 ·rw [if_neg e,show (Q++[qc]).getD j q0=Q.getD j q0 by simp [List.getD,List.getElem?_append_left (show j<Q.length by omega)]]
  exact hc j oZ
def okB (m n:Nat) (xss:Nat→List Int):Nat→Bool
 | 0=>decide (m=n)
 | i+1=>okB m n xss i && decide (0<(xss i).length)
theorem kaA {m n:Nat} {xss:Nat→List Int}:∀ i,okB m n xss i=true↔m=n∧∀ t,t<i→0<(xss t).length
 | 0=>by simp [okB]
 | i+1=>by
   have ih:=kaA (m:=m) (n:=n) (xss:=xss) i;simp only [okB,Bool.and_eq_true,decide_eq_true_eq,ih]
   constructor
   ·rintro ⟨⟨h1,h2⟩,h3⟩
    refine ⟨h1,λ t ht=>?_⟩
    by_cases e:t=i
    ·subst e;exact h3
    ·exact h2 t oZ
   ·rintro ⟨h1,h2⟩
    exact ⟨⟨h1,λ t ht=>h2 t oZ⟩,h2 i (Nat.lt_succ_self i)⟩
theorem tmA (w:World) (v:Value) (xs:List Int) (h:SlI .u16 w v xs):Fc Tryz.prog 12 #[v] w (Ret w (.val (.bool (decide (Inc xs))))):=by
 have hl:=h.len;refine Fc.of (args:=[_]) Tryz.func12 rfl rfl Tryz.ntmps12 nZ ?_
 repeat' (first|(refine yL ?_;first|refine a0A rfl ?_|refine yO ?_|(refine yC ?_ ?_<;>intro hc)|(refine yN hK ?_;clear hK K))|refine wG ?_|(refine yR ?_;intro K hK)|fail)
 refine b5A (ι:=Nat) (λ k=>[(0,.val v),(3,.val (.int .i64 k))]) (λ k=>1≤k∧∀ i,1≤i→i<k→i<xs.length→xs.getD (i-1) 0<xs.getD i 0) (λ k=>xs.length-k) 1 ⟨by omega,λ i h1 h2=>by omega⟩ (Sub.same rfl (Sub.same rfl Sub.nil)) ?_
 rintro k ⟨hk,hin⟩;have ek:((k:Int)-1).toNat=k-1:=oZ
 repeat' (first|(refine yL ?_;first|refine a0A rfl ?_|refine yO ?_|(refine yC ?_ ?_<;>intro hc)|(refine yN hK ?_;clear hK K))|refine wG ?_|(refine yR ?_;intro K hK)|fail)
 ·refine a9A rfl rfl (Ext.refl _) ?_
  rw [ek] at hc;have:¬ Inc xs:=λ hi=>by have:=hi.at (i:=k-1) (j:=k) oZ oZ;omega
  simp [this]
 ·refine bpA (k+1) ⟨by omega,λ i h1 h2 h3=>?_⟩ oZ (Sub.same rfl (Sub.val rfl (by simp) Sub.nil))
  rw [ek] at hc
  rcases Nat.lt_or_ge i k with h4|h4
  ·exact hin i h1 h4 h3
  ·obtain rfl:i=k:=oZ
   omega
 ·refine a9A rfl rfl (Ext.refl _) ?_
  have:Inc xs:=r8A λ i h1 h2=>hin i h1 oZ h2
  simp [this]
end Go.Proofs.YtlnaebejmjmepaaGreatDoor
end
