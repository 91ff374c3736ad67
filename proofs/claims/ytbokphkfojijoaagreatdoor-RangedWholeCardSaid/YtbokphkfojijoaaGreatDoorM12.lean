import Derived.Test.YtbokphkfojijoaaGreatDoorM7
import Derived.Test.YtbokphkfojijoaaGreatDoorM11
section
set_option linter.unusedSimpArgs false
set_option linter.unusedVariables false
set_option maxRecDepth 3000
namespace Go.Proofs.YtbokphkfojijoaaGreatDoor
open Go.LA Go.ArrP Go.RowKit
variable {A:Nat → Prop}
theorem SlI.nil16 {w:World}:SlI .u16 w (.slice none 0 0) []:=⟨rfl,none,0,rfl,Nat.le_refl _,Nat.zero_le _,fun _=>rfl,.inl rfl⟩
theorem u5A {rs:List Rn} (hr:Right rs) (hu:U16 rs) {k:Nat} (hk:k < rs.length):wordsOf (rcA (inR (rs.take k)) (fst rs k) (fst rs k + mor rs k + 1))=wordsOf (inR (rs.take (k + 1))):=c1A fun i _=>by
  have h0:=(l4A hr hu k (by omega)).1 i
  have h1:=(hr k hk).1
  rw [gbA hk,idA,icA]
  unfold rcA
  by_cases h2:fst rs k ≤ (i:Int)
  · rw [h0 (by omega),decide_eq_true h2]
    by_cases h3:(i:Int) ≤ fst rs k + mor rs k
    · rw [decide_eq_true (by omega:(i:Int) < fst rs k + mor rs k + 1),decide_eq_true h3];rfl
    · rw [decide_eq_false (by omega:¬ (i:Int) < fst rs k + mor rs k + 1),decide_eq_false h3];rfl
  · rw [decide_eq_false h2]
    cases inR (rs.take k) i <;> rfl
theorem fiA (w:World) (v:Value) (xs:List Int) (h:SlI .u16 w v xs) (hb:xs.length ≤ 65536):Fc Tryz.prog 99 #[v] w (Ret w (.pred (bfA w.heap.size 31 .u16 xs))) :=
  ruA w v xs.length (xs.map (Value.int .u16)) h e5A (by omega)
theorem llA (w:World) (v:Value) (xs:List Int) (h:SlI .u64 w v xs) (hb:xs.length ≤ 65536):Fc Tryz.prog 132 #[v] w (Ret w (.pred (bfA w.heap.size 61 .u64 xs))) :=
  rsA w v xs.length (xs.map (Value.int .u64)) h e5A (by omega)
theorem oiA (w:World) (v:Value) (rs:List Rn) (h:SlR w v rs) (hb:rs.length ≤ 65536):Fc Tryz.prog 94 #[v] w (Ret w (.pred (fyA w.heap.size 105 rs))) :=
  rqA w v rs.length (cwA rs) h (jjA rs) (by omega)
theorem leA (p:Nat → Bool):(ahA p 65536).length ≤ 65536:=by rw [b7A];exact cnt_le p 65536
theorem mwA {w:World} {v:Value} {p:Nat → Bool} {kk:Int} (h:Cn A w v p kk) (hT:Tab w):Fc Tryz.prog 96 #[v] w (Ret w (.pred (bfA w.heap.size 31 .u16 (ahA p 65536)))):=by
  have hl:f3A (auA p)=ahA p 65536:=o0A p 65536
  have hn:(auA p).length ≤ 70000:=by have:=dnA p;omega
  obtain ⟨hp,⟨rfl,kd,va,hkd,rfl,ho⟩ | ⟨rfl,vw,rfl,ho⟩ | ⟨rfl,vr,rfl,ho⟩⟩:=h
  · refine Fc.of (args:=[_]) Tryz.func96 rfl rfl Tryz.ntmps96 (Nat.le_of_ble_eq_true rfl) ?_
    repeat' (first|(refine oLA ?_;first|refine a0A rfl ?_|refine dvA ?_|refine wOp ?_|(refine wCm ?_ ?_<;>intro hc)|(refine oCv ?_;first|(refine oC 99 ?_;refine a2A (f:=99) rfl rfl rfl  (.pred (bfA _ 31 .u16 (ahA p 65536))) (by intro u1 w e hu1;(try obtain rfl:u1=_:=hu1);exact (fiA _ _ _ (ho.ext e).slI (leA p)).mono (aaA e.size)) ?_))|(refine wNl hK ?_;clear hK K))|refine wG ?_|(refine wCR ?_;intro K hK)|fail)
    all_goals skip
    all_goals exact akA rfl rfl (Ext.refl _) (fun _ _ _ hv=>hv)
  · refine Fc.of (args:=[_]) Tryz.func96 rfl rfl Tryz.ntmps96 (Nat.le_of_ble_eq_true rfl) ?_
    repeat' (first|(refine oLA ?_;first|refine a0A rfl ?_|refine dvA ?_|refine wOp ?_|(refine wCm ?_ ?_<;>intro hc)|(refine oCv ?_;first|(refine oC 128 ?_;refine a2A (f:=128) rfl rfl rfl  (.pred (bfA _ 31 .u16 (ahA p 65536))) (by intro u1 w e hu1;(try obtain rfl:u1=_:=hu1);exact (zkA _ _ p (ho.ext e).slI (hT.ext e)).mono (aaA e.size)) ?_))|(refine wNl hK ?_;clear hK K))|refine wG ?_|(refine wCR ?_;intro K hK)|fail)
    all_goals skip
    all_goals exact akA rfl rfl (Ext.refl _) (fun _ _ _ hv=>hv)
  · refine Fc.of (args:=[_]) Tryz.func96 rfl rfl Tryz.ntmps96 (Nat.le_of_ble_eq_true rfl) ?_
    repeat' (first|(refine oLA ?_;first|refine a0A rfl ?_|refine dvA ?_|refine wOp ?_|(refine wCm ?_ ?_<;>intro hc)|(refine oCv ?_;first|(refine oC 129 ?_;refine a2A (f:=129) rfl rfl rfl  (.pred (bfA _ 31 .u16 (ahA p 65536))) (by intro u1 w e hu1;(try obtain rfl:u1=_:=hu1);exact by rw [← hl];exact (tcA _ _ _ (ho.ext e).slR (e3A p) (frA p) hn).mono (aaA e.size)) ?_))|(refine wNl hK ?_;clear hK K))|refine wG ?_|(refine wCR ?_;intro K hK)|fail)
    all_goals skip
    all_goals exact akA rfl rfl (Ext.refl _) (fun _ _ _ hv=>hv)
theorem afB {w:World} {v:Value} {p:Nat → Bool} {kk:Int} (h:Cn A w v p kk):Fc Tryz.prog 127 #[v] w (Ret w (.val (.int .i64 (cnt (bkA p) 65536)))):=by
  have hm:(auA p).length=cnt (bkA p) 65536:=f2A p 65536
  have hr:=m3A p
  obtain ⟨hp,⟨rfl,kd,va,hkd,rfl,ho⟩ | ⟨rfl,vw,rfl,ho⟩ | ⟨rfl,vr,rfl,ho⟩⟩:=h
  · refine Fc.of (args:=[_]) Tryz.func127 rfl rfl Tryz.ntmps127 (Nat.le_of_ble_eq_true rfl) ?_
    repeat' (first|(refine oLA ?_;first|refine a0A rfl ?_|refine dvA ?_|refine wOp ?_|(refine wCm ?_ ?_<;>intro hc)|(refine oCv ?_;first|(refine oC 175 ?_;refine a2A (f:=175) rfl rfl rfl  (.val (.int .i64 (cnt (bkA p) 65536))) (by intro u1 w e hu1;(try obtain rfl:u1=_:=hu1);exact anA (by rw [hr]) (zvA _ _ _ (ho.ext e).slI)) ?_))|(refine wNl hK ?_;clear hK K))|refine wG ?_|(refine wCR ?_;intro K hK)|fail)
    all_goals skip
    all_goals exact abA rfl rfl (Ext.refl _) rfl
  · refine Fc.of (args:=[_]) Tryz.func127 rfl rfl Tryz.ntmps127 (Nat.le_of_ble_eq_true rfl) ?_
    repeat' (first|(refine oLA ?_;first|refine a0A rfl ?_|refine dvA ?_|refine wOp ?_|(refine wCm ?_ ?_<;>intro hc)|(refine oCv ?_;first|(refine oC 174 ?_;refine a2A (f:=174) rfl rfl rfl  (.val (.int .i64 (cnt (bkA p) 65536))) (by intro u1 w e hu1;(try obtain rfl:u1=_:=hu1);exact zfA _ _ p (ho.ext e).slI) ?_))|(refine wNl hK ?_;clear hK K))|refine wG ?_|(refine wCR ?_;intro K hK)|fail)
    all_goals skip
    all_goals exact abA rfl rfl (Ext.refl _) rfl
  · have hs:=ho.slR
    rw [← hm]
    refine Fc.of (args:=[_]) Tryz.func127 rfl rfl Tryz.ntmps127 (Nat.le_of_ble_eq_true rfl) ?_
    repeat' (first|(refine oLA ?_;first|refine a0A rfl ?_|refine dvA ?_|(refine dkA ?_;refine byA rfl _ rfl rfl (HasR.val hs) ?_)|refine wOp ?_|(refine wCm ?_ ?_<;>intro hc)|(refine wNl hK ?_;clear hK K))|refine wG ?_|(refine wCR ?_;intro K hK)|fail)
    all_goals skip
    all_goals exact abA rfl rfl (Ext.refl _) rfl
def q1A (p:Nat → Bool) (kk:Int):Int:=if kk=2 then 8192 else if kk=3 then 2 + 4 * (cnt (bkA p) 65536:Int) else 2 * (cnt p 65536:Int)
theorem vsA {w:World} {v:Value} {p:Nat → Bool} {kk:Int} (h:Cn A w v p kk):Fc Tryz.prog 67 #[v] w (Ret w (.val (.int .i64 (q1A p kk)))):=by
  have hm:(auA p).length=cnt (bkA p) 65536:=f2A p 65536
  have hm':=dnA p
  have hl:=b7A p 65536
  have hl':=leA p
  obtain ⟨hp,⟨rfl,kd,va,hkd,rfl,ho⟩ | ⟨rfl,vw,rfl,ho⟩ | ⟨rfl,vr,rfl,ho⟩⟩:=h
  · have hs:=ho.slI
    have hz:q1A p 1=2 * ((ahA p 65536).length:Int):=by rw [hl];rfl
    rw [hz]
    obtain ⟨n,hn⟩:∃ n,n=(ahA p 65536).length:=⟨_,rfl⟩
    rw [← hn] at hl' ⊢
    refine Fc.of (args:=[_]) Tryz.func67 rfl rfl Tryz.ntmps67 (Nat.le_of_ble_eq_true rfl) ?_
    repeat' (first|(refine oLA ?_;first|refine a0A rfl ?_|refine dvA ?_|(refine dkA ?_;refine azA rfl _ rfl rfl (HasI.val hs).c ?_;rw [← hn])|refine wOp ?_|(refine wCm ?_ ?_<;>intro hc)|(refine wNl hK ?_;clear hK K))|refine wG ?_|(refine wCR ?_;intro K hK)|fail)
    all_goals skip
    all_goals exact abA rfl rfl (Ext.refl _) rfl
  · refine Fc.of (args:=[_]) Tryz.func67 rfl rfl Tryz.ntmps67 (Nat.le_of_ble_eq_true rfl) ?_
    repeat' (first|(refine oLA ?_;first|refine a0A rfl ?_|refine dvA ?_|refine wOp ?_|(refine wCm ?_ ?_<;>intro hc)|(refine wNl hK ?_;clear hK K))|refine wG ?_|(refine wCR ?_;intro K hK)|fail)
    all_goals skip
    all_goals exact abA rfl rfl (Ext.refl _) rfl
  · have hs:=ho.slR
    have hz:q1A p 3=2 + 4 * ((auA p).length:Int):=by rw [hm];rfl
    rw [hz]
    obtain ⟨n,hn⟩:∃ n,n=(auA p).length:=⟨_,rfl⟩
    rw [← hn] at hm' ⊢
    refine Fc.of (args:=[_]) Tryz.func67 rfl rfl Tryz.ntmps67 (Nat.le_of_ble_eq_true rfl) ?_
    repeat' (first|(refine oLA ?_;first|refine a0A rfl ?_|refine dvA ?_|(refine dkA ?_;refine byA rfl _ rfl rfl (HasR.val hs) ?_;rw [← hn])|refine wOp ?_|(refine wCm ?_ ?_<;>intro hc)|(refine wNl hK ?_;clear hK K))|refine wG ?_|(refine wCR ?_;intro K hK)|fail)
    all_goals skip
    all_goals exact abA rfl rfl (Ext.refl _) rfl
theorem rjA {w:World} {v:Value} {p:Nat → Bool} {kk:Int} (h:Cn A w v p kk) (hT:Tab w):Fc Tryz.prog 59 #[v] w (Ret w (.pred (fyA w.heap.size 105 (auA p)))):=by
  have hm':=dnA p
  have hmm:auA (c7A (ahA p 65536))=auA p:=i0A fun i hi=>ckA p hi
  have ha:∀ w',Ext w w' → _:=fun w' e=>mwA (h.ext e) (hT.ext e)
  obtain ⟨hp,⟨rfl,kd,va,hkd,rfl,ho⟩ | ⟨rfl,vw,rfl,ho⟩ | ⟨rfl,vr,rfl,ho⟩⟩:=h
  · refine Fc.of (args:=[_]) Tryz.func59 rfl rfl Tryz.ntmps59 (Nat.le_of_ble_eq_true rfl) ?_
    repeat' (first|(refine oLA ?_;first|refine a0A rfl ?_|refine dvA ?_|refine wOp ?_|(refine wCm ?_ ?_<;>intro hc)|(refine oCv ?_;first|(refine oC 96 ?_;refine a2A (f:=96) rfl rfl rfl  (.pred (bfA _ 31 .u16 (ahA p 65536))) (by intro u1 w e hu1;(try obtain rfl:u1=_:=hu1);exact (ha _ e).mono (aaA e.size)) ?_)|(refine oC 95 ?_;refine a2A (f:=95) rfl rfl rfl  (.pred (fyA _ 105 (auA p))) (by intro u1 w e hu1;(try obtain rfl:u1=_:=hu1);exact (vvA _ _ _ (OwnI.slI hu1) (bvA p _) (d1A p)).mono (brA e.size hmm)) ?_))|(refine wNl hK ?_;clear hK K))|refine wG ?_|(refine wCR ?_;intro K hK)|fail)
    all_goals skip
    all_goals exact akA rfl rfl (Ext.refl _) (fun _ _ _ hv=>hv)
  · refine Fc.of (args:=[_]) Tryz.func59 rfl rfl Tryz.ntmps59 (Nat.le_of_ble_eq_true rfl) ?_
    repeat' (first|(refine oLA ?_;first|refine a0A rfl ?_|refine dvA ?_|refine wOp ?_|(refine wCm ?_ ?_<;>intro hc)|(refine oCv ?_;first|(refine oC 96 ?_;refine a2A (f:=96) rfl rfl rfl  (.pred (bfA _ 31 .u16 (ahA p 65536))) (by intro u1 w e hu1;(try obtain rfl:u1=_:=hu1);exact (ha _ e).mono (aaA e.size)) ?_)|(refine oC 95 ?_;refine a2A (f:=95) rfl rfl rfl  (.pred (fyA _ 105 (auA p))) (by intro u1 w e hu1;(try obtain rfl:u1=_:=hu1);exact (vvA _ _ _ (OwnI.slI hu1) (bvA p _) (d1A p)).mono (brA e.size hmm)) ?_))|(refine wNl hK ?_;clear hK K))|refine wG ?_|(refine wCR ?_;intro K hK)|fail)
    all_goals skip
    all_goals exact akA rfl rfl (Ext.refl _) (fun _ _ _ hv=>hv)
  · refine Fc.of (args:=[_]) Tryz.func59 rfl rfl Tryz.ntmps59 (Nat.le_of_ble_eq_true rfl) ?_
    repeat' (first|(refine oLA ?_;first|refine a0A rfl ?_|refine dvA ?_|refine wOp ?_|(refine wCm ?_ ?_<;>intro hc)|(refine oCv ?_;first|(refine oC 94 ?_;refine a2A (f:=94) rfl rfl rfl  (.pred (fyA _ 105 (auA p))) (by intro u1 w e hu1;(try obtain rfl:u1=_:=hu1);exact (oiA _ _ _ (ho.ext e).slR hm').mono (brA e.size rfl)) ?_))|(refine wNl hK ?_;clear hK K))|refine wG ?_|(refine wCR ?_;intro K hK)|fail)
    all_goals skip
    all_goals exact akA rfl rfl (Ext.refl _) (fun _ _ _ hv=>hv)
end Go.Proofs.YtbokphkfojijoaaGreatDoor
end
section
set_option linter.unusedSimpArgs false
set_option linter.unusedVariables false
set_option maxRecDepth 3000
namespace Go.Proofs.YtbokphkfojijoaaGreatDoor
open Go.LA Go.ArrP Go.RowKit
variable {A:Nat → Prop}
set_option maxHeartbeats 2000000 in
theorem hkA {w:World} {v:Value} {p:Nat → Bool} {kk:Int} (h:Cn A w v p kk):Fc Tryz.prog 103 #[v] w (Ret w (.pred (bfA w.heap.size 61 .u64 (wordsOf p)))):=by
  have hm':=dnA p
  have hwl:=b6A p
  obtain ⟨hp,⟨rfl,kd,va,hkd,rfl,ho⟩ | ⟨rfl,vw,rfl,ho⟩ | ⟨rfl,vr,rfl,ho⟩⟩:=h
  · have hww:wordsOf (c7A (ahA p 65536))=wordsOf p:=c1A fun i hi=>ckA p hi
    refine Fc.of (args:=[_]) Tryz.func103 rfl rfl Tryz.ntmps103 (Nat.le_of_ble_eq_true rfl) ?_
    repeat' (first|(refine oLA ?_;first|refine a0A rfl ?_|refine dvA ?_|refine wOp ?_|(refine wCm ?_ ?_<;>intro hc)|(refine oCv ?_;first|(refine oC 133 ?_;refine a2A (f:=133) rfl rfl rfl  (.pred (bfA _ 61 .u64 (wordsOf p))) (by intro u1 w e hu1;(try obtain rfl:u1=_:=hu1);exact (ziA _ _ _ (ho.ext e).slI (d1A p)).mono (x9A e.size hww)) ?_))|(refine wNl hK ?_;clear hK K))|refine wG ?_|(refine wCR ?_;intro K hK)|fail)
    all_goals skip
    all_goals exact akA rfl rfl (Ext.refl _) (fun _ _ _ hv=>hv)
  · refine Fc.of (args:=[_]) Tryz.func103 rfl rfl Tryz.ntmps103 (Nat.le_of_ble_eq_true rfl) ?_
    repeat' (first|(refine oLA ?_;first|refine a0A rfl ?_|refine dvA ?_|refine wOp ?_|(refine wCm ?_ ?_<;>intro hc)|(refine oCv ?_;first|(refine oC 132 ?_;refine a2A (f:=132) rfl rfl rfl  (.pred (bfA _ 61 .u64 (wordsOf p))) (by intro u1 w e hu1;(try obtain rfl:u1=_:=hu1);exact (llA _ _ _ (ho.ext e).slI (by omega)).mono (aaA e.size)) ?_))|(refine wNl hK ?_;clear hK K))|refine wG ?_|(refine wCR ?_;intro K hK)|fail)
    all_goals skip
    all_goals exact akA rfl rfl (Ext.refl _) (fun _ _ _ hv=>hv)
  · have hww:wordsOf (inR (auA p))=wordsOf p:=c1A fun i hi=>o4A p hi
    rw [← hww]
    have h:=ho.slR
    have hu:=e3A p
    have hr:=frA p
    obtain ⟨rs,hrs⟩:∃ rs,rs=auA p:=⟨_,rfl⟩
    rw [← hrs] at h hu hr hm' ⊢
    have hlen:=h.len
    refine Fc.of (args:=[_]) Tryz.func103 rfl rfl Tryz.ntmps103 (Nat.le_of_ble_eq_true rfl) ?_
    repeat' (first|(refine oLA ?_;first|refine a0A rfl ?_|refine dvA ?_|(refine oI ?_;refine bhA rfl _ rfl (fun _=>rfl) rfl (by first | exact HasR.val (by assumption) | exact HasR.own | exact HasR.ownV (by assumption)) rfl (by omega) ?_)|(refine oLt 105 ?_;refine aqA rfl (fun _=>rfl) (fun _=>rfl) rfl ?_)|(show LA _ _ _ _ (⟨some 99,.alloc _,_,_,_,_⟩ :: _) _;refine a4A (hK _ _ (cbA rfl rfl (by decide) (fun _=>rfl) (fun _=>rfl) (fun _=>rfl) rfl (by intro u hu;simp [Value.cells] at hu;rcases hu with rfl | rfl <;> rfl) (fun bx wx ex hbx hbc=>?_)));clear hK K;refine aeA (by kernel_rfl) (fun K hK=>?_))|(refine oF 0 ?_;refine a1A (a:=⟨bx,0,none⟩) (a':=⟨bx,0,none⟩) rfl rfl (fun _=>rfl) ?_)|(refine oF 1 ?_;refine a1A (a:=⟨bx,0,none⟩) (a':=⟨bx,1,none⟩) rfl rfl (fun _=>rfl) ?_)|(refine oLt 105 ?_;refine b9A rfl (fun _=>rfl) (fun _=>rfl) rfl hbc ?_)|(refine oLt 31 ?_;refine a5A rfl (fun _=>rfl) rfl hbc rfl ?_)|(refine dkA ?_;refine byA rfl _ rfl rfl (by first | exact HasR.val (by assumption) | exact HasR.own | exact HasR.ownV (by assumption)) ?_)|refine wOp ?_|(refine wCm ?_ ?_<;>intro hc)|(refine oCv ?_;first|(refine oC 133 ?_;refine a2A (f:=133) rfl rfl rfl  (.pred (bfA w.heap.size 61 .u64 (wordsOf (inR [])))) (by intro u1 w e hu1;(try obtain rfl:u1=_:=hu1);exact (ziA _ _ [] SlI.nil16 (fun x hx=>by cases hx)).mono (x9A e.size (c1A fun i _=>by simp [c7A,inR]))) ?_))|(refine wNl hK ?_;clear hK K))|refine wG ?_|(refine wCR ?_;intro K hK)|fail)
    refine buA 3 rfl (fun v3 w3 e3 h3=>?_)
    have h3:OwnI w.heap.size 61 .u64 w3 v3 (wordsOf (inR [])):=h3
    refine adA (ι:=Nat × Value) (fun i=>[(3,.val i.2),(17,.val vr),(18,.val (.int .i64 rs.length)),(19,.val (.int .i64 i.1))]) (fun i w'=>Ext w w' ∧ i.1 ≤ rs.length ∧ OwnI w.heap.size 61 .u64 w' i.2 (wordsOf (inR (rs.take i.1)))) (fun i=>rs.length - i.1)
      (fun w2 e2=>⟨(0,v3),⟨e3.trans e2,Nat.zero_le _,by dsimp only;rw [List.take_zero];exact h3.ext e2⟩,(by repeat' (first | exact Sub.nil | refine Sub.val rfl (by first | with_reducible rfl | (congr 1;omega)) ?_ | refine Sub.same rfl ?_))⟩) ?_
    rintro ⟨k,so⟩ w1 ⟨he,hk,ho⟩
    dsimp only at hk ho ⊢
    have h1:=h.ext he
    by_cases hkl:k < rs.length
    · obtain ⟨u1,u2,u3,u4⟩:=hu.at k
      obtain ⟨-,hr2⟩:=hr k hkl
      have hfr:=u5A hr hu hkl
      repeat' (first|(refine oLA ?_;first|refine a0A rfl ?_|(refine oI ?_;refine bhA rfl _ rfl (fun _=>rfl) rfl (by first | exact HasR.val (by assumption) | exact HasR.own | exact HasR.ownV (by assumption)) rfl (by omega) ?_)|(refine oLt 105 ?_;refine aqA rfl (fun _=>rfl) (fun _=>rfl) rfl ?_)|(show LA _ _ _ _ (⟨some 5,.alloc _,_,_,_,_⟩ :: _) _;refine a4A (hK _ _ (cbA rfl rfl (by decide) (fun _=>rfl) (fun _=>rfl) (fun _=>rfl) rfl (by intro u hu;simp [Value.cells] at hu;rcases hu with rfl | rfl <;> rfl) (fun bx wx ex hbx hbc=>?_)));clear hK K;refine aeA (by kernel_rfl) (fun K hK=>?_))|(refine oF 0 ?_;refine a1A (a:=⟨bx,0,none⟩) (a':=⟨bx,0,none⟩) rfl rfl (fun _=>rfl) ?_)|(refine oF 1 ?_;refine a1A (a:=⟨bx,0,none⟩) (a':=⟨bx,1,none⟩) rfl rfl (fun _=>rfl) ?_)|(refine oLt 105 ?_;refine b9A rfl (fun _=>rfl) (fun _=>rfl) rfl hbc ?_)|(refine oLt 31 ?_;refine a5A rfl (fun _=>rfl) rfl hbc rfl ?_)|(refine dkA ?_;refine byA rfl _ rfl rfl (by first | exact HasR.val (by assumption) | exact HasR.own | exact HasR.ownV (by assumption)) ?_)|refine wOp ?_|(refine wCm ?_ ?_<;>intro hc)|(refine oCv ?_;first|(refine oC 117 ?_;refine beA (f:=117) rfl rfl rfl rfl rfl  (.pred (bfA w.heap.size 61 .u64 (wordsOf (inR (rs.take (k + 1)))))) (by intro u1 u2 u3 w e hu1 hu2 hu3;(try obtain rfl:u1=_:=hu1);(try obtain rfl:u2=_:=hu2);(try obtain rfl:u3=_:=hu3);exact (zmA _ _ (inR (rs.take k)) (OwnI.slI (ho.ext (ex.trans e))) _ _ (by omega) (by omega)).mono (x9A (Nat.le_trans he.size (Nat.le_trans ex.size e.size)) hfr)) ?_))|(refine wNl hK ?_;clear hK K))|refine wG ?_|(refine wCR ?_;intro K hK)|fail)
      refine erA 3 rfl (fun v4 w4 e4 h4=>?_)
      have h4:OwnI w.heap.size 61 .u64 w4 v4 (wordsOf (inR (rs.take (k + 1)))):=h4
      exact a6A (k + 1,v4) (fun w5 e5=>⟨he.trans (ex.trans (e4.trans e5)),hkl,h4.ext e5⟩) (by dsimp only;omega) (by repeat' (first | exact Sub.nil | refine Sub.val rfl (by first | with_reducible rfl | (congr 1;omega)) ?_ | refine Sub.same rfl ?_))
    · obtain rfl:k=rs.length:=by omega
      rw [List.take_length] at ho
      repeat' (first|(refine oLA ?_;first|refine a0A rfl ?_|refine wOp ?_|(refine wCm ?_ ?_<;>intro hc)|(refine wNl hK ?_;clear hK K))|refine wG ?_|(refine wCR ?_;intro K hK)|fail)
      exact akA rfl rfl he (fun u w5 e5 hu'=>by obtain rfl:u=_:=hu';exact ho.ext e5)
theorem b5A {p:Nat → Bool} {kk:Int}:Lays (cnP A p kk) 4 96 :=
  ⟨fun v w h=>by
    obtain ⟨kd,va,vw,vr,rfl,-,-,-,-,-,-,h1⟩:=Cn.parts h
    exact ⟨_,rfl,rfl,h1⟩,fun v w b cur j cs h hb=>Cn.setRow h hb ⟨by decide,by decide,by decide⟩ cs⟩
theorem p5A (p:Nat → Bool):∃ n r:Nat,∃ kq:Int,cnt p 65536=n ∧ cnt (bkA p) 65536=r ∧ apA p=kq ∧ n ≤ 65536 ∧ r ≤ 65536 ∧
    ((n ≤ 4096 ∧ 2 + 4 * (r:Int) < 2 * n ∧ kq=3) ∨ (n ≤ 4096 ∧ ¬ 2 + 4 * (r:Int) < 2 * n ∧ kq=1) ∨ (¬ n ≤ 4096 ∧ 2 + 4 * (r:Int) < 8192 ∧ kq=3) ∨ (¬ n ≤ 4096 ∧ ¬ 2 + 4 * (r:Int) < 8192 ∧ kq=2)):=by
  refine ⟨_,_,_,rfl,rfl,rfl,cnt_le _ _,cnt_le _ _,?_⟩
  unfold apA w4A
  generalize cnt p 65536=n
  generalize cnt (bkA p) 65536=r
  by_cases h1:n ≤ 4096
  · by_cases h2:2 + 4 * (r:Int) < 2 * n
    · exact .inl ⟨h1,h2,by simp [h1,h2]⟩
    · exact .inr (.inl ⟨h1,h2,by simp [h1,h2]⟩)
  · by_cases h2:2 + 4 * (r:Int) < 8192
    · exact .inr (.inr (.inl ⟨h1,h2,by simp [h1,h2]⟩))
    · exact .inr (.inr (.inr ⟨h1,h2,by simp [h1,h2]⟩))
set_option maxHeartbeats 4000000 in
theorem d3A {w:World} {v:Value} {p:Nat → Bool} {kk:Int} (h:Cn A w v p kk) (hT:Tab w) (hA:Fsh A w):Fc Tryz.prog 93 #[v] w (Ret w (.pred (cnP A p (apA p)))):=by
  obtain ⟨n,r,kq,en,er,eq,h1,h2,hK⟩:=p5A p
  have hp:=h.1
  have hk:∀ w',Ext w w' → _:=fun w' e=>egA (h.ext e)
  have hl:∀ w',Ext w w' → _:=fun w' e=>g6A (h.ext e)
  have hm:∀ w',Ext w w' → _:=fun w' e=>afB (h.ext e)
  have hru:∀ w',Ext w w' → _:=fun w' e=>rjA (h.ext e) (hT.ext e)
  have ha:∀ w',Ext w w' → _:=fun w' e=>mwA (h.ext e) (hT.ext e)
  have hw:∀ w',Ext w w' → _:=fun w' e=>hkA (h.ext e)
  have hs:∀ w',Ext w w' → Cn A w' v p kk:=fun w' e=>h.ext e
  obtain ⟨kd,va,vw,vr,rfl,-,-,-,-,k1,k2,-⟩:=h.parts
  rw [en] at hl;rw [er] at hm;rw [eq]
  clear h en er eq
  rcases hK with ⟨a1,a2,rfl⟩ | ⟨a1,a2,rfl⟩ | ⟨a1,a2,rfl⟩ | ⟨a1,a2,rfl⟩
  · skip
    by_cases hkk:kk=3
    all_goals
      refine Fc.of (args:=[_]) Tryz.func93 rfl rfl Tryz.ntmps93 (Nat.le_of_ble_eq_true rfl) ?_
      repeat' (first|(refine oLA ?_;first|refine a0A rfl ?_|refine dvA ?_|refine bwA rfl (fun _=>rfl) ?_|(refine agA (j1:=3) (c:=fun u=>.agg #[.int .u8 3,.slice none 0 0,.slice none 0 0,u]) rfl rfl rfl (fun v1 w1 hv1=>by obtain ⟨a',c',rfl⟩:=(OwnR.slR hv1).isSlice;kernel_rfl) ?_)|(refine agA (j1:=1) (c:=fun u=>.agg #[.int .u8 1,u,.slice none 0 0,.slice none 0 0]) rfl rfl rfl (fun v1 w1 hv1=>by obtain ⟨a',c',rfl⟩:=(OwnI.slI hv1).isSlice;kernel_rfl) ?_)|(refine agA (j1:=2) (c:=fun u=>.agg #[.int .u8 2,.slice none 0 0,u,.slice none 0 0]) rfl rfl rfl (fun v1 w1 hv1=>by obtain ⟨a',c',rfl⟩:=(OwnI.slI hv1).isSlice;kernel_rfl) ?_)|(refine a4A (hK _ _ (ciA (φ:=cnP A p 3) (w0:=w) rfl rfl rfl b5A (fun v' w' e hv=>?_) rfl (fun _=>rfl) (Ext.refl _) (fun w' e'=>?_)));clear hK K)|refine wOp ?_|(refine wCm ?_ ?_<;>intro hc)|(refine oCv ?_;first|(refine oC 65 ?_;refine a2A (f:=65) rfl rfl rfl  (.val (.int .i64 n)) (by intro u1 w e hu1;(try obtain rfl:u1=_:=hu1);exact hl _ e) ?_)|(refine oC 127 ?_;refine a2A (f:=127) rfl rfl rfl  (.val (.int .i64 r)) (by intro u1 w e hu1;(try obtain rfl:u1=_:=hu1);exact hm _ e) ?_)|(refine oC 63 ?_;refine a2A (f:=63) rfl rfl rfl  (.val (.int .u8 kk)) (by intro u1 w e hu1;(try obtain rfl:u1=_:=hu1);exact hk _ e) ?_)|(refine oC 59 ?_;refine a2A (f:=59) rfl rfl rfl  (.pred (fyA _ 105 (auA p))) (by intro u1 w e hu1;(try obtain rfl:u1=_:=hu1);exact (hru _ e).mono (brA e.size rfl)) ?_)|(refine oC 96 ?_;refine a2A (f:=96) rfl rfl rfl  (.pred (bfA _ 31 .u16 (ahA p 65536))) (by intro u1 w e hu1;(try obtain rfl:u1=_:=hu1);exact (ha _ e).mono (aaA e.size)) ?_)|(refine oC 103 ?_;refine a2A (f:=103) rfl rfl rfl  (.pred (bfA _ 61 .u64 (wordsOf p))) (by intro u1 w e hu1;(try obtain rfl:u1=_:=hu1);exact (hw _ e).mono (aaA e.size)) ?_))|(refine wNl hK ?_;clear hK K))|refine wG ?_|(refine wCR ?_;intro K hK)|(refine oPX ?_;first|exact ctA rfl rfl rfl rfl rfl (by assumption))|fail)
      all_goals skip
      all_goals first
        | (obtain rfl:v'=_:=hv;exact hkk ▸ hs _ e)
        | (obtain ⟨u,rfl,hu⟩:=hv;exact Cn.rns hp rfl hu hA)
  · skip
    by_cases hkk:kk=1
    all_goals
      refine Fc.of (args:=[_]) Tryz.func93 rfl rfl Tryz.ntmps93 (Nat.le_of_ble_eq_true rfl) ?_
      repeat' (first|(refine oLA ?_;first|refine a0A rfl ?_|refine dvA ?_|refine bwA rfl (fun _=>rfl) ?_|(refine agA (j1:=3) (c:=fun u=>.agg #[.int .u8 3,.slice none 0 0,.slice none 0 0,u]) rfl rfl rfl (fun v1 w1 hv1=>by obtain ⟨a',c',rfl⟩:=(OwnR.slR hv1).isSlice;kernel_rfl) ?_)|(refine agA (j1:=1) (c:=fun u=>.agg #[.int .u8 1,u,.slice none 0 0,.slice none 0 0]) rfl rfl rfl (fun v1 w1 hv1=>by obtain ⟨a',c',rfl⟩:=(OwnI.slI hv1).isSlice;kernel_rfl) ?_)|(refine agA (j1:=2) (c:=fun u=>.agg #[.int .u8 2,.slice none 0 0,u,.slice none 0 0]) rfl rfl rfl (fun v1 w1 hv1=>by obtain ⟨a',c',rfl⟩:=(OwnI.slI hv1).isSlice;kernel_rfl) ?_)|(refine a4A (hK _ _ (ciA (φ:=cnP A p 1) (w0:=w) rfl rfl rfl b5A (fun v' w' e hv=>?_) rfl (fun _=>rfl) (Ext.refl _) (fun w' e'=>?_)));clear hK K)|refine wOp ?_|(refine wCm ?_ ?_<;>intro hc)|(refine oCv ?_;first|(refine oC 65 ?_;refine a2A (f:=65) rfl rfl rfl  (.val (.int .i64 n)) (by intro u1 w e hu1;(try obtain rfl:u1=_:=hu1);exact hl _ e) ?_)|(refine oC 127 ?_;refine a2A (f:=127) rfl rfl rfl  (.val (.int .i64 r)) (by intro u1 w e hu1;(try obtain rfl:u1=_:=hu1);exact hm _ e) ?_)|(refine oC 63 ?_;refine a2A (f:=63) rfl rfl rfl  (.val (.int .u8 kk)) (by intro u1 w e hu1;(try obtain rfl:u1=_:=hu1);exact hk _ e) ?_)|(refine oC 59 ?_;refine a2A (f:=59) rfl rfl rfl  (.pred (fyA _ 105 (auA p))) (by intro u1 w e hu1;(try obtain rfl:u1=_:=hu1);exact (hru _ e).mono (brA e.size rfl)) ?_)|(refine oC 96 ?_;refine a2A (f:=96) rfl rfl rfl  (.pred (bfA _ 31 .u16 (ahA p 65536))) (by intro u1 w e hu1;(try obtain rfl:u1=_:=hu1);exact (ha _ e).mono (aaA e.size)) ?_)|(refine oC 103 ?_;refine a2A (f:=103) rfl rfl rfl  (.pred (bfA _ 61 .u64 (wordsOf p))) (by intro u1 w e hu1;(try obtain rfl:u1=_:=hu1);exact (hw _ e).mono (aaA e.size)) ?_))|(refine wNl hK ?_;clear hK K))|refine wG ?_|(refine wCR ?_;intro K hK)|(refine oPX ?_;first|exact ctA rfl rfl rfl rfl rfl (by assumption))|fail)
      all_goals skip
      all_goals first
        | (obtain rfl:v'=_:=hv;exact hkk ▸ hs _ e)
        | (obtain ⟨u,rfl,hu⟩:=hv;exact Cn.arr hp rfl hu hA)
  · skip
    by_cases hkk:kk=3
    all_goals
      refine Fc.of (args:=[_]) Tryz.func93 rfl rfl Tryz.ntmps93 (Nat.le_of_ble_eq_true rfl) ?_
      repeat' (first|(refine oLA ?_;first|refine a0A rfl ?_|refine dvA ?_|refine bwA rfl (fun _=>rfl) ?_|(refine agA (j1:=3) (c:=fun u=>.agg #[.int .u8 3,.slice none 0 0,.slice none 0 0,u]) rfl rfl rfl (fun v1 w1 hv1=>by obtain ⟨a',c',rfl⟩:=(OwnR.slR hv1).isSlice;kernel_rfl) ?_)|(refine agA (j1:=1) (c:=fun u=>.agg #[.int .u8 1,u,.slice none 0 0,.slice none 0 0]) rfl rfl rfl (fun v1 w1 hv1=>by obtain ⟨a',c',rfl⟩:=(OwnI.slI hv1).isSlice;kernel_rfl) ?_)|(refine agA (j1:=2) (c:=fun u=>.agg #[.int .u8 2,.slice none 0 0,u,.slice none 0 0]) rfl rfl rfl (fun v1 w1 hv1=>by obtain ⟨a',c',rfl⟩:=(OwnI.slI hv1).isSlice;kernel_rfl) ?_)|(refine a4A (hK _ _ (ciA (φ:=cnP A p 3) (w0:=w) rfl rfl rfl b5A (fun v' w' e hv=>?_) rfl (fun _=>rfl) (Ext.refl _) (fun w' e'=>?_)));clear hK K)|refine wOp ?_|(refine wCm ?_ ?_<;>intro hc)|(refine oCv ?_;first|(refine oC 65 ?_;refine a2A (f:=65) rfl rfl rfl  (.val (.int .i64 n)) (by intro u1 w e hu1;(try obtain rfl:u1=_:=hu1);exact hl _ e) ?_)|(refine oC 127 ?_;refine a2A (f:=127) rfl rfl rfl  (.val (.int .i64 r)) (by intro u1 w e hu1;(try obtain rfl:u1=_:=hu1);exact hm _ e) ?_)|(refine oC 63 ?_;refine a2A (f:=63) rfl rfl rfl  (.val (.int .u8 kk)) (by intro u1 w e hu1;(try obtain rfl:u1=_:=hu1);exact hk _ e) ?_)|(refine oC 59 ?_;refine a2A (f:=59) rfl rfl rfl  (.pred (fyA _ 105 (auA p))) (by intro u1 w e hu1;(try obtain rfl:u1=_:=hu1);exact (hru _ e).mono (brA e.size rfl)) ?_)|(refine oC 96 ?_;refine a2A (f:=96) rfl rfl rfl  (.pred (bfA _ 31 .u16 (ahA p 65536))) (by intro u1 w e hu1;(try obtain rfl:u1=_:=hu1);exact (ha _ e).mono (aaA e.size)) ?_)|(refine oC 103 ?_;refine a2A (f:=103) rfl rfl rfl  (.pred (bfA _ 61 .u64 (wordsOf p))) (by intro u1 w e hu1;(try obtain rfl:u1=_:=hu1);exact (hw _ e).mono (aaA e.size)) ?_))|(refine wNl hK ?_;clear hK K))|refine wG ?_|(refine wCR ?_;intro K hK)|(refine oPX ?_;first|exact ctA rfl rfl rfl rfl rfl (by assumption))|fail)
      all_goals skip
      all_goals first
        | (obtain rfl:v'=_:=hv;exact hkk ▸ hs _ e)
        | (obtain ⟨u,rfl,hu⟩:=hv;exact Cn.rns hp rfl hu hA)
  · skip
    by_cases hkk:kk=2
    all_goals
      refine Fc.of (args:=[_]) Tryz.func93 rfl rfl Tryz.ntmps93 (Nat.le_of_ble_eq_true rfl) ?_
      repeat' (first|(refine oLA ?_;first|refine a0A rfl ?_|refine dvA ?_|refine bwA rfl (fun _=>rfl) ?_|(refine agA (j1:=3) (c:=fun u=>.agg #[.int .u8 3,.slice none 0 0,.slice none 0 0,u]) rfl rfl rfl (fun v1 w1 hv1=>by obtain ⟨a',c',rfl⟩:=(OwnR.slR hv1).isSlice;kernel_rfl) ?_)|(refine agA (j1:=1) (c:=fun u=>.agg #[.int .u8 1,u,.slice none 0 0,.slice none 0 0]) rfl rfl rfl (fun v1 w1 hv1=>by obtain ⟨a',c',rfl⟩:=(OwnI.slI hv1).isSlice;kernel_rfl) ?_)|(refine agA (j1:=2) (c:=fun u=>.agg #[.int .u8 2,.slice none 0 0,u,.slice none 0 0]) rfl rfl rfl (fun v1 w1 hv1=>by obtain ⟨a',c',rfl⟩:=(OwnI.slI hv1).isSlice;kernel_rfl) ?_)|(refine a4A (hK _ _ (ciA (φ:=cnP A p 2) (w0:=w) rfl rfl rfl b5A (fun v' w' e hv=>?_) rfl (fun _=>rfl) (Ext.refl _) (fun w' e'=>?_)));clear hK K)|refine wOp ?_|(refine wCm ?_ ?_<;>intro hc)|(refine oCv ?_;first|(refine oC 65 ?_;refine a2A (f:=65) rfl rfl rfl  (.val (.int .i64 n)) (by intro u1 w e hu1;(try obtain rfl:u1=_:=hu1);exact hl _ e) ?_)|(refine oC 127 ?_;refine a2A (f:=127) rfl rfl rfl  (.val (.int .i64 r)) (by intro u1 w e hu1;(try obtain rfl:u1=_:=hu1);exact hm _ e) ?_)|(refine oC 63 ?_;refine a2A (f:=63) rfl rfl rfl  (.val (.int .u8 kk)) (by intro u1 w e hu1;(try obtain rfl:u1=_:=hu1);exact hk _ e) ?_)|(refine oC 59 ?_;refine a2A (f:=59) rfl rfl rfl  (.pred (fyA _ 105 (auA p))) (by intro u1 w e hu1;(try obtain rfl:u1=_:=hu1);exact (hru _ e).mono (brA e.size rfl)) ?_)|(refine oC 96 ?_;refine a2A (f:=96) rfl rfl rfl  (.pred (bfA _ 31 .u16 (ahA p 65536))) (by intro u1 w e hu1;(try obtain rfl:u1=_:=hu1);exact (ha _ e).mono (aaA e.size)) ?_)|(refine oC 103 ?_;refine a2A (f:=103) rfl rfl rfl  (.pred (bfA _ 61 .u64 (wordsOf p))) (by intro u1 w e hu1;(try obtain rfl:u1=_:=hu1);exact (hw _ e).mono (aaA e.size)) ?_))|(refine wNl hK ?_;clear hK K))|refine wG ?_|(refine wCR ?_;intro K hK)|(refine oPX ?_;first|exact ctA rfl rfl rfl rfl rfl (by assumption))|fail)
      all_goals skip
      all_goals first
        | (obtain rfl:v'=_:=hv;exact hkk ▸ hs _ e)
        | (obtain ⟨u,rfl,hu⟩:=hv;exact Cn.wrd hp rfl hu hA)
end Go.Proofs.YtbokphkfojijoaaGreatDoor
end
section
set_option linter.unusedSimpArgs false
set_option linter.unusedVariables false
namespace Go.Proofs.YtbokphkfojijoaaGreatDoor
open Go.LA Go.ArrP Go.RowKit
variable {A:Nat → Prop}
abbrev tC:Nat:=96
theorem a1B {w:World} {a a' b:AD} (ha:∀ v w',a.ok v w' → a'.ok v w') (en:Ending) (w':World) (h:Ret w (.tup2 a b) en w'):Ret w (.tup2 a' b) en w':=by
  obtain ⟨v,h1,h2,x,y,h3,h4,h5⟩:=h
  exact ⟨v,h1,h2,x,y,h3,ha _ _ h4,h5⟩
structure VarC (A:Nat → Prop) (w:World) (b:Nat) (cs:Array Value) (p:Nat → Bool) (kk:Int):Prop where
  hb:w.heap[b]?=some (.cells cs tC (0,0))
  hn:cs.size=4
  hc:Cn A w (.agg cs) p kk
theorem VarC.ext {w w':World} {b:Nat} {cs:Array Value} {p:Nat → Bool} {kk:Int} (h:VarC A w b cs p kk) (e:Ext w w'):VarC A w' b cs p kk:=⟨e.block h.hb,h.hn,h.hc.ext e⟩
theorem VarC.set {w:World} {b:Nat} {cur cs:Array Value} {p:Nat → Bool} {kk:Int} (hb:w.heap[b]?=some (.cells cur tC (0,0))) (hn:cs.size=4) (hc:Cn A w (.agg cs) p kk):VarC A (w.setRow b cs) b cs p kk :=
  ⟨setRow_heap w b _ _ _ (0,0) hb,hn,hc.setRow hb ⟨by decide,by decide,by decide⟩ cs⟩
theorem wfA {w:World} {b:Nat} {o:Obj} (h:w.heap[b]?=some o):b < w.heap.size:=(Array.getElem?_eq_some_iff.1 h).1
theorem VarC.lt {w:World} {b:Nat} {cs:Array Value} {p:Nat → Bool} {kk:Int} (h:VarC A w b cs p kk):b < w.heap.size:=wfA h.hb
theorem ygA {w:World} {v:Value} {p:Nat → Bool} {kk:Int} (hp:p 65536=false) (h:Cn A w v (c7A (ahA p 65536)) kk):Cn A w v p kk:=h.congr hp fun i hi=>ckA p hi
end Go.Proofs.YtbokphkfojijoaaGreatDoor
end
section
set_option linter.unusedSimpArgs false
set_option linter.unusedVariables false
set_option maxRecDepth 3000
namespace Go.Proofs.YtbokphkfojijoaaGreatDoor
open Go.LA Go.ArrP Go.RowKit
variable {A:Nat → Prop}
theorem tqA {xs:List Int} (hl:Low xs):c7A xs 65536=false:=by
  unfold c7A
  refine decide_eq_false fun h=>?_
  have:=(hl _ h).2;omega
theorem qfA {w:World} {v:Value} {xs:List Int} (h:SlI .u16 w v xs) (hi:Inc xs) (hl:Low xs) (hA:Fsh A w):Fc Tryz.prog 121 #[v] w (Ret w (.tup2 (.pred (cnP A (c7A xs) 1)) (.val (.bool true)))):=by
  have hx:ahA (c7A xs) 65536=xs:=jhA hi hl
  have hn:xs.length ≤ 65536:=by rw [← hx];exact leA _
  have hp:=tqA hl
  refine Fc.of (args:=[_]) Tryz.func121 rfl rfl Tryz.ntmps121 (Nat.le_of_ble_eq_true rfl) ?_
  repeat' (first|(refine oLA ?_;first|refine a0A rfl ?_|refine bwA rfl (fun _=>rfl) ?_|(refine agA (j1:=1) (c:=fun u=>.agg #[.int .u8 1,u,.slice none 0 0,.slice none 0 0]) rfl rfl rfl (fun v1 w1 hv1=>by obtain ⟨a',c',rfl⟩:=(OwnI.slI hv1).isSlice;kernel_rfl) ?_)|(refine a4A (hK _ _ (ciA (φ:=cnP A (c7A xs) 1) (w0:=w) rfl rfl rfl b5A (fun v' w' e hv=>by obtain ⟨u,rfl,hu⟩:=hv;exact Cn.arr hp hx.symm hu hA) rfl (fun _=>rfl) (Ext.refl _) (fun w' e'=>?_)));clear hK K;refine aeA (by kernel_rfl) (fun K hK=>?_))|refine wOp ?_|(refine wCm ?_ ?_<;>intro hc)|(refine oCv ?_;first|(refine oC 172 ?_;refine a2A (f:=172) rfl rfl rfl  (.val (.bool true)) (by intro u1 w e hu1;(try obtain rfl:u1=_:=hu1);exact nmA (may_c _ _ xs (h.ext e)) (decide_eq_true hi)) ?_)|(refine oC 99 ?_;refine a2A (f:=99) rfl rfl rfl  (.pred (bfA _ 31 .u16 xs)) (by intro u1 w e hu1;(try obtain rfl:u1=_:=hu1);exact (fiA _ _ _ (h.ext e) hn).mono (aaA e.size)) ?_))|(refine wNl hK ?_;clear hK K))|refine wG ?_|(refine wCR ?_;intro K hK)|(refine oPX ?_;first|exact hqA rfl rfl rfl rfl rfl rfl (by assumption))|fail)
  all_goals skip
theorem xjA {w:World} {v:Value} {p:Nat → Bool} (h:SlI .u64 w v (wordsOf p)) (hp:p 65536=false) (hA:Fsh A w):Fc Tryz.prog 126 #[v] w (Ret w (.tup2 (.pred (cnP A p 2)) (.val (.bool true)))):=by
  have hn:=b6A p
  refine Fc.of (args:=[_]) Tryz.func126 rfl rfl Tryz.ntmps126 (Nat.le_of_ble_eq_true rfl) ?_
  repeat' (first|(refine oLA ?_;first|refine a0A rfl ?_|refine bwA rfl (fun _=>rfl) ?_|(refine dkA ?_;refine azA rfl _ rfl rfl (HasI.val h).c ?_;rw [hn])|(refine agA (j1:=2) (c:=fun u=>.agg #[.int .u8 2,.slice none 0 0,u,.slice none 0 0]) rfl rfl rfl (fun v1 w1 hv1=>by obtain ⟨a',c',rfl⟩:=(OwnI.slI hv1).isSlice;kernel_rfl) ?_)|(refine a4A (hK _ _ (ciA (φ:=cnP A p 2) (w0:=w) rfl rfl rfl b5A (fun v' w' e hv=>by obtain ⟨u,rfl,hu⟩:=hv;exact Cn.wrd hp rfl hu hA) rfl (fun _=>rfl) (Ext.refl _) (fun w' e'=>?_)));clear hK K;refine aeA (by kernel_rfl) (fun K hK=>?_))|refine wOp ?_|(refine wCm ?_ ?_<;>intro hc)|(refine oCv ?_;first|(refine oC 132 ?_;refine a2A (f:=132) rfl rfl rfl  (.pred (bfA _ 61 .u64 (wordsOf p))) (by intro u1 w e hu1;(try obtain rfl:u1=_:=hu1);exact (llA _ _ _ (h.ext e) (by omega)).mono (aaA e.size)) ?_))|(refine wNl hK ?_;clear hK K))|refine wG ?_|(refine wCR ?_;intro K hK)|(refine oPX ?_;first|exact hqA rfl rfl rfl rfl rfl rfl (by assumption))|fail)
  all_goals skip
theorem xkA {w:World} {v:Value} {p:Nat → Bool} (h:SlR w v (auA p)) (hp:p 65536=false) (hA:Fsh A w):Fc Tryz.prog 124 #[v] w (Ret w (.tup2 (.pred (cnP A p 3)) (.val (.bool true)))):=by
  have hm':=dnA p
  refine Fc.of (args:=[_]) Tryz.func124 rfl rfl Tryz.ntmps124 (Nat.le_of_ble_eq_true rfl) ?_
  repeat' (first|(refine oLA ?_;first|refine a0A rfl ?_|refine bwA rfl (fun _=>rfl) ?_|(refine agA (j1:=3) (c:=fun u=>.agg #[.int .u8 3,.slice none 0 0,.slice none 0 0,u]) rfl rfl rfl (fun v1 w1 hv1=>by obtain ⟨a',c',rfl⟩:=(OwnR.slR hv1).isSlice;kernel_rfl) ?_)|(refine a4A (hK _ _ (ciA (φ:=cnP A p 3) (w0:=w) rfl rfl rfl b5A (fun v' w' e hv=>by obtain ⟨u,rfl,hu⟩:=hv;exact Cn.rns hp rfl hu hA) rfl (fun _=>rfl) (Ext.refl _) (fun w' e'=>?_)));clear hK K;refine aeA (by kernel_rfl) (fun K hK=>?_))|refine wOp ?_|(refine wCm ?_ ?_<;>intro hc)|(refine oCv ?_;first|(refine oC 173 ?_;refine a2A (f:=173) rfl rfl rfl  (.val (.bool true)) (by intro u1 w e hu1;(try obtain rfl:u1=_:=hu1);exact nmA (x3A _ _ (auA p) (h.ext e) (e3A p)) (decide_eq_true (frA p))) ?_)|(refine oC 94 ?_;refine a2A (f:=94) rfl rfl rfl  (.pred (fyA _ 105 (auA p))) (by intro u1 w e hu1;(try obtain rfl:u1=_:=hu1);exact (oiA _ _ _ (h.ext e) hm').mono (brA e.size rfl)) ?_))|(refine wNl hK ?_;clear hK K))|refine wG ?_|(refine wCR ?_;intro K hK)|(refine oPX ?_;first|exact hqA rfl rfl rfl rfl rfl rfl (by assumption))|fail)
  all_goals skip
end Go.Proofs.YtbokphkfojijoaaGreatDoor
end
section
set_option linter.unusedSimpArgs false
set_option linter.unusedVariables false
set_option maxRecDepth 3000
namespace Go.Proofs.YtbokphkfojijoaaGreatDoor
open Go.LA Go.ArrP Go.RowKit
def Tells (w:World) (fv:Value) (q:Nat → Bool):Prop:=∀ w',Ext w w' → ∀ x:Nat,x < 65536 → Clb Tryz.prog fv [.int .u16 x] w' (Ret w' (.val (.bool (q x))))
theorem Tells.ext {w w':World} {fv:Value} {q:Nat → Bool} (h:Tells w fv q) (e:Ext w w'):Tells w' fv q:=fun w2 e2=>h w2 (e.trans e2)
set_option maxHeartbeats 2000000 in
theorem anB (w:World) (v fv:Value) (xs:List Int) (q:Nat → Bool) (h:SlI .u16 w v xs) (hl:Low xs) (hF:Tells w fv q) :
    Fc Tryz.prog 211 #[v,fv] w (Ret w (.val (.int .i64 (if h9A q xs < xs.length then (h9A q xs:Int) else -1)))):=by
  have hlen:=h.len
  have hle:=kfA q xs
  refine Fc.of (args:=[_,_]) Tryz.func211 rfl rfl Tryz.ntmps211 (Nat.le_of_ble_eq_true rfl) ?_
  repeat' (first|(refine oLA ?_;first|refine a0A rfl ?_|refine wOp ?_|(refine wCm ?_ ?_<;>intro hc)|(refine wNl hK ?_;clear hK K))|refine wG ?_|(refine wCR ?_;intro K hK)|fail)
  refine bjA (ι:=Nat) (fun j=>[(0,.val v),(1,.val fv),(7,.val (.int .i64 xs.length)),(8,.val (.int .i64 j))]) (fun j=>j ≤ h9A q xs) (fun j=>xs.length - j) 0 (by omega) (by repeat' (first | exact Sub.nil | refine Sub.val rfl (by first | with_reducible rfl | (congr 1;omega)) ?_ | refine Sub.same rfl ?_)) ?_
  intro j hj
  by_cases hjl:j < xs.length
  · have hx:0 ≤ xs.getD j 0 ∧ xs.getD j 0 < 65536:=by rw [b1A hjl];exact hl _ (List.getElem_mem hjl)
    obtain ⟨x,hxx⟩:=Int.eq_ofNat_of_zero_le hx.1
    have hx':x < 65536:=by omega
    have hb:=f5A q xs j
    have ha:=miA q xs
    rw [hxx,Int.toNat_natCast] at hb
    have hF0:∀ w',Ext w w' → Clb Tryz.prog fv [.int .u16 (xs.getD j 0)] w' (Ret w' (.val (.bool (q x)))):=fun w' e=>by rw [hxx];exact hF w' e x hx'
    cases hq:q x
    · rw [hq] at hF0
      have hne:j ≠ h9A q xs:=fun e=>by
        subst e
        rw [hxx,Int.toNat_natCast,hq] at ha
        cases ha hjl
      repeat' (first|(refine oLA ?_;first|refine a0A rfl ?_|refine wOp ?_|(refine wCm ?_ ?_<;>intro hc)|(refine oCv ?_;first|(refine fpA rfl rfl rfl (.val (.bool false)) (by intro vf u1 w' e hf hu1;obtain rfl:vf=_:=hf;obtain rfl:u1=_:=hu1;exact hF0 w' e) ?_))|(refine wNl hK ?_;clear hK K))|refine wG ?_|(refine wCR ?_;intro K hK)|fail)
      refine chA (j + 1) ?_ ?_ (by repeat' (first | exact Sub.nil | refine Sub.val rfl (by first | with_reducible rfl | (congr 1;omega)) ?_ | refine Sub.same rfl ?_))
      · omega
      · omega
    · rw [hq] at hF0
      have hjq:j=h9A q xs:=by
        rcases Nat.lt_or_ge j (h9A q xs) with h | h
        · rw [hq] at hb;cases hb h
        · omega
      rw [if_pos (by omega),← hjq]
      repeat' (first|(refine oLA ?_;first|refine a0A rfl ?_|refine wOp ?_|(refine wCm ?_ ?_<;>intro hc)|(refine oCv ?_;first|(refine fpA rfl rfl rfl (.val (.bool true)) (by intro vf u1 w' e hf hu1;obtain rfl:vf=_:=hf;obtain rfl:u1=_:=hu1;exact hF0 w' e) ?_))|(refine wNl hK ?_;clear hK K))|refine wG ?_|(refine wCR ?_;intro K hK)|(refine oPX ?_;first|exact abA rfl rfl (Ext.refl _) rfl)|fail)
      all_goals skip
  · rw [if_neg (by omega)]
    repeat' (first|(refine oLA ?_;first|refine a0A rfl ?_|refine wOp ?_|(refine wCm ?_ ?_<;>intro hc)|(refine wNl hK ?_;clear hK K))|refine wG ?_|(refine wCR ?_;intro K hK)|(refine oPX ?_;first|exact abA rfl rfl (Ext.refl _) rfl)|fail)
    all_goals skip
set_option maxHeartbeats 4000000 in
theorem b1B (w0 w:World) (he0:Ext w0 w) (v fv:Value) (xs:List Int) (q:Nat → Bool) (ho0:OwnI w0.heap.size 31 .u16 w v xs) (hl:Low xs) (hn:xs.length ≤ 65536) (hF:Tells w0 fv q) :
    Fc Tryz.prog 186 #[v,fv] w (fun en w'=>∃ v',en=.returned v' ∧ OwnI w0.heap.size 31 .u16 w' v' (fvA q xs) ∧ Ext w0 w'):=by
  have hle:=kfA q xs
  have hix:∀ w',Ext w w' → _:=fun w' e=>anB w' v fv xs q (ho0.ext e).slI hl (hF.ext (he0.trans e))
  by_cases hall:h9A q xs < xs.length
  · rw [if_pos hall] at hix
    have hst:=Mid.start q hall
    obtain ⟨i0,hi0⟩:∃ i0,i0=h9A q xs:=⟨_,rfl⟩
    rw [← hi0] at hix hall hle hst
    refine Fc.of (args:=[_,_]) Tryz.func186 rfl rfl Tryz.ntmps186 (Nat.le_of_ble_eq_true rfl) ?_
    repeat' (first|(refine oLA ?_;first|refine a0A rfl ?_|refine wOp ?_|(refine wCm ?_ ?_<;>intro hc)|(refine oCv ?_;first|(refine oC 211 ?_;refine a3A (f:=211) rfl rfl rfl rfl  (.val (.int .i64 i0)) (by intro u1 u2 w e hu1 hu2;(try obtain rfl:u1=_:=hu1);(try obtain rfl:u2=_:=hu2);exact hix _ e) ?_))|(refine wNl hK ?_;clear hK K))|refine wG ?_|(refine wCR ?_;intro K hK)|fail)
    refine adA (ι:=(Nat × Nat) × List Int) (fun s=>[(0,.val v),(1,.val fv),(5,.val (.int .i64 s.1.1)),(6,.val (.int .i64 s.1.2))]) (fun s w'=>Ext w0 w' ∧ Mid q xs s.2 s.1.1 s.1.2 ∧ OwnI w0.heap.size 31 .u16 w' v s.2) (fun s=>xs.length - s.1.2)
      (fun w2 e2=>⟨((i0,i0 + 1),xs),⟨he0.trans e2,hst,ho0.ext e2⟩,(by repeat' (first | exact Sub.nil | refine Sub.val rfl (by first | with_reducible rfl | (congr 1;omega)) ?_ | refine Sub.same rfl ?_))⟩) ?_
    rintro ⟨⟨i,j⟩,ys⟩ w1 ⟨he,hM,ho⟩
    dsimp only at hM ho ⊢
    have m1:=hM.len
    have m2:=hM.lt
    have m3:=hM.le
    clear hix ho0 hst
    by_cases hjl:j < xs.length
    · have hcur:=hM.cur hjl
      have hx:0 ≤ xs.getD j 0 ∧ xs.getD j 0 < 65536:=by rw [b1A hjl];exact hl _ (List.getElem_mem hjl)
      obtain ⟨x,hxx⟩:=Int.eq_ofNat_of_zero_le hx.1
      have hx':x < 65536:=by omega
      have hF0:∀ w',Ext w1 w' → Clb Tryz.prog fv [.int .u16 (ys.getD j 0)] w' (Ret w' (.val (.bool (q x)))):=fun w' e=>by rw [hcur,hxx];exact hF w' (he.trans e) x hx'
      have hqq:q (xs.getD j 0).toNat=q x:=by rw [hxx];rfl
      obtain ⟨gb,cap,cur,rfl,hgb,hgc,hgn,hgm,hgs,hgt⟩:=ho.row (by omega)
      cases hq:q x
      · rw [hq] at hF0 hqq
        have hM':=hM.put hjl hqq
        rw [← hcur] at hM'
        repeat' (first|(refine oLA ?_;first|refine a0A rfl ?_|(refine oD 33 ?_;refine c6A (s:=1) rfl rfl (fun _=>rfl) rfl rfl (by omega) (by omega) ?_;rw [Int.toNat_natCast])|(refine a4A (hK _ _ (bgA (o:=0 + i * 1) rfl rfl rfl hgc (fun _=>rfl) (by omega) rfl rfl (fun w4 e4=>?_)));clear hK K;dsimp only [vals])|refine wOp ?_|(refine wCm ?_ ?_<;>intro hc)|(refine oCv ?_;first|(refine fpA rfl rfl rfl (.val (.bool false)) (by intro vf u1 w' e hf hu1;obtain rfl:vf=_:=hf;obtain rfl:u1=_:=hu1;exact hF0 w' e) ?_))|(refine wNl hK ?_;clear hK K))|refine wG ?_|(refine wCR ?_;intro K hK)|fail)
        all_goals skip
        refine a6A ((i + 1,j + 1),ys.set i (ys.getD j 0)) (fun w5 e5=>⟨((he.trans e4).setRow hgb _).trans e5,hM',?_⟩) (by dsimp only;omega) (by repeat' (first | exact Sub.nil | refine Sub.val rfl (by first | with_reducible rfl | (congr 1;omega)) ?_ | refine Sub.same rfl ?_))
        have hh:=OwnI.set hgb (e4.block hgc) hgn hgm hgs hgt (0 + i * 1) (by omega) (ys.getD j 0)
        rw [show 0 + i * 1=i by omega] at hh e5
        exact OwnI.ext hh e5
      · rw [hq] at hF0 hqq
        have hM':=hM.skip hjl hqq
        repeat' (first|(refine oLA ?_;first|refine a0A rfl ?_|refine wOp ?_|(refine wCm ?_ ?_<;>intro hc)|(refine oCv ?_;first|(refine fpA rfl rfl rfl (.val (.bool true)) (by intro vf u1 w' e hf hu1;obtain rfl:vf=_:=hf;obtain rfl:u1=_:=hu1;exact hF0 w' e) ?_))|(refine wNl hK ?_;clear hK K))|refine wG ?_|(refine wCR ?_;intro K hK)|fail)
        all_goals skip
        exact a6A ((i,j + 1),ys) (fun w5 e5=>⟨he.trans e5,hM',ho.ext e5⟩) (by dsimp only;omega) (by repeat' (first | exact Sub.nil | refine Sub.val rfl (by first | with_reducible rfl | (congr 1;omega)) ?_ | refine Sub.same rfl ?_))
    · obtain rfl:j=xs.length:=by omega
      have hfin:=hM.fin
      have hkl:(fvA q xs).length=i:=by rw [← hfin,List.length_take];omega
      obtain ⟨gb,cap,cur,rfl,hgb,hgc,hgn,hgm,hgs,hgt⟩:=ho.row (by omega)
      have hsl:eoA (.slice (some ⟨gb,0,none⟩) ys.length cap) i ys.length 1=.slice (some ⟨gb,0 + i * 1,none⟩) (ys.length - i) (cap - i):=by rw [g1A (by omega)];simp
      have hsh:eoA (.slice (some ⟨gb,0,none⟩) ys.length cap) 0 i 1=.slice (some ⟨gb,0,none⟩) i cap:=by rw [g1A (by omega)];simp
      repeat' (first|(refine oLA ?_;first|refine a0A rfl ?_|(refine oD 38 ?_;refine gmA (n:=ys.length) (s:=1) (i:=(i:Int)) rfl _ rfl rfl (HasI.ownV ho).c rfl (by omega) (by omega) (fun _=>rfl) ?_;rw [Int.toNat_natCast,hsl])|(refine a4A (hK _ _ (oqA (b:=gb) (o:=0 + i * 1) (m:=ys.length - i) (c:=cap - i) rfl rfl (fun _=>rfl) rfl rfl rfl hgc (by omega) (fun w4 cur4 e4 hs4 ht4=>?_)));clear hK K;dsimp only [vals])|refine wOp ?_|(refine wCm ?_ ?_<;>intro hc)|(refine wNl hK ?_;clear hK K))|refine wG ?_|(refine wCR ?_;intro K hK)|fail)
      all_goals skip
      have hb4:=setRow_heap w4 gb cur cur4 31 (0,0) (e4.block hgc)
      have hown:OwnI w0.heap.size 31 .u16 (w4.setRow gb cur4) (.slice (some ⟨gb,0,none⟩) i cap) (fvA q xs):=by
        refine ⟨by simp,.inr ⟨gb,cap,cur4,by rw [hkl],hgb,hb4,by rw [hkl];omega,hgm,by omega,?_⟩⟩
        rw [hkl,Nat.mul_one,← hfin,List.map_take,← hgt]
        rw [show (0 + i * 1)=i by omega] at ht4
        rw [ht4,List.take_take,Nat.min_eq_left (by omega)]
      have hcs:SlC (w4.setRow gb cur4) (.slice (some ⟨gb,0,none⟩) ys.length cap) ys.length 1 (cur4.toList.take ys.length) :=
        ⟨by simp;omega,_,cap,rfl,hgn,hgm,(fun h=>by cases h),.inr ⟨gb,0,rfl,fun j c hj=>by
          rw [cell_of_row _ gb _ cur4 _ (0,0) hb4,← Array.getElem?_toList]
          rw [List.getElem?_take] at hj
          split at hj
          · simpa using hj
          · cases hj⟩⟩
      repeat' (first|(refine oLA ?_;first|refine a0A rfl ?_|(refine oD 41 ?_;refine fkA (n:=ys.length) (s:=1) (i:=(i:Int)) rfl _ rfl rfl (HasC.val hcs) rfl (by omega) (by omega) (fun _=>rfl) ?_;rw [Int.toNat_natCast,hsh])|refine wOp ?_|(refine wCm ?_ ?_<;>intro hc)|(refine wNl hK ?_;clear hK K))|refine wG ?_|(refine wCR ?_;intro K hK)|fail)
      all_goals skip
      all_goals exact bxA rfl (fun v' w' e hv=>by obtain rfl:v'=_:=hv;exact ⟨_,rfl,hown.ext e,((he.trans e4).setRow hgb _).trans e⟩)
  · rw [if_neg hall] at hix
    have hk:fvA q xs=xs:=r4A q (by omega)
    rw [hk]
    refine Fc.of (args:=[_,_]) Tryz.func186 rfl rfl Tryz.ntmps186 (Nat.le_of_ble_eq_true rfl) ?_
    repeat' (first|(refine oLA ?_;first|refine a0A rfl ?_|refine wOp ?_|(refine wCm ?_ ?_<;>intro hc)|(refine oCv ?_;first|(refine oC 211 ?_;refine a3A (f:=211) rfl rfl rfl rfl  (.val (.int .i64 (-1))) (by intro u1 u2 w e hu1 hu2;(try obtain rfl:u1=_:=hu1);(try obtain rfl:u2=_:=hu2);exact hix _ e) ?_))|(refine wNl hK ?_;clear hK K))|refine wG ?_|(refine wCR ?_;intro K hK)|fail)
    all_goals skip
    all_goals exact bxA rfl (fun v' w' e hv=>by obtain rfl:v'=_:=hv;exact ⟨_,rfl,ho0.ext e,he0.trans e⟩)
end Go.Proofs.YtbokphkfojijoaaGreatDoor
end
section
set_option linter.unusedSimpArgs false
set_option linter.unusedVariables false
set_option maxRecDepth 3000
namespace Go.Proofs.YtbokphkfojijoaaGreatDoor
open Go.LA Go.ArrP Go.RowKit
variable {A:Nat → Prop}
theorem wwA {w:World} {a:Addr} {fv:Value} {q:Nat → Bool} {x:Nat} (hc:w.cell? a=some fv) (hF:Tells w fv q) (hx:x < 65536):Fc Tryz.prog 187 #[.int .u16 x,.pointer (some a)] w (Ret w (.val (.bool (!q x)))):=by
  have h0:∀ w',Ext w w' → _:=fun w' e=>hF w' e x hx
  refine Fc.of (args:=[_,_]) Tryz.func187 rfl rfl Tryz.ntmps187 (Nat.le_of_ble_eq_true rfl) ?_
  repeat' (first|(refine oLA ?_;first|refine a0A rfl ?_|(refine oLd ?_;refine ksA rfl (fun _=>rfl) rfl hc ?_)|refine wOp ?_|(refine wCm ?_ ?_<;>intro hc)|(refine oCv ?_;first|(refine fpA rfl rfl rfl (.val (.bool (q x))) (by intro vf u1 w' e hf hu1;obtain rfl:vf=_:=hf;obtain rfl:u1=_:=hu1;exact h0 w' e) ?_))|(refine wNl hK ?_;clear hK K))|refine wG ?_|(refine wCR ?_;intro K hK)|(refine oPX ?_;first|exact abA rfl rfl (Ext.refl _) rfl)|fail)
  all_goals skip
set_option maxHeartbeats 2000000 in
theorem ztA {w:World} {va fv:Value} {p q:Nat → Bool} (ha:SlI .u16 w va (ahA p 65536)) (hp:p 65536=false) (hF:Tells w fv q) (hT:Tab w) (hA:Fsh A w) :
    Fc Tryz.prog 143 #[va,fv] w (Ret w (.pred (cnP A (fun i=>p i && q i) (apA (fun i=>p i && q i))))):=by
  have hq:(fun i=>p i && q i) 65536=false:=by simp [hp]
  have hks:fvA (fun i=>!q i) (ahA p 65536)=ahA (fun i=>p i && q i) 65536:=liA p q 65536
  have hl:=d1A p
  have hn:=leA p
  obtain ⟨r,hr⟩:∃ r:Nat → Bool,r=fun i=>p i && q i:=⟨_,rfl⟩
  rw [← hr] at hq hks ⊢
  obtain ⟨f,first,cap,rfl,-⟩:=hF w (Ext.refl _) 0 (by decide)
  refine Fc.of (args:=[_,_]) Tryz.func143 rfl rfl Tryz.ntmps143 (Nat.le_of_ble_eq_true rfl) ?_
  repeat' (first|(refine oLA ?_;first|refine a0A rfl ?_|(refine oBx ?_;refine n6A rfl rfl ?_)|refine bwA rfl (fun _=>rfl) ?_|(refine oD 6 ?_;refine a4A (hK _ _ (b8A 3 rfl (fun v3 w3 e3 h3=>b8A 4 rfl (fun v4 w4 e4 h4=>?_))));clear hK K)|refine wOp ?_|(refine wCm ?_ ?_<;>intro hc)|(refine wNl hK ?_;clear hK K))|refine wG ?_|(refine wCR ?_;intro K hK)|fail)
  obtain ⟨a3,rfl,hc3⟩:=h3
  have hc3:=hc3 0 _ rfl
  rw [Addr.add_zero'] at hc3
  obtain ⟨b4,hb4,rfl,hg4⟩:=h4
  have e34:=e3.trans e4
  have hF4:=hF.ext e34
  have hc4:=e4.cell hc3
  have hc1:∀ w',Ext w4 w' → Tells w' (.func (.func 187) #[] #[.pointer (some a3)]) (fun i=>!q i):=fun w' e w2 e2 x hx=>Clb.of1 (wwA ((e.trans e2).cell hc4) (hF4.ext (e.trans e2)) hx)
  refine aeA (by kernel_rfl) (fun K hK=>?_)
  repeat' (first|(refine oLA ?_;first|refine a0A rfl ?_|(refine a4A (hK _ _ (b8A 6 rfl (fun v6 w6 e6 h6=>?_)));clear hK K)|refine wOp ?_|(refine wCm ?_ ?_<;>intro hc)|(refine oCv ?_;first|(refine oC 99 ?_;refine a2A (f:=99) rfl rfl rfl  (.pred (bfA _ 31 .u16 (ahA p 65536))) (by intro u1 w e hu1;(try obtain rfl:u1=_:=hu1);exact (fiA _ _ _ (ha.ext (e34.trans e)) hn).mono (aaA e.size)) ?_))|(refine wNl hK ?_;clear hK K))|refine wG ?_|(refine wCR ?_;intro K hK)|fail)
  have h6:OwnI w4.heap.size 31 .u16 w6 v6 (ahA p 65536):=h6
  refine aeA (by kernel_rfl) (fun K hK=>?_)
  repeat' (first|(refine oLA ?_;first|refine a0A rfl ?_|(refine oD 7 ?_;refine ktA rfl rfl ?_)|(refine oD 8 ?_;refine a4A (hK _ _ (b8A 7 rfl (fun v7 w7 e7 h7=>?_)));clear hK K)|refine wOp ?_|(refine wCm ?_ ?_<;>intro hc)|(refine wNl hK ?_;clear hK K))|refine wG ?_|(refine wCR ?_;intro K hK)|fail)
  obtain ⟨c7,rfl,h7⟩:=h7
  obtain rfl:c7=_:=h7
  refine e7A (f:=186) rfl (by decide) rfl rfl rfl (fun v' w'=>OwnI w4.heap.size 31 .u16 w' v' (ahA r 65536) ∧ Ext w4 w') (fun w' e=>by
    have:=b1B w4 w' (e6.trans (e7.trans e)) v6 _ (ahA p 65536) (fun i=>!q i) (h6.ext (e7.trans e)) hl hn (hc1 w4 (Ext.refl _))
    rw [hks] at this
    exact this) (fun v8 w8 h8=>?_)
  obtain ⟨o8,x8⟩:=h8
  have hg8:=x8.block hg4
  have x08:=e34.trans x8
  have hT8:=hT.ext x08
  dsimp only [vals]
  refine aeA (by kernel_rfl) (fun K hK=>?_)
  repeat' (first|(refine oLA ?_;first|refine a0A rfl ?_|(refine iwA (c:=.agg #[.int .u8 1,v8,.slice none 0 0,.slice none 0 0]) rfl rfl rfl (fun w1=>by obtain ⟨a',c',rfl⟩:=(OwnI.slI o8).isSlice;kernel_rfl) ?_)|(refine a4A (hK _ _ (yyA (φ:=cnP A r (apA r)) (w0:=w) rfl rfl hb4 hg8 rfl b5A (fun v' w' e hv=>hv) rfl (fun _=>rfl) x08 (fun w' e'=>?_)));clear hK K)|refine wOp ?_|(refine wCm ?_ ?_<;>intro hc)|(refine oCv ?_;first|(refine oC 93 ?_;refine a2A (f:=93) rfl rfl rfl  (.pred (cnP A r (apA r))) (by intro u1 w e hu1;(try obtain rfl:u1=_:=hu1);exact d3A (Cn.arr hq rfl (o8.ext e) (hA.ext e34)) (hT8.ext e) ((hA.ext x08).ext e)) ?_))|(refine wNl hK ?_;clear hK K))|refine wG ?_|(refine wCR ?_;intro K hK)|(refine oPX ?_;first|exact ctA rfl rfl rfl rfl rfl (by assumption))|fail)
  all_goals skip
end Go.Proofs.YtbokphkfojijoaaGreatDoor
end
