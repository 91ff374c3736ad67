import Derived.Laws.StructEq
import Derived.Test.YtbokphkfojijoaaGreatDoorM6
import Derived.Test.YtbokphkfojijoaaGreatDoorM10
section
set_option linter.unusedSimpArgs false
set_option linter.unusedVariables false
set_option maxRecDepth 3000
namespace Go.Proofs.YtbokphkfojijoaaGreatDoor
open Go.LA Go.ArrP Go.RowKit
theorem zxA (x y:Bool) (w:World):Fc Tryz.prog 159 #[.bool x,.bool y] w (Ret w (.val (.bool (x || y)))):=by
  cases x <;> cases y
  all_goals
    refine Fc.of (args:=[_,_]) Tryz.func159 rfl rfl Tryz.ntmps159 (Nat.le_of_ble_eq_true rfl) ?_
    repeat' (first|(refine oLA ?_;first|refine a0A rfl ?_|refine wOp ?_|(refine wCm ?_ ?_<;>intro hc)|(refine wNl hK ?_;clear hK K))|refine wG ?_|(refine wCR ?_;intro K hK)|fail)
    exact abA rfl rfl (Ext.refl _) rfl
theorem x2A (x y:Bool) (w:World):Fc Tryz.prog 190 #[.bool x,.bool y] w (Ret w (.val (.bool (x && !y)))):=by
  cases x <;> cases y
  all_goals
    refine Fc.of (args:=[_,_]) Tryz.func190 rfl rfl Tryz.ntmps190 (Nat.le_of_ble_eq_true rfl) ?_
    repeat' (first|(refine oLA ?_;first|refine a0A rfl ?_|refine wOp ?_|(refine wCm ?_ ?_<;>intro hc)|(refine wNl hK ?_;clear hK K))|refine wG ?_|(refine wCR ?_;intro K hK)|fail)
    exact abA rfl rfl (Ext.refl _) rfl
theorem q9A {w:World} {base base' e s n:Nat} {cs:List Value} (hb:base' ≤ base) (en:Ending) (w':World) (h:Ret w (.pred (j5A base e s n cs)) en w'):Ret w (.pred (j5A base' e s n cs)) en w':=by
  obtain ⟨v,h1,h2,h3⟩:=h
  exact ⟨v,h1,h2,Own.base h3 hb⟩
theorem dnA (p:Nat → Bool):(auA p).length ≤ 65536:=by
  unfold auA;rw [f2A];exact cnt_le _ _
theorem row_of (w:World) (v:Value) (p:Nat → Bool) (hp:p 65536=false) (h:SlR w v (auA p)):Fc Tryz.prog 158 #[v] w (Ret w (.pred (bfA w.heap.size 3 .i64 (ahA (chg p) 65537)))):=by
  have:=row_c w v (auA p) h (e3A p) (by have:=dnA p;omega)
  rwa [taA hp] at this
section
variable (w:World) (va vb:Value) (p q:Nat → Bool) (hp:p 65536=false) (hq:q 65536=false) (ha:SlR w va (auA p)) (hb:SlR w vb (auA q))
include hp hq ha hb
theorem ror_c:Fc Tryz.prog 115 #[va,vb] w (Ret w (.pred (fyA w.heap.size 105 (auA (two (fun x y=>x || y) p q))))):=by
  refine Fc.of (args:=[_,_]) Tryz.func115 rfl rfl Tryz.ntmps115 (Nat.le_of_ble_eq_true rfl) ?_
  repeat' (first|(refine oLA ?_;first|refine a0A rfl ?_|(refine oD 6 ?_;refine oC 158 ?_;refine a2A (f:=158) rfl rfl rfl  (.pred (bfA w.heap.size 3 .i64 (ahA (chg p) 65537))) (by intro u1 w e hu1;(try obtain rfl:u1=_:=hu1);exact (row_of _ _ p hp (ha.ext e)).mono (aaA e.size)) ?_)|(refine oD 8 ?_;refine oC 158 ?_;refine a2A (f:=158) rfl rfl rfl  (.pred (bfA w.heap.size 3 .i64 (ahA (chg q) 65537))) (by intro u1 w e hu1;(try obtain rfl:u1=_:=hu1);exact (row_of _ _ q hq (hb.ext e)).mono (aaA e.size)) ?_)|(refine oC 157 ?_;refine beA (f:=157) rfl rfl rfl rfl rfl  (.pred (fyA w.heap.size 105 (auA (two (fun x y=>x || y) p q)))) (by intro u1 u2 u3 w e hu1 hu2 hu3;(try obtain rfl:u1=_:=hu1);(try obtain rfl:u2=_:=hu2);(try obtain rfl:u3=_:=hu3);exact (reA (fun x y=>x || y) _ zxA rfl _ _ _ p q hp hq (OwnI.slI hu1) (OwnI.slI hu2)).mono (brA e.size rfl)) ?_)|refine wOp ?_|(refine wCm ?_ ?_<;>intro hc)|(refine wNl hK ?_;clear hK K))|refine wG ?_|(refine wCR ?_;intro K hK)|fail)
  exact akA rfl rfl (Ext.refl _) (fun _ _ _ h=>h)
theorem a0B:Fc Tryz.prog 147 #[va,vb] w (Ret w (.pred (fyA w.heap.size 105 (auA (two (fun x y=>x && !y) p q))))):=by
  refine Fc.of (args:=[_,_]) Tryz.func147 rfl rfl Tryz.ntmps147 (Nat.le_of_ble_eq_true rfl) ?_
  repeat' (first|(refine oLA ?_;first|refine a0A rfl ?_|(refine oD 6 ?_;refine oC 158 ?_;refine a2A (f:=158) rfl rfl rfl  (.pred (bfA w.heap.size 3 .i64 (ahA (chg p) 65537))) (by intro u1 w e hu1;(try obtain rfl:u1=_:=hu1);exact (row_of _ _ p hp (ha.ext e)).mono (aaA e.size)) ?_)|(refine oD 8 ?_;refine oC 158 ?_;refine a2A (f:=158) rfl rfl rfl  (.pred (bfA w.heap.size 3 .i64 (ahA (chg q) 65537))) (by intro u1 w e hu1;(try obtain rfl:u1=_:=hu1);exact (row_of _ _ q hq (hb.ext e)).mono (aaA e.size)) ?_)|(refine oC 157 ?_;refine beA (f:=157) rfl rfl rfl rfl rfl  (.pred (fyA w.heap.size 105 (auA (two (fun x y=>x && !y) p q)))) (by intro u1 u2 u3 w e hu1 hu2 hu3;(try obtain rfl:u1=_:=hu1);(try obtain rfl:u2=_:=hu2);(try obtain rfl:u3=_:=hu3);exact (reA (fun x y=>x && !y) _ x2A rfl _ _ _ p q hp hq (OwnI.slI hu1) (OwnI.slI hu2)).mono (brA e.size rfl)) ?_)|refine wOp ?_|(refine wCm ?_ ?_<;>intro hc)|(refine wNl hK ?_;clear hK K))|refine wG ?_|(refine wCR ?_;intro K hK)|fail)
  exact akA rfl rfl (Ext.refl _) (fun _ _ _ h=>h)
end
theorem lbA (P:Nat → Bool) {a:Nat}:∀ b,a ≤ b → (∀ i,a ≤ i → i < b → P i=false) → ahA P b=ahA P a
  | 0,h,_=>by obtain rfl:a=0:=by omega
              rfl
  | b + 1,h,hf=>by
    rcases Nat.lt_or_ge b a with h1 | h1
    · obtain rfl:a=b + 1:=by omega
      rfl
    · rw [ahA,lbA P b h1 (fun i g1 g2=>hf i g1 (by omega)),hf b h1 (by omega)];simp
theorem axB:El Tryz.prog 94 105 (q4A 0 0) 2 4:=⟨rfl,rfl,rfl,by decide⟩
theorem rqA (w:World) (v:Value) (n:Nat) (cs:List Value) (h:SlC w v n 2 cs) (h1:∀ u ∈ cs,u.oneCell'=true) (hb:n * 4 ≤ 140737488355328):Fc Tryz.prog 94 #[v] w (Ret w (.pred (j5A w.heap.size 105 2 n cs))):=by
  obtain ⟨h0,a,cap,rfl,hc,hm,hn,hcs⟩:=id h
  have hlen:=h.len
  cases a with
  | none =>
    obtain rfl:=hn rfl
    obtain rfl:n=0:=by omega
    obtain rfl:cs=[]:=List.eq_nil_of_length_eq_zero (by omega)
    refine Fc.of (args:=[_]) Tryz.func94 rfl rfl Tryz.ntmps94 (Nat.le_of_ble_eq_true rfl) ?_
    repeat' (first|(refine oLA ?_;first|refine a0A rfl ?_|refine bpA (c:=.bool true) rfl rfl rfl (fun _=>rfl) ?_|refine wOp ?_|(refine wCm ?_ ?_<;>intro hc)|(refine wNl hK ?_;clear hK K))|refine wG ?_|(refine wCR ?_;intro K hK)|(refine oPX ?_;first|exact akA rfl rfl (Ext.refl _) (fun u w2 e2 hu=>by obtain rfl:u=_:=hu;exact Own.nil))|fail)
  | some a =>
    refine Fc.of (args:=[_]) Tryz.func94 rfl rfl Tryz.ntmps94 (Nat.le_of_ble_eq_true rfl) ?_
    repeat' (first|(refine oLA ?_;first|refine a0A rfl ?_|refine bpA (c:=.bool false) rfl rfl rfl (fun _=>rfl) ?_|refine ivA 105 (s:=2) rfl (fun _=>by kernel_rfl) ?_|(refine a4A (hK _ _ (b8A 5 rfl (fun v5 w5 e5 h5=>?_)));clear hK K;have h6:=h.ext e5;have ho:Own w.heap.size _ _ w5 v5 0 []:=h5;refine aeA (by kernel_rfl) (fun K hK=>?_))|(refine a4A (hK _ _ (cxA rfl (by decide) axB rfl ho rfl (HasC.val h6) h1 (by rw [Nat.zero_add];unfold maxLen;omega) (by rw [Nat.zero_add];exact hb) e5.size (fun v' w2 w3 he2 ho3 hg3=>?_)));clear hK K;dsimp only [vals];refine aeA (by kernel_rfl) (fun K hK=>?_))|refine wOp ?_|(refine wCm ?_ ?_<;>intro hc)|(refine wNl hK ?_;clear hK K))|refine wG ?_|(refine wCR ?_;intro K hK)|fail)
    exact akA rfl rfl ((e5.trans he2).grown hg3 (fun q hq=>(Own.lt ho q hq).1)) (fun u w4 e4 hu=>by
      obtain rfl:u=_:=hu
      have h9:Own w.heap.size 105 2 w3 u n cs:=by simpa using ho3
      exact h9.ext e4)
theorem gqA {a:List Rn} {f m:Int}:cwA (a ++ [(f,m)])=cwA a ++ [.int .u16 f,.int .u16 m]:=by rw [gwA];rfl
theorem last_at {cur:Array Value} {a:List Rn} {f m:Int} (h:cur.toList.take ((a ++ [(f,m)]).length * 2)=cwA (a ++ [(f,m)])):cur[a.length * 2 + 1]?=some (.int .u16 m):=by
  rw [gqA,List.length_append] at h
  have h1:=congrArg (fun l=>l[a.length * 2 + 1]?) h
  simp only [List.getElem?_take] at h1
  rw [if_pos (by simp;omega),List.getElem?_append_right (by rw [dwA];omega),dwA,show a.length * 2 + 1 - a.length * 2=1 by omega] at h1
  rw [← Array.getElem?_toList,h1];rfl
theorem OwnR.bump {base e b cap:Nat} {w:World} {cur:Array Value} {a:List Rn} {f m:Int} (hb:base ≤ b) (hg:w.heap[b]?=some (.cells cur e (0,0))) (hnc:(a ++ [(f,m)]).length ≤ cap) (hm:cap ≤ maxLen) (hsz:cur.size=cap * 2) (ht:cur.toList.take ((a ++ [(f,m)]).length * 2)=cwA (a ++ [(f,m)])) (c:Int) :
    OwnR base e (w.setRow b (cur.setIfInBounds (a.length * 2 + 1) (.int .u16 c))) (.slice (some ⟨b,0,none⟩) (a ++ [(f,m)]).length cap) (a ++ [(f,c)]):=by
  have hl:(a ++ [(f,c)]).length=(a ++ [(f,m)]).length:=by simp
  unfold OwnR
  rw [hl]
  refine ⟨by rw [dwA,hl],.inr ⟨b,cap,cur.setIfInBounds (a.length * 2 + 1) (.int .u16 c),rfl,hb,setRow_heap w b cur _ e _ hg,hnc,hm,by simpa using hsz,?_⟩⟩
  rw [Array.toList_setIfInBounds,List.take_set,ht,gqA,gqA,List.set_append_right _ _ (by rw [dwA];omega),dwA,show a.length * 2 + 1 - a.length * 2=1 by omega]
  rfl
def Tk (xs:List Int):Nat → Nat
  | 0=>0
  | k + 1=>(xs.getD k 0).toNat + 1
theorem r7A {xs:List Int} (h:Inc xs) (hl:Low xs) {k:Nat} (hk:k < xs.length):Tk xs k ≤ (xs.getD k 0).toNat ∧ (∀ z,Tk xs k ≤ z → z < (xs.getD k 0).toNat → c7A xs z=false) ∧ c7A xs (xs.getD k 0).toNat=true:=by
  have hb:∀ j,j < xs.length → 0 ≤ xs.getD j 0 ∧ xs.getD j 0 < 65536:=fun j hj=>by rw [b1A hj];exact hl _ (List.getElem_mem hj)
  have hlt:∀ i j,i < j → j < xs.length → xs.getD i 0 < xs.getD j 0:=fun i j hij hj=>by
    rw [b1A hj,b1A (by omega)]
    exact List.pairwise_iff_getElem.1 h i j (by omega) hj hij
  refine ⟨?_,fun z h1 h2=>?_,?_⟩
  · cases k with
    | zero=>exact Nat.zero_le _
    | succ k=>have:=hlt k (k + 1) (by omega) hk;have:=hb k (by omega);simp only [Tk];omega
  · unfold c7A
    refine decide_eq_false fun hm=>?_
    obtain ⟨j,hj,he⟩:=List.getElem_of_mem hm
    have he':xs.getD j 0=z:=by rw [b1A hj];exact he
    rcases Nat.lt_or_ge j k with h3 | h3
    · obtain ⟨k',rfl⟩:∃ k',k=k' + 1:=⟨k - 1,by omega⟩
      simp only [Tk] at h1
      rcases Nat.lt_or_ge j k' with h4 | h4
      · have:=hlt j k' h4 (by omega);have:=hb k' (by omega);omega
      · obtain rfl:j=k':=by omega
        omega
    · rcases Nat.lt_or_ge k j with h4 | h4
      · have:=hlt k j h4 hj;have:=hb k hk;omega
      · obtain rfl:j=k:=by omega
        omega
  · unfold c7A
    have:=hb k hk
    rw [show (((xs.getD k 0).toNat:Nat):Int)=xs.getD k 0 by omega]
    exact decide_eq_true (by rw [b1A hk];exact List.getElem_mem hk)
set_option maxHeartbeats 4000000 in
theorem vvA (w:World) (v:Value) (xs:List Int) (h:SlI .u16 w v xs) (hi:Inc xs) (hl:Low xs):Fc Tryz.prog 95 #[v] w (Ret w (.pred (fyA w.heap.size 105 (auA (c7A xs))))):=by
  have hlen:=h.len
  refine Fc.of (args:=[_]) Tryz.func95 rfl rfl Tryz.ntmps95 (Nat.le_of_ble_eq_true rfl) ?_
  repeat' (first|(refine oLA ?_;first|refine a0A rfl ?_|refine wOp ?_|(refine wCm ?_ ?_<;>intro hc)|(refine wNl hK ?_;clear hK K))|refine wG ?_|(refine wCR ?_;intro K hK)|fail)
  refine adA (ι:=Nat × Value) (fun i=>[(0,.val v),(3,.val i.2),(6,.val v),(7,.val (.int .i64 xs.length)),(8,.val (.int .i64 i.1))]) (fun i w'=>Ext w w' ∧ i.1 ≤ xs.length ∧ OwnR w.heap.size 105 w' i.2 (opn (c7A xs) (Tk xs i.1))) (fun i=>xs.length - i.1)
    (fun w2 e2=>⟨(0,.slice none 0 0),⟨e2,Nat.zero_le _,OwnR.nil⟩,(by repeat' (first | exact Sub.nil | refine Sub.val rfl (by first | with_reducible rfl | (congr 1;omega)) ?_ | refine Sub.same rfl ?_))⟩) ?_
  rintro ⟨k,so⟩ w1 ⟨he,hk,ho⟩
  dsimp only at hk ho ⊢
  have h1:=h.ext he
  by_cases hkl:k < xs.length
  · obtain ⟨g1,g2,g3⟩:=r7A hi hl hkl
    have hxb:0 ≤ xs.getD k 0 ∧ xs.getD k 0 < 65536:=by rw [b1A hkl];exact hl _ (List.getElem_mem hkl)
    obtain ⟨X,hX⟩:=Int.eq_ofNat_of_zero_le hxb.1
    have hXb:X < 65536:=by omega
    have hTs:Tk xs (k + 1)=X + 1:=by simp only [Tk];rw [hX];rfl
    rw [hX,Int.toNat_natCast] at g1 g2 g3
    have hof:=ggA X g1 g2
    rw [← hof] at ho
    by_cases hA:0 < k ∧ Tk xs k=X
    · obtain ⟨j,rfl⟩:∃ j,k=j + 1:=⟨k - 1,by omega⟩
      have hjb:0 ≤ xs.getD j 0 ∧ xs.getD j 0 < 65536:=by rw [b1A (by omega)];exact hl _ (List.getElem_mem _)
      have hjX:xs.getD j 0 + 1=X:=by have:=hA.2;simp only [Tk] at this;omega
      have hji:(((j + 1:Nat):Int) - 1)=(j:Int):=by omega
      obtain ⟨Y,rfl⟩:∃ Y,X=Y + 1:=⟨X - 1,by omega⟩
      have hbl:bel (c7A xs) (Y + 1)=true:=by
        show c7A xs Y=true
        have:=(r7A hi hl (k:=j) (by omega)).2.2
        rwa [show (xs.getD j 0).toNat=Y by omega] at this
      have hfl:=giA (c7A xs) (Y + 1) hbl
      rw [fcA hbl] at ho
      have hnew:=f1A g3 hbl
      obtain ⟨f,hf⟩:∃ f:Int,f=frm (c7A xs) (Y + 1):=⟨_,rfl⟩
      obtain ⟨a,ha⟩:∃ a,a=rnC (c7A xs) (Y + 1):=⟨_,rfl⟩
      obtain ⟨m,hm⟩:∃ m:Int,m=((Y + 1:Nat):Int) - f - 1:=⟨_,rfl⟩
      rw [← hf,← ha,← hm] at ho
      rw [← hf,← ha,show ((Y + 1:Nat):Int) - f=m + 1 by omega,← hTs] at hnew
      have hal:a.length ≤ Y + 1:=ha ▸ m7A _ _
      have hfb:0 ≤ f ∧ f < Y + 1:=by omega
      obtain ⟨gb,cap,cur,rfl,hgb,hgc,hgn,hgm,hgs,hgt⟩:=ho.row (by simp)
      have hra:=last_at hgt
      have hln:((a ++ [(f,m)]).length:Int)=(a.length:Int) + 1:=by simp
      have hlN:(a ++ [(f,m)]).length=a.length + 1:=by simp
      repeat' (first|(refine oLA ?_;first|refine a0A rfl ?_|(refine oD 19 ?_;refine afA rfl rfl rfl (by dsimp only [fits];omega) ?_;rw [hji])|(refine oD 12 ?_;refine f6A rfl (fun _=>rfl) rfl ?_;rw [hX])|(refine oD 27 ?_;refine byA rfl _ rfl rfl (HasR.ownV ho) ?_;rw [hln])|(refine oD 28 ?_;refine afA rfl rfl rfl (by dsimp only [fits];omega) ?_;rw [Int.add_sub_cancel])|(refine oD 29 ?_;refine c6A (s:=2) rfl rfl (fun _=>rfl) rfl rfl (by omega) (by omega) ?_;rw [Int.toNat_natCast])|(refine oD 33 ?_;refine c6A (s:=2) rfl rfl (fun _=>rfl) rfl rfl (by omega) (by omega) ?_;rw [Int.toNat_natCast])|(refine oF 1 ?_;refine a1A (a:=⟨gb,0 + a.length * 2,none⟩) (a':=⟨gb,a.length * 2 + 1,none⟩) rfl rfl (fun w=>by rw [Nat.zero_add];rfl) ?_)|(refine oD 31 ?_;refine a5A rfl (fun _=>rfl) rfl hgc hra ?_)|(refine a4A (hK _ _ (bgA rfl rfl rfl hgc (fun _=>rfl) (by omega) rfl rfl (fun w4 e4=>?_)));clear hK K;dsimp only [vals];refine aeA (by kernel_rfl) (fun K hK=>?_))|refine wOp ?_|(refine wCm ?_ ?_<;>intro hc)|(refine wNl hK ?_;clear hK K))|refine wG ?_|(refine wCR ?_;intro K hK)|fail)
      refine a6A (j + 1 + 1,_) (fun w5 e5=>⟨((he.trans e4).setRow hgb _).trans e5,hkl,?_⟩) (by dsimp only;omega) (by repeat' (first | exact Sub.nil | refine Sub.val rfl (by first | with_reducible rfl | (congr 1;omega)) ?_ | refine Sub.same rfl ?_))
      dsimp only
      rw [hnew]
      exact OwnR.ext (OwnR.bump hgb (e4.block hgc) hgn hgm hgs hgt (m + 1)) e5
    · have hbl:bel (c7A xs) X=false:=by
        cases X with
        | zero=>rfl
        | succ Y =>
          show c7A xs Y=false
          cases k with
          | zero=>exact g2 Y (Nat.zero_le _) (by omega)
          | succ j=>exact g2 Y (by have:¬ Tk xs (j + 1)=Y + 1:=fun e=>hA ⟨by omega,e⟩;omega) (by omega)
      have hnew:=g3A g3 hbl
      rw [← hTs] at hnew
      have hol:(opn (c7A xs) X).length ≤ X:=by rw [f2A];exact cnt_le _ _
      by_cases hk0:0 < k
      · obtain ⟨j,rfl⟩:∃ j,k=j + 1:=⟨k - 1,by omega⟩
        have hjb:0 ≤ xs.getD j 0 ∧ xs.getD j 0 < 65536:=by rw [b1A (by omega)];exact hl _ (List.getElem_mem _)
        have hjX:¬ (X:Int)=xs.getD j 0 + 1:=fun e=>hA ⟨by omega,by simp only [Tk];omega⟩
        have hjl:xs.getD j 0 + 1 ≤ X:=by have:=g1;simp only [Tk] at this;omega
        have hji:(((j + 1:Nat):Int) - 1)=(j:Int):=by omega
        repeat' (first|(refine oLA ?_;first|refine a0A rfl ?_|(refine oD 19 ?_;refine afA rfl rfl rfl (by dsimp only [fits];omega) ?_;rw [hji])|(refine oD 12 ?_;refine f6A rfl (fun _=>rfl) rfl ?_;rw [hX])|refine fqA (c:=q4A X 0) rfl rfl (fun w=>run_build w _ _ _ (by kernel_rfl)) ?_|refine n2A rfl jcA rfl rfl (by decide) ?_|(refine a4A (hK _ _ (gzA rfl (by decide) jcA rfl ho rfl (by omega) (by omega) he (fun v' w' he' ho'=>?_)));clear hK K;dsimp only [vals];refine aeA (by kernel_rfl) (fun K hK=>?_))|refine wOp ?_|(refine wCm ?_ ?_<;>intro hc)|(refine wNl hK ?_;clear hK K))|refine wG ?_|(refine wCR ?_;intro K hK)|fail)
        exact a6A (j + 1 + 1,v') (fun w5 e5=>⟨he'.trans e5,hkl,by dsimp only;rw [hnew];exact ho'.ext e5⟩) (by dsimp only;omega) (by repeat' (first | exact Sub.nil | refine Sub.val rfl (by first | with_reducible rfl | (congr 1;omega)) ?_ | refine Sub.same rfl ?_))
      · obtain rfl:k=0:=by omega
        repeat' (first|(refine oLA ?_;first|refine a0A rfl ?_|(refine oD 12 ?_;refine f6A rfl (fun _=>rfl) rfl ?_;rw [hX])|refine fqA (c:=q4A X 0) rfl rfl (fun w=>run_build w _ _ _ (by kernel_rfl)) ?_|refine n2A rfl jcA rfl rfl (by decide) ?_|(refine a4A (hK _ _ (gzA rfl (by decide) jcA rfl ho rfl (by omega) (by omega) he (fun v' w' he' ho'=>?_)));clear hK K;dsimp only [vals];refine aeA (by kernel_rfl) (fun K hK=>?_))|refine wOp ?_|(refine wCm ?_ ?_<;>intro hc)|(refine wNl hK ?_;clear hK K))|refine wG ?_|(refine wCR ?_;intro K hK)|fail)
        exact a6A (0 + 1,v') (fun w5 e5=>⟨he'.trans e5,hkl,by dsimp only;rw [hnew];exact ho'.ext e5⟩) (by dsimp only;omega) (by repeat' (first | exact Sub.nil | refine Sub.val rfl (by first | with_reducible rfl | (congr 1;omega)) ?_ | refine Sub.same rfl ?_))
  · obtain rfl:k=xs.length:=by omega
    have hend:opn (c7A xs) (Tk xs xs.length)=auA (c7A xs):=by
      have hT:Tk xs xs.length ≤ 65536:=by
        cases hxl:xs.length with
        | zero=>exact Nat.zero_le _
        | succ j =>
          have:0 ≤ xs.getD j 0 ∧ xs.getD j 0 < 65536:=by rw [b1A (by omega)];exact hl _ (List.getElem_mem _)
          simp only [Tk];omega
      unfold auA
      refine (ggA 65536 hT fun z h1 h2=>?_).symm
      unfold c7A
      refine decide_eq_false fun hm=>?_
      obtain ⟨j,hj,hej⟩:=List.getElem_of_mem hm
      cases hxl:xs.length with
      | zero=>omega
      | succ n =>
        rw [hxl] at h1 hj
        simp only [Tk] at h1
        have e1:xs.getD j 0=z:=by rw [b1A (by omega)];exact hej
        rcases Nat.lt_or_ge j n with h4 | h4
        · have:=List.pairwise_iff_getElem.1 hi j n (by omega) (by omega) h4
          rw [← b1A (by omega),← b1A (by omega)] at this;omega
        · obtain rfl:j=n:=by omega
          omega
    rw [hend] at ho
    repeat' (first|(refine oLA ?_;first|refine a0A rfl ?_|refine wOp ?_|(refine wCm ?_ ?_<;>intro hc)|(refine wNl hK ?_;clear hK K))|refine wG ?_|(refine wCR ?_;intro K hK)|fail)
    exact akA rfl rfl he (fun u w5 e5 hu'=>by obtain rfl:u=_:=hu';exact ho.ext e5)
theorem tbA (f:Int):pkA f (-1)=[]:=by simp [pkA]
theorem mhA {w w':World} {b:Nat} {row:Option Nat} {o:Obj} (h:w.grownBy w' row) (hb:w.heap[b]?=some o) (hne:row ≠ some b):w'.heap[b]?=some o:=by
  rw [h.block b (Array.getElem?_eq_some_iff.1 hb).1 (fun e=>hne e.symm)];exact hb
set_option maxHeartbeats 4000000 in
theorem tcA (w:World) (v:Value) (rs:List Rn) (h:SlR w v rs) (hu:U16 rs) (hr:Right rs) (hn:rs.length ≤ 70000):Fc Tryz.prog 129 #[v] w (Ret w (.pred (bfA w.heap.size 31 .u16 (f3A rs)))):=by
  have hlen:=h.len
  refine Fc.of (args:=[_]) Tryz.func129 rfl rfl Tryz.ntmps129 (Nat.le_of_ble_eq_true rfl) ?_
  repeat' (first|(refine oLA ?_;first|refine a0A rfl ?_|(refine oI ?_;refine bhA rfl _ rfl (fun _=>rfl) rfl (by first | exact HasR.val (by assumption) | exact HasR.own | exact HasR.ownV (by assumption)) rfl (by omega) ?_)|(refine oLt 105 ?_;refine aqA rfl (fun _=>rfl) (fun _=>rfl) rfl ?_)|(show LA _ _ _ _ (⟨some 99,.alloc _,_,_,_,_⟩ :: _) _;refine a4A (hK _ _ (cbA rfl rfl (by decide) (fun _=>rfl) (fun _=>rfl) (fun _=>rfl) rfl (by intro u hu;simp [Value.cells] at hu;rcases hu with rfl | rfl <;> rfl) (fun bx wx ex hbx hbc=>?_)));clear hK K;refine aeA (by kernel_rfl) (fun K hK=>?_))|(refine oF 0 ?_;refine a1A (a:=⟨bx,0,none⟩) (a':=⟨bx,0,none⟩) rfl rfl (fun _=>rfl) ?_)|(refine oF 1 ?_;refine a1A (a:=⟨bx,0,none⟩) (a':=⟨bx,1,none⟩) rfl rfl (fun _=>rfl) ?_)|(refine oLt 105 ?_;refine b9A rfl (fun _=>rfl) (fun _=>rfl) rfl hbc ?_)|(refine oLt 31 ?_;refine a5A rfl (fun _=>rfl) rfl hbc rfl ?_)|(refine dkA ?_;refine byA rfl _ rfl rfl (by first | exact HasR.val (by assumption) | exact HasR.own | exact HasR.ownV (by assumption)) ?_)|refine wOp ?_|(refine wCm ?_ ?_<;>intro hc)|(refine wNl hK ?_;clear hK K))|refine wG ?_|(refine wCR ?_;intro K hK)|fail)
  refine adA (ι:=Nat × Value) (fun i=>[(3,.val i.2),(7,.val v),(8,.val (.int .i64 rs.length)),(9,.val (.int .i64 i.1))]) (fun i w'=>Ext w w' ∧ i.1 ≤ rs.length ∧ OwnI w.heap.size 31 .u16 w' i.2 (f3A (rs.take i.1))) (fun i=>rs.length - i.1)
    (fun w2 e2=>⟨(0,.slice none 0 0),⟨e2,Nat.zero_le _,OwnI.nil⟩,(by repeat' (first | exact Sub.nil | refine Sub.val rfl (by first | with_reducible rfl | (congr 1;omega)) ?_ | refine Sub.same rfl ?_))⟩) ?_
  rintro ⟨k,so⟩ w1 ⟨he,hk,ho⟩
  dsimp only at hk ho ⊢
  have h1:=h.ext he
  by_cases hkl:k < rs.length
  · obtain ⟨u1,u2,u3,u4⟩:=hu.at k
    obtain ⟨-,hr2⟩:=hr k hkl
    have hlk:((f3A (rs.take k)).length:Int)=ldA (rs.take k):=lcA _ (fun x hx=>(hu x (List.mem_of_mem_take hx)).2.2.1)
    have hb:=gcA (fun x=>x.2 + 1) 65536 (fun x h1 h2=>⟨by omega,by omega⟩) hu k hk
    have hb:0 ≤ ldA (rs.take k) ∧ ldA (rs.take k) ≤ 65536 * k:=hb
    obtain ⟨LK,hLK⟩:∃ LK,LK=(f3A (rs.take k)).length:=⟨_,rfl⟩
    have hLKb:LK ≤ 65536 * 70000:=by omega
    clear hlk hb
    obtain ⟨F,hF⟩:=Int.eq_ofNat_of_zero_le u1
    obtain ⟨M,hM⟩:=Int.eq_ofNat_of_zero_le u3
    rw [hF] at u2 hr2;rw [hM] at u4 hr2
    have hmin:min ((F:Int) + M + 1) 65536=(F:Int) + M + 1:=by omega
    repeat' (first|(refine oLA ?_;first|refine a0A rfl ?_|(refine oD 12 ?_;refine aqA rfl (fun _=>rfl) (fun _=>rfl) rfl ?_;rw [hF,hM])|(refine oI ?_;refine bhA rfl _ rfl (fun _=>rfl) rfl (by first | exact HasR.val (by assumption) | exact HasR.own | exact HasR.ownV (by assumption)) rfl (by omega) ?_)|(refine oLt 105 ?_;refine aqA rfl (fun _=>rfl) (fun _=>rfl) rfl ?_)|(show LA _ _ _ _ (⟨some 5,.alloc _,_,_,_,_⟩ :: _) _;refine a4A (hK _ _ (cbA rfl rfl (by decide) (fun _=>rfl) (fun _=>rfl) (fun _=>rfl) rfl (by intro u hu;simp [Value.cells] at hu;rcases hu with rfl | rfl <;> rfl) (fun bx wx ex hbx hbc=>?_)));clear hK K;refine aeA (by kernel_rfl) (fun K hK=>?_))|(refine oF 0 ?_;refine a1A (a:=⟨bx,0,none⟩) (a':=⟨bx,0,none⟩) rfl rfl (fun _=>rfl) ?_)|(refine oF 1 ?_;refine a1A (a:=⟨bx,0,none⟩) (a':=⟨bx,1,none⟩) rfl rfl (fun _=>rfl) ?_)|(refine oLt 105 ?_;refine b9A rfl (fun _=>rfl) (fun _=>rfl) rfl hbc ?_)|(refine oLt 31 ?_;refine a5A rfl (fun _=>rfl) rfl hbc rfl ?_)|(refine dkA ?_;refine byA rfl _ rfl rfl (by first | exact HasR.val (by assumption) | exact HasR.own | exact HasR.ownV (by assumption)) ?_)|refine wOp ?_|(refine wCm ?_ ?_<;>intro hc)|(refine wNl hK ?_;clear hK K))|refine wG ?_|(refine wCR ?_;intro K hK)|fail)
    have ho5:=ho.ext ex
    have x5:=he.trans ex
    refine adA (ι:=Nat × Value) (fun i=>[(3,.val i.2),(5,.val (.pointer (some ⟨bx,0,none⟩))),(6,.val (.int .i64 ((F:Int) + i.1))),(7,.val v),(8,.val (.int .i64 rs.length)),(9,.val (.int .i64 k))])
      (fun i w'=>Ext w w' ∧ i.1 ≤ M + 1 ∧ OwnI w.heap.size 31 .u16 w' i.2 (f3A (rs.take k) ++ pkA F ((i.1:Int) - 1)) ∧ w'.heap[bx]?=some (.cells (q4A F M).cells 105 (0,0))) (fun i=>M + 1 - i.1)
      (fun w2 e2=>⟨(0,so),⟨x5.trans e2,Nat.zero_le _,by dsimp only;rw [show (((0:Nat):Int) - 1)=-1 from rfl,tbA,List.append_nil];exact ho5.ext e2,e2.block hbc⟩,by dsimp only;rw [show (F:Int) + ((0:Nat):Int)=F by omega];exact (by repeat' (first | exact Sub.nil | refine Sub.val rfl (by first | with_reducible rfl | (congr 1;omega)) ?_ | refine Sub.same rfl ?_))⟩) ?_
    rintro ⟨j,sj⟩ w6 ⟨he6,hj6,ho6,hbc6⟩
    dsimp only at hj6 ho6 hbc6 ⊢
    have hrl:(f3A (rs.take k) ++ pkA F ((j:Int) - 1)).length=LK + j:=by rw [List.length_append,nlA,← hLK];omega
    have hne:sj.ownBlock ≠ some bx:=fun e=>by
      rcases ho6.2 with ⟨e0,-⟩ | ⟨g,cap,cur,e0,-,hg,-⟩
      · rw [e0] at e;cases e
      · rw [e0] at e
        have:g=bx:=by simpa [Value.ownBlock] using e
        subst this
        rw [hbc6] at hg
        simp only [Option.some.injEq,Obj.cells.injEq] at hg
        exact absurd hg.2.1 (by decide)
    by_cases hjl:j < M + 1
    · have hsucc:=l2A F j
      repeat' (first|(refine oLA ?_;first|refine a0A rfl ?_|(refine dxA rfl rfl rfl ?_;rw [hmin])|(refine oLt 105 ?_;refine b9A rfl (fun _=>rfl) (fun _=>rfl) rfl hbc6 ?_)|refine iuA rfl j9A rfl rfl ?_|(refine a4A (hK _ _ (cxA rfl (by decide) j9A rfl ho6 rfl HasC.pred (by intro u hu9;simp at hu9;subst hu9;rfl) (by rw [hrl];unfold maxLen;omega) (by rw [hrl];omega) he6.size (fun v' w7 w8 e7 ho8 hg8=>?_)));clear hK K;dsimp only [vals];refine aeA (by kernel_rfl) (fun K hK=>?_))|refine wOp ?_|(refine wCm ?_ ?_<;>intro hc)|(refine oCv ?_;first|(refine oC 177 ?_;refine a2A (f:=177) rfl rfl rfl  (.val (.int .i64 ((F:Int) + M + 1))) (by intro u1 w e hu1;(try obtain rfl:u1=_:=hu1);exact p8A _ F M ⟨by omega,by omega⟩ ⟨by omega,by omega⟩) ?_))|(refine wNl hK ?_;clear hK K))|refine wG ?_|(refine wCR ?_;intro K hK)|fail)
      refine a6A (j + 1,v') (fun w9 e9=>⟨((he6.trans e7).grown hg8 (fun q hq=>(Own.lt ho6 q hq).1)).trans e9,by dsimp only;omega,?_,e9.block (mhA hg8 (e7.block hbc6) hne)⟩) (by dsimp only;omega) (by repeat' (first | exact Sub.nil | refine Sub.val rfl (by first | with_reducible rfl | (congr 1;omega)) ?_ | refine Sub.same rfl ?_))
      dsimp only
      rw [show (((j + 1:Nat):Int) - 1)=(j:Int) by omega,hsucc,← List.append_assoc]
      refine OwnI.ext ?_ e9
      unfold OwnI
      rw [List.map_append,List.length_append];exact ho8
    · obtain rfl:j=M + 1:=by omega
      repeat' (first|(refine oLA ?_;first|refine a0A rfl ?_|(refine dxA rfl rfl rfl ?_;rw [hmin])|(refine oLt 105 ?_;refine b9A rfl (fun _=>rfl) (fun _=>rfl) rfl hbc6 ?_)|refine wOp ?_|(refine wCm ?_ ?_<;>intro hc)|(refine oCv ?_;first|(refine oC 177 ?_;refine a2A (f:=177) rfl rfl rfl  (.val (.int .i64 ((F:Int) + M + 1))) (by intro u1 w e hu1;(try obtain rfl:u1=_:=hu1);exact p8A _ F M ⟨by omega,by omega⟩ ⟨by omega,by omega⟩) ?_))|(refine wNl hK ?_;clear hK K))|refine wG ?_|(refine wCR ?_;intro K hK)|fail)
      refine a6A (k + 1,sj) (fun w9 e9=>⟨he6.trans e9,hkl,?_⟩) (by dsimp only;omega) (by repeat' (first | exact Sub.nil | refine Sub.val rfl (by first | with_reducible rfl | (congr 1;omega)) ?_ | refine Sub.same rfl ?_))
      dsimp only
      rw [gbA hkl,fgA,hF,hM]
      have hlr:f3A [((F:Int),(M:Int))]=pkA F M:=by simp [f3A]
      rw [hlr]
      rw [show (((M + 1:Nat):Int) - 1)=(M:Int) by omega] at ho6
      exact ho6.ext e9
  · obtain rfl:k=rs.length:=by omega
    rw [List.take_length] at ho
    repeat' (first|(refine oLA ?_;first|refine a0A rfl ?_|refine wOp ?_|(refine wCm ?_ ?_<;>intro hc)|(refine wNl hK ?_;clear hK K))|refine wG ?_|(refine wCR ?_;intro K hK)|fail)
    exact akA rfl rfl he (fun u w5 e5 hu'=>by obtain rfl:u=_:=hu';exact ho.ext e5)
theorem i5A {f:FuncId} {args:Array Value} {w:World} {a b a' b':Value} (ha:a=a') (hb:b=b') (h:Fc Tryz.prog f args w (Ret w (.tup2 (.val a) (.val b)))):Fc Tryz.prog f args w (Ret w (.tup2 (.val a') (.val b'))):=by
  subst ha;subst hb;exact h
theorem o5A (w:World) (f m x:Int) (hf:0 ≤ f ∧ f < 65536) (hx:0 ≤ x ∧ x < 65536):Fc Tryz.prog 202 #[q4A f m,.int .u16 x] w (Ret w (.val (.int .i64 (f - x)))):=by
  refine Fc.of (args:=[_,_]) Tryz.func202 rfl rfl Tryz.ntmps202 (Nat.le_of_ble_eq_true rfl) ?_
  repeat' (first|(refine oLA ?_;first|refine a0A rfl ?_|refine enA rfl rfl ?_|(refine oD 5 ?_;refine a4A (hK _ _ (b8A 2 rfl (fun v1 w1 e1 h1=>?_)));clear hK K;obtain ⟨bx,hbx,rfl,hbc⟩:=h1;refine aeA (by kernel_rfl) (fun K hK=>?_))|(refine oI ?_;refine bhA rfl _ rfl (fun _=>rfl) rfl (by first | exact HasR.val (by assumption) | exact HasR.own | exact HasR.ownV (by assumption)) rfl (by omega) ?_)|(refine oLt 105 ?_;refine aqA rfl (fun _=>rfl) (fun _=>rfl) rfl ?_)|(show LA _ _ _ _ (⟨some 99,.alloc _,_,_,_,_⟩ :: _) _;refine a4A (hK _ _ (cbA rfl rfl (by decide) (fun _=>rfl) (fun _=>rfl) (fun _=>rfl) rfl (by intro u hu;simp [Value.cells] at hu;rcases hu with rfl | rfl <;> rfl) (fun bx wx ex hbx hbc=>?_)));clear hK K;refine aeA (by kernel_rfl) (fun K hK=>?_))|(refine oF 0 ?_;refine a1A (a:=⟨bx,0,none⟩) (a':=⟨bx,0,none⟩) rfl rfl (fun _=>rfl) ?_)|(refine oF 1 ?_;refine a1A (a:=⟨bx,0,none⟩) (a':=⟨bx,1,none⟩) rfl rfl (fun _=>rfl) ?_)|(refine oLt 105 ?_;refine b9A rfl (fun _=>rfl) (fun _=>rfl) rfl hbc ?_)|(refine oLt 31 ?_;refine a5A rfl (fun _=>rfl) rfl hbc rfl ?_)|(refine dkA ?_;refine byA rfl _ rfl rfl (by first | exact HasR.val (by assumption) | exact HasR.own | exact HasR.ownV (by assumption)) ?_)|refine wOp ?_|(refine wCm ?_ ?_<;>intro hc)|(refine wNl hK ?_;clear hK K))|refine wG ?_|(refine wCR ?_;intro K hK)|fail)
  exact abA rfl rfl e1 rfl
set_option maxHeartbeats 4000000 in
theorem ynA (w:World) (v:Value) (rs:List Rn) (x:Int) (h:SlR w v rs) (hu:U16 rs) (hx:0 ≤ x ∧ x < 65536) (hb:rs.length ≤ 4611686018427387903) :
    Fc Tryz.prog 201 #[v,.int .u16 x,.func (.func 202) #[] #[]] w (Ret w (.tup2 (.val (.int .i64 (bsS (rs.map Prod.fst) x))) (.val (.bool (dcA (rs.map Prod.fst) x))))):=by
  refine Fc.of (args:=[_,_,_]) Tryz.func201 rfl rfl Tryz.ntmps201 (Nat.le_of_ble_eq_true rfl) ?_
  obtain ⟨xs,hxs⟩:∃ xs,xs=rs.map Prod.fst:=⟨_,rfl⟩
  have hxl:xs.length=rs.length:=by rw [hxs,List.length_map]
  have hget:∀ k,k < rs.length → xs.getD k 0=fst rs k:=fun k hk=>by rw [hxs];exact gvA hk
  rw [← hxs]
  clear hxs
  repeat' (first|(refine oLA ?_;first|refine a0A rfl ?_|(refine oI ?_;refine bhA rfl _ rfl (fun _=>rfl) rfl (by first | exact HasR.val (by assumption) | exact HasR.own | exact HasR.ownV (by assumption)) rfl (by omega) ?_)|(refine oLt 105 ?_;refine aqA rfl (fun _=>rfl) (fun _=>rfl) rfl ?_)|(show LA _ _ _ _ (⟨some 99,.alloc _,_,_,_,_⟩ :: _) _;refine a4A (hK _ _ (cbA rfl rfl (by decide) (fun _=>rfl) (fun _=>rfl) (fun _=>rfl) rfl (by intro u hu;simp [Value.cells] at hu;rcases hu with rfl | rfl <;> rfl) (fun bx wx ex hbx hbc=>?_)));clear hK K;refine aeA (by kernel_rfl) (fun K hK=>?_))|(refine oF 0 ?_;refine a1A (a:=⟨bx,0,none⟩) (a':=⟨bx,0,none⟩) rfl rfl (fun _=>rfl) ?_)|(refine oF 1 ?_;refine a1A (a:=⟨bx,0,none⟩) (a':=⟨bx,1,none⟩) rfl rfl (fun _=>rfl) ?_)|(refine oLt 105 ?_;refine b9A rfl (fun _=>rfl) (fun _=>rfl) rfl hbc ?_)|(refine oLt 31 ?_;refine a5A rfl (fun _=>rfl) rfl hbc rfl ?_)|(refine dkA ?_;refine byA rfl _ rfl rfl (by first | exact HasR.val (by assumption) | exact HasR.own | exact HasR.ownV (by assumption)) ?_)|refine wOp ?_|(refine wCm ?_ ?_<;>intro hc)|(refine wNl hK ?_;clear hK K))|refine wG ?_|(refine wCR ?_;intro K hK)|fail)
  refine bjA (ι:=Nat × Nat) (fun k=>[(0,.val v),(1,.val (.int .u16 x)),(2,.val (.func (.func 202) #[] #[])),(8,.val (.int .i64 rs.length)),(9,.val (.int .i64 k.1)),(10,.val (.int .i64 k.2))]) (fun k=>k.1 ≤ k.2 ∧ k.2 ≤ rs.length ∧ bsGo xs x k.1 k.2=bsS xs x) (fun k=>k.2 - k.1) (0,rs.length)
    ⟨by simp,by simp,by rw [← hxl];rfl⟩ (by repeat' (first | exact Sub.nil | refine Sub.val rfl (by first | with_reducible rfl | (congr 1;omega)) ?_ | refine Sub.same rfl ?_)) ?_
  rintro ⟨i,j⟩ ⟨h1,h2,h3⟩
  dsimp only at h1 h2 h3 ⊢
  by_cases hij:i < j
  · obtain ⟨m,hm⟩:∃ m,m=(i + j) / 2:=⟨_,rfl⟩
    have hmi:((i:Int) + j) / 2=(m:Int):=by omega
    have hml:m < rs.length:=by omega
    have hgm:=hget m hml
    obtain ⟨u1,u2,u3,u4⟩:=hu.at m
    by_cases hlt:fst rs m < x
    · skip
      repeat' (first|(refine oLA ?_;first|refine a0A rfl ?_|(refine oD 22 ?_;refine flA rfl rfl rfl (by omega) (by dsimp only [IntKind.bits];omega) ?_;dsimp only [Int.reduceToNat,Int.reducePow];rw [hmi])|(refine oD 30 ?_;refine a3A (f:=202) (r1:=.val _) (r2:=.val _) rfl rfl rfl rfl (.val (.int .i64 (fst rs m - x))) (by intro a1 a2 w e ha1 ha2;obtain rfl:a1=_:=ha1;obtain rfl:a2=_:=ha2;exact o5A _ _ _ _ ⟨u1,u2⟩ hx) ?_)|(refine oI ?_;refine bhA rfl _ rfl (fun _=>rfl) rfl (by first | exact HasR.val (by assumption) | exact HasR.own | exact HasR.ownV (by assumption)) rfl (by omega) ?_)|(refine oLt 105 ?_;refine aqA rfl (fun _=>rfl) (fun _=>rfl) rfl ?_)|(show LA _ _ _ _ (⟨some 99,.alloc _,_,_,_,_⟩ :: _) _;refine a4A (hK _ _ (cbA rfl rfl (by decide) (fun _=>rfl) (fun _=>rfl) (fun _=>rfl) rfl (by intro u hu;simp [Value.cells] at hu;rcases hu with rfl | rfl <;> rfl) (fun bx wx ex hbx hbc=>?_)));clear hK K;refine aeA (by kernel_rfl) (fun K hK=>?_))|(refine oF 0 ?_;refine a1A (a:=⟨bx,0,none⟩) (a':=⟨bx,0,none⟩) rfl rfl (fun _=>rfl) ?_)|(refine oF 1 ?_;refine a1A (a:=⟨bx,0,none⟩) (a':=⟨bx,1,none⟩) rfl rfl (fun _=>rfl) ?_)|(refine oLt 105 ?_;refine b9A rfl (fun _=>rfl) (fun _=>rfl) rfl hbc ?_)|(refine oLt 31 ?_;refine a5A rfl (fun _=>rfl) rfl hbc rfl ?_)|(refine dkA ?_;refine byA rfl _ rfl rfl (by first | exact HasR.val (by assumption) | exact HasR.own | exact HasR.ownV (by assumption)) ?_)|refine wOp ?_|(refine wCm ?_ ?_<;>intro hc)|(refine wNl hK ?_;clear hK K))|refine wG ?_|(refine wCR ?_;intro K hK)|fail)
      refine chA (m + 1,j) ⟨by dsimp only;omega,h2,?_⟩ (by dsimp only;omega) (by repeat' (first | exact Sub.nil | refine Sub.val rfl (by first | with_reducible rfl | (congr 1;omega)) ?_ | refine Sub.same rfl ?_))
      rw [← h3];conv=>rhs;rw [bsGo,if_pos hij,← hm,if_pos (by rw [hgm];exact hlt)]
    · skip
      repeat' (first|(refine oLA ?_;first|refine a0A rfl ?_|(refine oD 22 ?_;refine flA rfl rfl rfl (by omega) (by dsimp only [IntKind.bits];omega) ?_;dsimp only [Int.reduceToNat,Int.reducePow];rw [hmi])|(refine oD 30 ?_;refine a3A (f:=202) (r1:=.val _) (r2:=.val _) rfl rfl rfl rfl (.val (.int .i64 (fst rs m - x))) (by intro a1 a2 w e ha1 ha2;obtain rfl:a1=_:=ha1;obtain rfl:a2=_:=ha2;exact o5A _ _ _ _ ⟨u1,u2⟩ hx) ?_)|(refine oI ?_;refine bhA rfl _ rfl (fun _=>rfl) rfl (by first | exact HasR.val (by assumption) | exact HasR.own | exact HasR.ownV (by assumption)) rfl (by omega) ?_)|(refine oLt 105 ?_;refine aqA rfl (fun _=>rfl) (fun _=>rfl) rfl ?_)|(show LA _ _ _ _ (⟨some 99,.alloc _,_,_,_,_⟩ :: _) _;refine a4A (hK _ _ (cbA rfl rfl (by decide) (fun _=>rfl) (fun _=>rfl) (fun _=>rfl) rfl (by intro u hu;simp [Value.cells] at hu;rcases hu with rfl | rfl <;> rfl) (fun bx wx ex hbx hbc=>?_)));clear hK K;refine aeA (by kernel_rfl) (fun K hK=>?_))|(refine oF 0 ?_;refine a1A (a:=⟨bx,0,none⟩) (a':=⟨bx,0,none⟩) rfl rfl (fun _=>rfl) ?_)|(refine oF 1 ?_;refine a1A (a:=⟨bx,0,none⟩) (a':=⟨bx,1,none⟩) rfl rfl (fun _=>rfl) ?_)|(refine oLt 105 ?_;refine b9A rfl (fun _=>rfl) (fun _=>rfl) rfl hbc ?_)|(refine oLt 31 ?_;refine a5A rfl (fun _=>rfl) rfl hbc rfl ?_)|(refine dkA ?_;refine byA rfl _ rfl rfl (by first | exact HasR.val (by assumption) | exact HasR.own | exact HasR.ownV (by assumption)) ?_)|refine wOp ?_|(refine wCm ?_ ?_<;>intro hc)|(refine wNl hK ?_;clear hK K))|refine wG ?_|(refine wCR ?_;intro K hK)|fail)
      refine chA (i,m) ⟨by dsimp only;omega,by dsimp only;omega,?_⟩ (by dsimp only;omega) (by repeat' (first | exact Sub.nil | refine Sub.val rfl (by first | with_reducible rfl | (congr 1;omega)) ?_ | refine Sub.same rfl ?_))
      rw [← h3];conv=>rhs;rw [bsGo,if_pos hij,← hm,if_neg (by rw [hgm];exact hlt)]
  · have e1:i=bsS xs x:=by rw [← h3,bsGo,if_neg (by omega)]
    by_cases hil:i < rs.length
    · have hgi:=hget i hil
      obtain ⟨u1,u2,u3,u4⟩:=hu.at i
      by_cases heq:fst rs i=x
      · have hf:dcA xs x=true:=by unfold dcA;rw [← e1,decide_eq_true ⟨by omega,by rw [hgi];exact heq⟩]
        rw [hf]
        repeat' (first|(refine oLA ?_;first|refine a0A rfl ?_|(refine oD 46 ?_;refine a3A (f:=202) (r1:=.val _) (r2:=.val _) rfl rfl rfl rfl (.val (.int .i64 (fst rs i - x))) (by intro a1 a2 w e ha1 ha2;obtain rfl:a1=_:=ha1;obtain rfl:a2=_:=ha2;exact o5A _ _ _ _ ⟨u1,u2⟩ hx) ?_)|(refine oI ?_;refine bhA rfl _ rfl (fun _=>rfl) rfl (by first | exact HasR.val (by assumption) | exact HasR.own | exact HasR.ownV (by assumption)) rfl (by omega) ?_)|(refine oLt 105 ?_;refine aqA rfl (fun _=>rfl) (fun _=>rfl) rfl ?_)|(show LA _ _ _ _ (⟨some 99,.alloc _,_,_,_,_⟩ :: _) _;refine a4A (hK _ _ (cbA rfl rfl (by decide) (fun _=>rfl) (fun _=>rfl) (fun _=>rfl) rfl (by intro u hu;simp [Value.cells] at hu;rcases hu with rfl | rfl <;> rfl) (fun bx wx ex hbx hbc=>?_)));clear hK K;refine aeA (by kernel_rfl) (fun K hK=>?_))|(refine oF 0 ?_;refine a1A (a:=⟨bx,0,none⟩) (a':=⟨bx,0,none⟩) rfl rfl (fun _=>rfl) ?_)|(refine oF 1 ?_;refine a1A (a:=⟨bx,0,none⟩) (a':=⟨bx,1,none⟩) rfl rfl (fun _=>rfl) ?_)|(refine oLt 105 ?_;refine b9A rfl (fun _=>rfl) (fun _=>rfl) rfl hbc ?_)|(refine oLt 31 ?_;refine a5A rfl (fun _=>rfl) rfl hbc rfl ?_)|(refine dkA ?_;refine byA rfl _ rfl rfl (by first | exact HasR.val (by assumption) | exact HasR.own | exact HasR.ownV (by assumption)) ?_)|refine wOp ?_|(refine wCm ?_ ?_<;>intro hc)|(refine wNl hK ?_;clear hK K))|refine wG ?_|(refine wCR ?_;intro K hK)|(refine oPX ?_;first|exact c2A rfl rfl rfl (Ext.refl _) (by rw [e1]) rfl)|fail)
      · have hf:dcA xs x=false:=by unfold dcA;rw [← e1];exact decide_eq_false (fun hh=>heq (by rw [← hgi];exact hh.2))
        rw [hf]
        repeat' (first|(refine oLA ?_;first|refine a0A rfl ?_|(refine oD 46 ?_;refine a3A (f:=202) (r1:=.val _) (r2:=.val _) rfl rfl rfl rfl (.val (.int .i64 (fst rs i - x))) (by intro a1 a2 w e ha1 ha2;obtain rfl:a1=_:=ha1;obtain rfl:a2=_:=ha2;exact o5A _ _ _ _ ⟨u1,u2⟩ hx) ?_)|(refine oI ?_;refine bhA rfl _ rfl (fun _=>rfl) rfl (by first | exact HasR.val (by assumption) | exact HasR.own | exact HasR.ownV (by assumption)) rfl (by omega) ?_)|(refine oLt 105 ?_;refine aqA rfl (fun _=>rfl) (fun _=>rfl) rfl ?_)|(show LA _ _ _ _ (⟨some 99,.alloc _,_,_,_,_⟩ :: _) _;refine a4A (hK _ _ (cbA rfl rfl (by decide) (fun _=>rfl) (fun _=>rfl) (fun _=>rfl) rfl (by intro u hu;simp [Value.cells] at hu;rcases hu with rfl | rfl <;> rfl) (fun bx wx ex hbx hbc=>?_)));clear hK K;refine aeA (by kernel_rfl) (fun K hK=>?_))|(refine oF 0 ?_;refine a1A (a:=⟨bx,0,none⟩) (a':=⟨bx,0,none⟩) rfl rfl (fun _=>rfl) ?_)|(refine oF 1 ?_;refine a1A (a:=⟨bx,0,none⟩) (a':=⟨bx,1,none⟩) rfl rfl (fun _=>rfl) ?_)|(refine oLt 105 ?_;refine b9A rfl (fun _=>rfl) (fun _=>rfl) rfl hbc ?_)|(refine oLt 31 ?_;refine a5A rfl (fun _=>rfl) rfl hbc rfl ?_)|(refine dkA ?_;refine byA rfl _ rfl rfl (by first | exact HasR.val (by assumption) | exact HasR.own | exact HasR.ownV (by assumption)) ?_)|refine wOp ?_|(refine wCm ?_ ?_<;>intro hc)|(refine wNl hK ?_;clear hK K))|refine wG ?_|(refine wCR ?_;intro K hK)|(refine oPX ?_;first|exact c2A rfl rfl rfl (Ext.refl _) (by rw [e1]) rfl)|fail)
    · have hf:dcA xs x=false:=by unfold dcA;rw [← e1];exact decide_eq_false (fun hh=>hil (by omega))
      rw [hf]
      repeat' (first|(refine oLA ?_;first|refine a0A rfl ?_|(refine oI ?_;refine bhA rfl _ rfl (fun _=>rfl) rfl (by first | exact HasR.val (by assumption) | exact HasR.own | exact HasR.ownV (by assumption)) rfl (by omega) ?_)|(refine oLt 105 ?_;refine aqA rfl (fun _=>rfl) (fun _=>rfl) rfl ?_)|(show LA _ _ _ _ (⟨some 99,.alloc _,_,_,_,_⟩ :: _) _;refine a4A (hK _ _ (cbA rfl rfl (by decide) (fun _=>rfl) (fun _=>rfl) (fun _=>rfl) rfl (by intro u hu;simp [Value.cells] at hu;rcases hu with rfl | rfl <;> rfl) (fun bx wx ex hbx hbc=>?_)));clear hK K;refine aeA (by kernel_rfl) (fun K hK=>?_))|(refine oF 0 ?_;refine a1A (a:=⟨bx,0,none⟩) (a':=⟨bx,0,none⟩) rfl rfl (fun _=>rfl) ?_)|(refine oF 1 ?_;refine a1A (a:=⟨bx,0,none⟩) (a':=⟨bx,1,none⟩) rfl rfl (fun _=>rfl) ?_)|(refine oLt 105 ?_;refine b9A rfl (fun _=>rfl) (fun _=>rfl) rfl hbc ?_)|(refine oLt 31 ?_;refine a5A rfl (fun _=>rfl) rfl hbc rfl ?_)|(refine dkA ?_;refine byA rfl _ rfl rfl (by first | exact HasR.val (by assumption) | exact HasR.own | exact HasR.ownV (by assumption)) ?_)|refine wOp ?_|(refine wCm ?_ ?_<;>intro hc)|(refine wNl hK ?_;clear hK K))|refine wG ?_|(refine wCR ?_;intro K hK)|(refine oPX ?_;first|exact c2A rfl rfl rfl (Ext.refl _) (by rw [e1]) rfl)|fail)
set_option maxHeartbeats 4000000 in
theorem x6A (w:World) (v:Value) (rs:List Rn) (x:Nat) (h:SlR w v rs) (hu:U16 rs) (hr:Right rs) (hx:x < 65536) (hb:rs.length ≤ 70000):Fc Tryz.prog 181 #[v,.int .u16 x] w (Ret w (.val (.bool (inR rs x)))):=by
  rw [← has_eq hr hu x]
  obtain ⟨i,hi⟩:∃ i,i=bsS (rs.map Prod.fst) (x:Int):=⟨_,rfl⟩
  obtain ⟨f,hf⟩:∃ f,f=dcA (rs.map Prod.fst) (x:Int):=⟨_,rfl⟩
  have hil:i ≤ rs.length:=by have:=okA (rs.map Prod.fst) (x:Int);rw [List.length_map] at this;omega
  have hH:hasR rs x=(f || (decide (0 < i) && decide ((x:Int) < fst rs (i - 1) + mor rs (i - 1) + 1))):=by unfold hasR;rw [← hi,← hf]
  rw [hH]
  clear hH
  obtain ⟨u1,u2,u3,u4⟩:=hu.at (i - 1)
  refine Fc.of (args:=[_,_]) Tryz.func181 rfl rfl Tryz.ntmps181 (Nat.le_of_ble_eq_true rfl) ?_
  cases hfv:f
  · by_cases hi0:0 < i
    · obtain ⟨j,rfl⟩:∃ j,i=j + 1:=⟨i - 1,by omega⟩
      rw [Nat.add_sub_cancel] at u1 u2 u3 u4 ⊢
      have hji:(((j + 1:Nat):Int) - 1)=(j:Int):=by omega
      by_cases hin:(x:Int) < fst rs j + mor rs j + 1
      all_goals
        repeat' (first|(refine oLA ?_;first|refine a0A rfl ?_|(refine oD 22 ?_;refine afA rfl rfl rfl (by dsimp only [fits];omega) ?_;rw [hji])|(refine oI ?_;refine bhA rfl _ rfl (fun _=>rfl) rfl (by first | exact HasR.val (by assumption) | exact HasR.own | exact HasR.ownV (by assumption)) rfl (by omega) ?_)|(refine oLt 105 ?_;refine aqA rfl (fun _=>rfl) (fun _=>rfl) rfl ?_)|(show LA _ _ _ _ (⟨some 99,.alloc _,_,_,_,_⟩ :: _) _;refine a4A (hK _ _ (cbA rfl rfl (by decide) (fun _=>rfl) (fun _=>rfl) (fun _=>rfl) rfl (by intro u hu;simp [Value.cells] at hu;rcases hu with rfl | rfl <;> rfl) (fun bx wx ex hbx hbc=>?_)));clear hK K;refine aeA (by kernel_rfl) (fun K hK=>?_))|(refine oF 0 ?_;refine a1A (a:=⟨bx,0,none⟩) (a':=⟨bx,0,none⟩) rfl rfl (fun _=>rfl) ?_)|(refine oF 1 ?_;refine a1A (a:=⟨bx,0,none⟩) (a':=⟨bx,1,none⟩) rfl rfl (fun _=>rfl) ?_)|(refine oLt 105 ?_;refine b9A rfl (fun _=>rfl) (fun _=>rfl) rfl hbc ?_)|(refine oLt 31 ?_;refine a5A rfl (fun _=>rfl) rfl hbc rfl ?_)|(refine dkA ?_;refine byA rfl _ rfl rfl (by first | exact HasR.val (by assumption) | exact HasR.own | exact HasR.ownV (by assumption)) ?_)|refine wOp ?_|(refine wCm ?_ ?_<;>intro hc)|(refine oCv ?_;first|(refine oC 201 ?_;refine beA (f:=201) rfl rfl rfl rfl rfl  (.tup2 (.val (.int .i64 ((j + 1:Nat):Int))) (.val (.bool false))) (by intro u1 u2 u3 w e hu1 hu2 hu3;(try obtain rfl:u1=_:=hu1);(try obtain rfl:u2=_:=hu2);(try obtain rfl:u3=_:=hu3);exact i5A (by rw [hi]) (by rw [← hf,hfv]) (ynA _ _ rs x (h.ext e) hu ⟨by omega,by omega⟩ (by omega))) ?_)|(refine oC 177 ?_;refine a2A (f:=177) rfl rfl rfl  (.val (.int .i64 (fst rs j + mor rs j + 1))) (by intro u1 w e hu1;(try obtain rfl:u1=_:=hu1);exact p8A _ (fst rs j) (mor rs j) ⟨u1,u2⟩ ⟨u3,u4⟩) ?_))|(refine wNl hK ?_;clear hK K))|refine wG ?_|(refine wCR ?_;intro K hK)|(refine oPX ?_;first|exact abA rfl rfl (Ext.refl _) (by simp [hin]))|fail)
    · obtain rfl:i=0:=by omega
      repeat' (first|(refine oLA ?_;first|refine a0A rfl ?_|refine wOp ?_|(refine wCm ?_ ?_<;>intro hc)|(refine oCv ?_;first|(refine oC 201 ?_;refine beA (f:=201) rfl rfl rfl rfl rfl  (.tup2 (.val (.int .i64 ((0:Nat):Int))) (.val (.bool false))) (by intro u1 u2 u3 w e hu1 hu2 hu3;(try obtain rfl:u1=_:=hu1);(try obtain rfl:u2=_:=hu2);(try obtain rfl:u3=_:=hu3);exact i5A (by rw [hi]) (by rw [← hf,hfv]) (ynA _ _ rs x (h.ext e) hu ⟨by omega,by omega⟩ (by omega))) ?_))|(refine wNl hK ?_;clear hK K))|refine wG ?_|(refine wCR ?_;intro K hK)|(refine oPX ?_;first|exact abA rfl rfl (Ext.refl _) (by simp))|fail)
  · skip
    repeat' (first|(refine oLA ?_;first|refine a0A rfl ?_|refine wOp ?_|(refine wCm ?_ ?_<;>intro hc)|(refine oCv ?_;first|(refine oC 201 ?_;refine beA (f:=201) rfl rfl rfl rfl rfl  (.tup2 (.val (.int .i64 (i:Int))) (.val (.bool true))) (by intro u1 u2 u3 w e hu1 hu2 hu3;(try obtain rfl:u1=_:=hu1);(try obtain rfl:u2=_:=hu2);(try obtain rfl:u3=_:=hu3);exact i5A (by rw [hi]) (by rw [← hf,hfv]) (ynA _ _ rs x (h.ext e) hu ⟨by omega,by omega⟩ (by omega))) ?_))|(refine wNl hK ?_;clear hK K))|refine wG ?_|(refine wCR ?_;intro K hK)|(refine oPX ?_;first|exact abA rfl rfl (Ext.refl _) (by simp))|fail)
end Go.Proofs.YtbokphkfojijoaaGreatDoor
end
section
set_option linter.unusedSimpArgs false
set_option linter.unusedVariables false
namespace Go.Proofs.YtbokphkfojijoaaGreatDoor
open Go.LA Go.ArrP Go.RowKit
variable {A:Nat → Prop}
def nilS:Value:=.slice none 0 0
def OwnA (A:Nat → Prop) (e:Nat) (k:IntKind) (w:World) (v:Value) (xs:List Int):Prop:=OwnI 0 e k w v xs ∧ ∀ b,v.ownBlock=some b → A b
theorem OwnA.ext {e:Nat} {k:IntKind} {w w':World} {v:Value} {xs:List Int} (h:OwnA A e k w v xs) (x:Ext w w'):OwnA A e k w' v xs:=⟨h.1.ext x,h.2⟩
theorem OwnA.slI {e:Nat} {k:IntKind} {w:World} {v:Value} {xs:List Int} (h:OwnA A e k w v xs):SlI k w v xs:=h.1.slI
def Fsh (A:Nat → Prop) (w:World):Prop:=∀ k,w.heap.size ≤ k → A k
theorem Fsh.ext {w w':World} (h:Fsh A w) (e:Ext w w'):Fsh A w':=fun k hk=>h k (Nat.le_trans e.size hk)
def TT:Nat → Prop:=fun _=>True
theorem tt {w:World}:Fsh TT w:=fun _ _=>trivial
def Cn (A:Nat → Prop) (w:World) (v:Value) (p:Nat → Bool) (kk:Int):Prop :=
  p 65536=false ∧
  ((kk=1 ∧ ∃ kd va,(kd=0 ∨ kd=1) ∧ v=.agg #[.int .u8 kd,va,.slice none 0 0,.slice none 0 0] ∧ OwnA A 31 .u16 w va (ahA p 65536)) ∨
   (kk=2 ∧ ∃ vw,v=.agg #[.int .u8 2,.slice none 0 0,vw,.slice none 0 0] ∧ OwnI 0 61 .u64 w vw (wordsOf p)) ∨
   (kk=3 ∧ ∃ vr,v=.agg #[.int .u8 3,.slice none 0 0,.slice none 0 0,vr] ∧ OwnR 0 105 w vr (auA p)))
theorem Cn.ext {w w':World} {v:Value} {p:Nat → Bool} {kk:Int} (h:Cn A w v p kk) (e:Ext w w'):Cn A w' v p kk:=by
  obtain ⟨hp,h | h | h⟩:=h
  · obtain ⟨h1,kd,va,h2,h3,h4⟩:=h;exact ⟨hp,.inl ⟨h1,kd,va,h2,h3,h4.ext e⟩⟩
  · obtain ⟨h1,vw,h3,h4⟩:=h;exact ⟨hp,.inr (.inl ⟨h1,vw,h3,h4.ext e⟩)⟩
  · obtain ⟨h1,vr,h3,h4⟩:=h;exact ⟨hp,.inr (.inr ⟨h1,vr,h3,h4.ext e⟩)⟩
def cnP (A:Nat → Prop) (p:Nat → Bool) (kk:Int):AV:=⟨fun v w=>Cn A w v p kk,fun _ _ _ e h=>h.ext e⟩
theorem Cn.setRow {w:World} {v:Value} {p:Nat → Bool} {kk:Int} (h:Cn A w v p kk) {b:Nat} {cur:Array Value} {e:TypeId} {j:Nat × Nat} (hb:w.heap[b]?=some (.cells cur e j)) (he:31 ≠ e ∧ 61 ≠ e ∧ 105 ≠ e) (cs:Array Value):Cn A (w.setRow b cs) v p kk:=by
  obtain ⟨hp,h | h | h⟩:=h
  · obtain ⟨h1,kd,va,h2,h3,h4⟩:=h;exact ⟨hp,.inl ⟨h1,kd,va,h2,h3,Own.setRow h4.1 _ (Own.apart h4.1 hb he.1),h4.2⟩⟩
  · obtain ⟨h1,vw,h3,h4⟩:=h;exact ⟨hp,.inr (.inl ⟨h1,vw,h3,Own.setRow h4 _ (Own.apart h4 hb he.2.1)⟩)⟩
  · obtain ⟨h1,vr,h3,h4⟩:=h;exact ⟨hp,.inr (.inr ⟨h1,vr,h3,Own.setRow h4 _ (Own.apart h4 hb he.2.2)⟩)⟩
theorem Cn.arr {w:World} {va:Value} {p:Nat → Bool} {base:Nat} (hp:p 65536=false) {xs:List Int} (hx:xs=ahA p 65536) (h:OwnI base 31 .u16 w va xs) (hA:∀ k,base ≤ k → A k):Cn A w (.agg #[.int .u8 1,va,.slice none 0 0,.slice none 0 0]) p 1 :=
  ⟨hp,.inl ⟨rfl,1,va,.inr rfl,rfl,hx ▸ Own.base h (Nat.zero_le _),fun k hk=>hA k (Own.lt h k hk).1⟩⟩
theorem Cn.wrd {w:World} {vw:Value} {p:Nat → Bool} {base:Nat} (hp:p 65536=false) {xs:List Int} (hx:xs=wordsOf p) (h:OwnI base 61 .u64 w vw xs) (hA:∀ k,base ≤ k → A k):Cn A w (.agg #[.int .u8 2,.slice none 0 0,vw,.slice none 0 0]) p 2 :=
  ⟨hp,.inr (.inl ⟨rfl,vw,rfl,hx ▸ Own.base h (Nat.zero_le _)⟩)⟩
theorem Cn.rns {w:World} {vr:Value} {p:Nat → Bool} {base:Nat} (hp:p 65536=false) {xs:List Rn} (hx:xs=auA p) (h:OwnR base 105 w vr xs) (hA:∀ k,base ≤ k → A k):Cn A w (.agg #[.int .u8 3,.slice none 0 0,.slice none 0 0,vr]) p 3 :=
  ⟨hp,.inr (.inr ⟨rfl,vr,rfl,hx ▸ Own.base h (Nat.zero_le _)⟩)⟩
theorem Cn.zero {w:World}:Cn A w (.agg #[.int .u8 0,.slice none 0 0,.slice none 0 0,.slice none 0 0]) (fun _=>false) 1 :=
  ⟨rfl,.inl ⟨rfl,0,_,.inl rfl,rfl,by rw [lbA (fun _=>false) (a:=0) 65536 (by decide) (fun _ _ _=>rfl)];exact ⟨OwnI.nil,fun _ h=>by cases h⟩⟩⟩
theorem Cn.parts {w:World} {v:Value} {p:Nat → Bool} {kk:Int} (h:Cn A w v p kk):∃ kd va vw vr,v=.agg #[.int .u8 kd,va,vw,vr] ∧ max kd 1=kk ∧ 0 ≤ kd ∧ kd ≤ 3 ∧ kk=max kd 1 ∧ 1 ≤ kk ∧ kk ≤ 3 ∧ (∀ u ∈ (Value.agg #[.int .u8 kd,va,vw,vr]).cells.toList,u.oneCell'=true):=by
  obtain ⟨hp,h | h | h⟩:=h
  · obtain ⟨h1,kd,va,h2,h3,h4⟩:=h
    refine ⟨kd,va,_,_,h3,by omega,by omega,by omega,by omega,by omega,by omega,fun u hu=>?_⟩
    simp only [Value.cells,List.mem_cons,List.not_mem_nil,or_false] at hu
    rcases hu with rfl | rfl | rfl | rfl
    · rfl
    · exact OwnI.one h4.1
    · rfl
    · rfl
  · obtain ⟨h1,vw,h3,h4⟩:=h
    refine ⟨2,_,vw,_,h3,by omega,by omega,by omega,by omega,by omega,by omega,fun u hu=>?_⟩
    simp only [Value.cells,List.mem_cons,List.not_mem_nil,or_false] at hu
    rcases hu with rfl | rfl | rfl | rfl
    · rfl
    · rfl
    · exact OwnI.one h4
    · rfl
  · obtain ⟨h1,vr,h3,h4⟩:=h
    refine ⟨3,_,_,vr,h3,by omega,by omega,by omega,by omega,by omega,by omega,fun u hu=>?_⟩
    simp only [Value.cells,List.mem_cons,List.not_mem_nil,or_false] at hu
    rcases hu with rfl | rfl | rfl | rfl
    · rfl
    · rfl
    · rfl
    · obtain ⟨a,c,hv⟩:=(OwnR.slR h4).isSlice
      rw [hv];rfl
def w4A (c:Nat):Int:=if c ≤ 4096 then 2 * (c:Int) else 8192
def apA (p:Nat → Bool):Int:=if 2 + 4 * (cnt (bkA p) 65536:Int) < w4A (cnt p 65536) then 3 else if cnt p 65536 ≤ 4096 then 1 else 2
theorem Cn.congr {w:World} {v:Value} {p q:Nat → Bool} {kk:Int} (h:Cn A w v p kk) (hq:q 65536=false) (e:∀ i,i < 65536 → p i=q i):Cn A w v q kk:=by
  obtain ⟨hp,h⟩:=h
  rw [dgA 65536 e,c1A e,i0A e] at h
  exact ⟨hq,h⟩
end Go.Proofs.YtbokphkfojijoaaGreatDoor
end
section
set_option linter.unusedSimpArgs false
set_option linter.unusedVariables false
set_option maxRecDepth 3000
namespace Go.Proofs.YtbokphkfojijoaaGreatDoor
open Go.LA Go.ArrP Go.RowKit
variable {A:Nat → Prop}
theorem czA:El Tryz.prog 27 31 (.int .u16 0) 1 2:=⟨rfl,rfl,rfl,by decide⟩
theorem ruA (w:World) (v:Value) (n:Nat) (cs:List Value) (h:SlC w v n 1 cs) (h1:∀ u ∈ cs,u.oneCell'=true) (hb:n * 2 ≤ 140737488355328):Fc Tryz.prog 99 #[v] w (Ret w (.pred (j5A w.heap.size 31 1 n cs))):=by
  obtain ⟨h0,a,cap,rfl,hc,hm,hn,hcs⟩:=id h
  have hlen:=h.len
  cases a with
  | none =>
    obtain rfl:=hn rfl
    obtain rfl:n=0:=by omega
    obtain rfl:cs=[]:=List.eq_nil_of_length_eq_zero (by omega)
    refine Fc.of (args:=[_]) Tryz.func99 rfl rfl Tryz.ntmps99 (Nat.le_of_ble_eq_true rfl) ?_
    repeat' (first|(refine oLA ?_;first|refine a0A rfl ?_|refine bpA (c:=.bool true) rfl rfl rfl (fun _=>rfl) ?_|refine wOp ?_|(refine wCm ?_ ?_<;>intro hc)|(refine wNl hK ?_;clear hK K))|refine wG ?_|(refine wCR ?_;intro K hK)|(refine oPX ?_;first|exact akA rfl rfl (Ext.refl _) (fun u w2 e2 hu=>by obtain rfl:u=_:=hu;exact Own.nil))|fail)
  | some a =>
    refine Fc.of (args:=[_]) Tryz.func99 rfl rfl Tryz.ntmps99 (Nat.le_of_ble_eq_true rfl) ?_
    repeat' (first|(refine oLA ?_;first|refine a0A rfl ?_|refine bpA (c:=.bool false) rfl rfl rfl (fun _=>rfl) ?_|refine ivA 31 (s:=1) rfl (fun _=>by kernel_rfl) ?_|(refine a4A (hK _ _ (b8A 5 rfl (fun v5 w5 e5 h5=>?_)));clear hK K;have h6:=h.ext e5;have ho:Own w.heap.size _ _ w5 v5 0 []:=h5;refine aeA (by kernel_rfl) (fun K hK=>?_))|(refine a4A (hK _ _ (cxA rfl (by decide) czA rfl ho rfl (HasC.val h6) h1 (by rw [Nat.zero_add];unfold maxLen;omega) (by rw [Nat.zero_add];exact hb) e5.size (fun v' w2 w3 he2 ho3 hg3=>?_)));clear hK K;dsimp only [vals];refine aeA (by kernel_rfl) (fun K hK=>?_))|refine wOp ?_|(refine wCm ?_ ?_<;>intro hc)|(refine wNl hK ?_;clear hK K))|refine wG ?_|(refine wCR ?_;intro K hK)|fail)
    exact akA rfl rfl ((e5.trans he2).grown hg3 (fun q hq=>(Own.lt ho q hq).1)) (fun u w4 e4 hu=>by
      obtain rfl:u=_:=hu
      have h9:Own w.heap.size 31 1 w3 u n cs:=by simpa using ho3
      exact h9.ext e4)
theorem azB:El Tryz.prog 93 61 (.int .u64 0) 1 8:=⟨rfl,rfl,rfl,by decide⟩
theorem rsA (w:World) (v:Value) (n:Nat) (cs:List Value) (h:SlC w v n 1 cs) (h1:∀ u ∈ cs,u.oneCell'=true) (hb:n * 8 ≤ 140737488355328):Fc Tryz.prog 132 #[v] w (Ret w (.pred (j5A w.heap.size 61 1 n cs))):=by
  obtain ⟨h0,a,cap,rfl,hc,hm,hn,hcs⟩:=id h
  have hlen:=h.len
  cases a with
  | none =>
    obtain rfl:=hn rfl
    obtain rfl:n=0:=by omega
    obtain rfl:cs=[]:=List.eq_nil_of_length_eq_zero (by omega)
    refine Fc.of (args:=[_]) Tryz.func132 rfl rfl Tryz.ntmps132 (Nat.le_of_ble_eq_true rfl) ?_
    repeat' (first|(refine oLA ?_;first|refine a0A rfl ?_|refine bpA (c:=.bool true) rfl rfl rfl (fun _=>rfl) ?_|refine wOp ?_|(refine wCm ?_ ?_<;>intro hc)|(refine wNl hK ?_;clear hK K))|refine wG ?_|(refine wCR ?_;intro K hK)|(refine oPX ?_;first|exact akA rfl rfl (Ext.refl _) (fun u w2 e2 hu=>by obtain rfl:u=_:=hu;exact Own.nil))|fail)
  | some a =>
    refine Fc.of (args:=[_]) Tryz.func132 rfl rfl Tryz.ntmps132 (Nat.le_of_ble_eq_true rfl) ?_
    repeat' (first|(refine oLA ?_;first|refine a0A rfl ?_|refine bpA (c:=.bool false) rfl rfl rfl (fun _=>rfl) ?_|refine ivA 61 (s:=1) rfl (fun _=>by kernel_rfl) ?_|(refine a4A (hK _ _ (b8A 5 rfl (fun v5 w5 e5 h5=>?_)));clear hK K;have h6:=h.ext e5;have ho:Own w.heap.size _ _ w5 v5 0 []:=h5;refine aeA (by kernel_rfl) (fun K hK=>?_))|(refine a4A (hK _ _ (cxA rfl (by decide) azB rfl ho rfl (HasC.val h6) h1 (by rw [Nat.zero_add];unfold maxLen;omega) (by rw [Nat.zero_add];exact hb) e5.size (fun v' w2 w3 he2 ho3 hg3=>?_)));clear hK K;dsimp only [vals];refine aeA (by kernel_rfl) (fun K hK=>?_))|refine wOp ?_|(refine wCm ?_ ?_<;>intro hc)|(refine wNl hK ?_;clear hK K))|refine wG ?_|(refine wCR ?_;intro K hK)|fail)
    exact akA rfl rfl ((e5.trans he2).grown hg3 (fun q hq=>(Own.lt ho q hq).1)) (fun u w4 e4 hu=>by
      obtain rfl:u=_:=hu
      have h9:Own w.heap.size 61 1 w3 u n cs:=by simpa using ho3
      exact h9.ext e4)
theorem egA {w:World} {v:Value} {p:Nat → Bool} {kk:Int} (h:Cn A w v p kk):Fc Tryz.prog 63 #[v] w (Ret w (.val (.int .u8 kk))):=by
  obtain ⟨kd,va,vw,vr,rfl,-,h1,h2,rfl,-⟩:=h.parts
  refine Fc.of (args:=[_]) Tryz.func63 rfl rfl Tryz.ntmps63 (Nat.le_of_ble_eq_true rfl) ?_
  repeat' (first|(refine oLA ?_;first|refine a0A rfl ?_|refine dvA ?_|(refine fnA rfl rfl rfl ?_)|refine wOp ?_|(refine wCm ?_ ?_<;>intro hc)|(refine wNl hK ?_;clear hK K))|refine wG ?_|(refine wCR ?_;intro K hK)|fail)
  all_goals skip
  all_goals exact abA rfl rfl (Ext.refl _) rfl
theorem upA {w:World} {va vw vr:Value} {kd:Int} {xs:List Int} (h:SlI .u16 w va xs):Fc Tryz.prog 100 #[.agg #[.int .u8 kd,va,vw,vr]] w (Ret w (.val (.int .i64 xs.length))):=by
  have hl:=h.len
  refine Fc.of (args:=[_]) Tryz.func100 rfl rfl Tryz.ntmps100 (Nat.le_of_ble_eq_true rfl) ?_
  repeat' (first|(refine oLA ?_;first|refine a0A rfl ?_|refine dvA ?_|refine wOp ?_|(refine wCm ?_ ?_<;>intro hc)|(refine wNl hK ?_;clear hK K))|refine wG ?_|(refine wCR ?_;intro K hK)|fail)
  all_goals skip
  all_goals exact abA rfl rfl (Ext.refl _) rfl
theorem t2A {w:World} {va vw vr:Value} {kd:Int} {p:Nat → Bool} (h:SlI .u64 w vw (wordsOf p)):Fc Tryz.prog 101 #[.agg #[.int .u8 kd,va,vw,vr]] w (Ret w (.val (.int .i64 (cnt p 65536)))):=by
  refine Fc.of (args:=[_]) Tryz.func101 rfl rfl Tryz.ntmps101 (Nat.le_of_ble_eq_true rfl) ?_
  repeat' (first|(refine oLA ?_;first|refine a0A rfl ?_|refine dvA ?_|refine wOp ?_|(refine wCm ?_ ?_<;>intro hc)|(refine oCv ?_;first|(refine oC 130 ?_;refine a2A (f:=130) rfl rfl rfl  (.val (.int .i64 (cnt p 65536))) (by intro u1 w e hu1;(try obtain rfl:u1=_:=hu1);exact wlenP _ _ p (h.ext e)) ?_))|(refine wNl hK ?_;clear hK K))|refine wG ?_|(refine wCR ?_;intro K hK)|fail)
  all_goals skip
  all_goals exact abA rfl rfl (Ext.refl _) rfl
theorem t6A {w:World} {va vw vr:Value} {kd:Int} {p:Nat → Bool} (h:SlR w vr (auA p)):Fc Tryz.prog 102 #[.agg #[.int .u8 kd,va,vw,vr]] w (Ret w (.val (.int .i64 (cnt p 65536)))):=by
  have hl:ldA (auA p)=cnt p 65536:=mbA p 65536
  rw [← hl]
  have hn:(auA p).length ≤ 70000:=by have:=dnA p;omega
  refine Fc.of (args:=[_]) Tryz.func102 rfl rfl Tryz.ntmps102 (Nat.le_of_ble_eq_true rfl) ?_
  repeat' (first|(refine oLA ?_;first|refine a0A rfl ?_|refine dvA ?_|refine wOp ?_|(refine wCm ?_ ?_<;>intro hc)|(refine oCv ?_;first|(refine oC 131 ?_;refine a2A (f:=131) rfl rfl rfl  (.val (.int .i64 (ldA (auA p)))) (by intro u1 w e hu1;(try obtain rfl:u1=_:=hu1);exact x5A _ _ (auA p) (h.ext e) (e3A p) hn) ?_))|(refine wNl hK ?_;clear hK K))|refine wG ?_|(refine wCR ?_;intro K hK)|fail)
  all_goals skip
  all_goals exact abA rfl rfl (Ext.refl _) rfl
theorem g6A {w:World} {v:Value} {p:Nat → Bool} {kk:Int} (h:Cn A w v p kk):Fc Tryz.prog 65 #[v] w (Ret w (.val (.int .i64 (cnt p 65536)))):=by
  have hk:∀ w',Ext w w' → _:=fun w' e=>egA (h.ext e)
  have hll:=b7A p 65536
  obtain ⟨hp,⟨rfl,kd,va,hkd,rfl,ho⟩ | ⟨rfl,vw,rfl,ho⟩ | ⟨rfl,vr,rfl,ho⟩⟩:=h
  · skip
    refine Fc.of (args:=[_]) Tryz.func65 rfl rfl Tryz.ntmps65 (Nat.le_of_ble_eq_true rfl) ?_
    repeat' (first|(refine oLA ?_;first|refine a0A rfl ?_|refine dvA ?_|refine cyA (c:=.agg #[.nilFunc,.func (.func 100) #[] #[],.func (.func 101) #[] #[],.func (.func 102) #[] #[]]) rfl rfl rfl rfl (fun _=>by kernel_rfl) ?_|(refine drA 1 (c:=.func (.func 100) #[] #[]) rfl rfl (fun _=>rfl) rfl rfl rfl (by decide) (fun _=>by kernel_rfl) ?_)|refine wOp ?_|(refine wCm ?_ ?_<;>intro hc)|(refine oCv ?_;first|(refine oC 63 ?_;refine a2A (f:=63) rfl rfl rfl _ (by intro u1 w' e hu1;obtain rfl:u1=_:=hu1;exact hk w' e) ?_)|(refine a2A (f:=100) rfl rfl rfl (.val (.int .i64 (cnt p 65536))) (by intro u1 w' e hu1;obtain rfl:u1=_:=hu1;exact by rw [← hll];exact upA (ho.ext e).slI) ?_))|(refine wNl hK ?_;clear hK K))|refine wG ?_|(refine wCR ?_;intro K hK)|fail)
    all_goals skip
    all_goals exact abA rfl rfl (Ext.refl _) rfl
  · skip
    refine Fc.of (args:=[_]) Tryz.func65 rfl rfl Tryz.ntmps65 (Nat.le_of_ble_eq_true rfl) ?_
    repeat' (first|(refine oLA ?_;first|refine a0A rfl ?_|refine dvA ?_|refine cyA (c:=.agg #[.nilFunc,.func (.func 100) #[] #[],.func (.func 101) #[] #[],.func (.func 102) #[] #[]]) rfl rfl rfl rfl (fun _=>by kernel_rfl) ?_|(refine drA 2 (c:=.func (.func 101) #[] #[]) rfl rfl (fun _=>rfl) rfl rfl rfl (by decide) (fun _=>by kernel_rfl) ?_)|refine wOp ?_|(refine wCm ?_ ?_<;>intro hc)|(refine oCv ?_;first|(refine oC 63 ?_;refine a2A (f:=63) rfl rfl rfl _ (by intro u1 w' e hu1;obtain rfl:u1=_:=hu1;exact hk w' e) ?_)|(refine a2A (f:=101) rfl rfl rfl (.val (.int .i64 (cnt p 65536))) (by intro u1 w' e hu1;obtain rfl:u1=_:=hu1;exact t2A (ho.ext e).slI) ?_))|(refine wNl hK ?_;clear hK K))|refine wG ?_|(refine wCR ?_;intro K hK)|fail)
    all_goals skip
    all_goals exact abA rfl rfl (Ext.refl _) rfl
  · skip
    refine Fc.of (args:=[_]) Tryz.func65 rfl rfl Tryz.ntmps65 (Nat.le_of_ble_eq_true rfl) ?_
    repeat' (first|(refine oLA ?_;first|refine a0A rfl ?_|refine dvA ?_|refine cyA (c:=.agg #[.nilFunc,.func (.func 100) #[] #[],.func (.func 101) #[] #[],.func (.func 102) #[] #[]]) rfl rfl rfl rfl (fun _=>by kernel_rfl) ?_|(refine drA 3 (c:=.func (.func 102) #[] #[]) rfl rfl (fun _=>rfl) rfl rfl rfl (by decide) (fun _=>by kernel_rfl) ?_)|refine wOp ?_|(refine wCm ?_ ?_<;>intro hc)|(refine oCv ?_;first|(refine oC 63 ?_;refine a2A (f:=63) rfl rfl rfl _ (by intro u1 w' e hu1;obtain rfl:u1=_:=hu1;exact hk w' e) ?_)|(refine a2A (f:=102) rfl rfl rfl (.val (.int .i64 (cnt p 65536))) (by intro u1 w' e hu1;obtain rfl:u1=_:=hu1;exact t6A (ho.ext e).slR) ?_))|(refine wNl hK ?_;clear hK K))|refine wG ?_|(refine wCR ?_;intro K hK)|fail)
    all_goals skip
    all_goals exact abA rfl rfl (Ext.refl _) rfl
theorem y8A (p:Nat → Bool) (x:Nat) (hx:x < 65536):dcA (ahA p 65536) (x:Int)=p x:=by
  rw [exA _ (bvA p _)];exact ckA p hx
theorem uqA {w:World} {va vw vr:Value} {kd:Int} {p:Nat → Bool} {x:Nat} (h:SlI .u16 w va (ahA p 65536)) (hx:x < 65536):Fc Tryz.prog 134 #[.agg #[.int .u8 kd,va,vw,vr],.int .u16 x] w (Ret w (.val (.bool (p x)))):=by
  have hf:=y8A p x hx
  have hn:(ahA p 65536).length ≤ 4611686018427387903:=by rw [b7A];have:=cnt_le p 65536;omega
  refine Fc.of (args:=[_,_]) Tryz.func134 rfl rfl Tryz.ntmps134 (Nat.le_of_ble_eq_true rfl) ?_
  repeat' (first|(refine oLA ?_;first|refine a0A rfl ?_|refine dvA ?_|refine wOp ?_|(refine wCm ?_ ?_<;>intro hc)|(refine oCv ?_;first|(refine oC 179 ?_;refine a3A (f:=179) rfl rfl rfl rfl  (.tup2 (.val (.int .i64 (bsS (ahA p 65536) x))) (.val (.bool (p x)))) (by intro u1 u2 w e hu1 hu2;(try obtain rfl:u1=_:=hu1);(try obtain rfl:u2=_:=hu2);exact tdA rfl (by rw [hf]) (w9A _ _ (ahA p 65536) x (h.ext e) hn)) ?_))|(refine wNl hK ?_;clear hK K))|refine wG ?_|(refine wCR ?_;intro K hK)|fail)
  all_goals skip
  all_goals exact abA rfl rfl (Ext.refl _) rfl
theorem t3A {w:World} {va vw vr:Value} {kd:Int} {p:Nat → Bool} {x:Nat} (h:SlI .u64 w vw (wordsOf p)) (hx:x < 65536):Fc Tryz.prog 135 #[.agg #[.int .u8 kd,va,vw,vr],.int .u16 x] w (Ret w (.val (.bool (p x)))):=by
  refine Fc.of (args:=[_,_]) Tryz.func135 rfl rfl Tryz.ntmps135 (Nat.le_of_ble_eq_true rfl) ?_
  repeat' (first|(refine oLA ?_;first|refine a0A rfl ?_|refine dvA ?_|refine wOp ?_|(refine wCm ?_ ?_<;>intro hc)|(refine oCv ?_;first|(refine oC 180 ?_;refine a3A (f:=180) rfl rfl rfl rfl  (.val (.bool (p x))) (by intro u1 u2 w e hu1 hu2;(try obtain rfl:u1=_:=hu1);(try obtain rfl:u2=_:=hu2);exact whasP _ _ p (h.ext e) x hx) ?_))|(refine wNl hK ?_;clear hK K))|refine wG ?_|(refine wCR ?_;intro K hK)|fail)
  all_goals skip
  all_goals exact abA rfl rfl (Ext.refl _) rfl
theorem t7A {w:World} {va vw vr:Value} {kd:Int} {p:Nat → Bool} {x:Nat} (h:SlR w vr (auA p)) (hx:x < 65536):Fc Tryz.prog 136 #[.agg #[.int .u8 kd,va,vw,vr],.int .u16 x] w (Ret w (.val (.bool (p x)))):=by
  rw [← o4A p hx]
  have hn:(auA p).length ≤ 70000:=by have:=dnA p;omega
  refine Fc.of (args:=[_,_]) Tryz.func136 rfl rfl Tryz.ntmps136 (Nat.le_of_ble_eq_true rfl) ?_
  repeat' (first|(refine oLA ?_;first|refine a0A rfl ?_|refine dvA ?_|refine wOp ?_|(refine wCm ?_ ?_<;>intro hc)|(refine oCv ?_;first|(refine oC 181 ?_;refine a3A (f:=181) rfl rfl rfl rfl  (.val (.bool (inR (auA p) x))) (by intro u1 u2 w e hu1 hu2;(try obtain rfl:u1=_:=hu1);(try obtain rfl:u2=_:=hu2);exact x6A _ _ (auA p) x (h.ext e) (e3A p) (frA p) hx hn) ?_))|(refine wNl hK ?_;clear hK K))|refine wG ?_|(refine wCR ?_;intro K hK)|fail)
  all_goals skip
  all_goals exact abA rfl rfl (Ext.refl _) rfl
theorem ghA {w:World} {v:Value} {p:Nat → Bool} {kk:Int} {x:Nat} (h:Cn A w v p kk) (hx:x < 65536):Fc Tryz.prog 105 #[v,.int .u16 x] w (Ret w (.val (.bool (p x)))):=by
  have hk:∀ w',Ext w w' → _:=fun w' e=>egA (h.ext e)
  obtain ⟨hp,⟨rfl,kd,va,hkd,rfl,ho⟩ | ⟨rfl,vw,rfl,ho⟩ | ⟨rfl,vr,rfl,ho⟩⟩:=h
  · skip
    refine Fc.of (args:=[_,_]) Tryz.func105 rfl rfl Tryz.ntmps105 (Nat.le_of_ble_eq_true rfl) ?_
    repeat' (first|(refine oLA ?_;first|refine a0A rfl ?_|refine dvA ?_|refine cyA (c:=.agg #[.nilFunc,.func (.func 134) #[] #[],.func (.func 135) #[] #[],.func (.func 136) #[] #[]]) rfl rfl rfl rfl (fun _=>by kernel_rfl) ?_|(refine drA 1 (c:=.func (.func 134) #[] #[]) rfl rfl (fun _=>rfl) rfl rfl rfl (by decide) (fun _=>by kernel_rfl) ?_)|refine wOp ?_|(refine wCm ?_ ?_<;>intro hc)|(refine oCv ?_;first|(refine oC 63 ?_;refine a2A (f:=63) rfl rfl rfl _ (by intro u1 w' e hu1;obtain rfl:u1=_:=hu1;exact hk w' e) ?_)|(refine a3A (f:=134) rfl rfl rfl rfl (.val (.bool (p x))) (by intro u1 u2 w' e hu1 hu2;obtain rfl:u1=_:=hu1;obtain rfl:u2=_:=hu2;exact uqA (ho.ext e).slI hx) ?_))|(refine wNl hK ?_;clear hK K))|refine wG ?_|(refine wCR ?_;intro K hK)|fail)
    all_goals skip
    all_goals exact abA rfl rfl (Ext.refl _) rfl
  · skip
    refine Fc.of (args:=[_,_]) Tryz.func105 rfl rfl Tryz.ntmps105 (Nat.le_of_ble_eq_true rfl) ?_
    repeat' (first|(refine oLA ?_;first|refine a0A rfl ?_|refine dvA ?_|refine cyA (c:=.agg #[.nilFunc,.func (.func 134) #[] #[],.func (.func 135) #[] #[],.func (.func 136) #[] #[]]) rfl rfl rfl rfl (fun _=>by kernel_rfl) ?_|(refine drA 2 (c:=.func (.func 135) #[] #[]) rfl rfl (fun _=>rfl) rfl rfl rfl (by decide) (fun _=>by kernel_rfl) ?_)|refine wOp ?_|(refine wCm ?_ ?_<;>intro hc)|(refine oCv ?_;first|(refine oC 63 ?_;refine a2A (f:=63) rfl rfl rfl _ (by intro u1 w' e hu1;obtain rfl:u1=_:=hu1;exact hk w' e) ?_)|(refine a3A (f:=135) rfl rfl rfl rfl (.val (.bool (p x))) (by intro u1 u2 w' e hu1 hu2;obtain rfl:u1=_:=hu1;obtain rfl:u2=_:=hu2;exact t3A (ho.ext e).slI hx) ?_))|(refine wNl hK ?_;clear hK K))|refine wG ?_|(refine wCR ?_;intro K hK)|fail)
    all_goals skip
    all_goals exact abA rfl rfl (Ext.refl _) rfl
  · skip
    refine Fc.of (args:=[_,_]) Tryz.func105 rfl rfl Tryz.ntmps105 (Nat.le_of_ble_eq_true rfl) ?_
    repeat' (first|(refine oLA ?_;first|refine a0A rfl ?_|refine dvA ?_|refine cyA (c:=.agg #[.nilFunc,.func (.func 134) #[] #[],.func (.func 135) #[] #[],.func (.func 136) #[] #[]]) rfl rfl rfl rfl (fun _=>by kernel_rfl) ?_|(refine drA 3 (c:=.func (.func 136) #[] #[]) rfl rfl (fun _=>rfl) rfl rfl rfl (by decide) (fun _=>by kernel_rfl) ?_)|refine wOp ?_|(refine wCm ?_ ?_<;>intro hc)|(refine oCv ?_;first|(refine oC 63 ?_;refine a2A (f:=63) rfl rfl rfl _ (by intro u1 w' e hu1;obtain rfl:u1=_:=hu1;exact hk w' e) ?_)|(refine a3A (f:=136) rfl rfl rfl rfl (.val (.bool (p x))) (by intro u1 u2 w' e hu1 hu2;obtain rfl:u1=_:=hu1;obtain rfl:u2=_:=hu2;exact t7A (ho.ext e).slR hx) ?_))|(refine wNl hK ?_;clear hK K))|refine wG ?_|(refine wCR ?_;intro K hK)|fail)
    all_goals skip
    all_goals exact abA rfl rfl (Ext.refl _) rfl
end Go.Proofs.YtbokphkfojijoaaGreatDoor
end
