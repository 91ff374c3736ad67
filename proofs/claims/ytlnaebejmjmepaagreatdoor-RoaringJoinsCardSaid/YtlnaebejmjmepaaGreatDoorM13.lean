import Derived.Sort.AssemblyPlain
import Derived.Laws.Bits64
import Derived.Laws.Bits64b
import Derived.Maps.AppendAt
import Derived.Test.YtlnaebejmjmepaaGreatDoorM4
import Derived.Test.YtlnaebejmjmepaaGreatDoorM5
import Derived.Test.YtlnaebejmjmepaaGreatDoorM6
set_option linter.unusedSimpArgs false
set_option linter.unusedVariables false
set_option maxRecDepth 3000
set_option maxHeartbeats 16000000
section
namespace Go.LA
open Go.RowKit
section
variable {P:Program} {l:List Oper} {M:List Nat} {N:Nn} {ws wb:World} {K:List Oper→Env→Prop} {rest:List Oper} {E:Env} {Q:Exit→Act→World→Prop} {m:Nat} {C:World→Env→Prop}
variable {d:Tmp} {ty t t':TypeId} {pos:String} {after:Array Edge} {g:Option (Nat × Bool)} {x y z:Operand} {k kd:IntKind}
theorem a8A {b n cap:Nat} {e:TypeId} {i:Int} (hg:bmA l E g=some true) (ht:P.underlying t=some (.slice e)) (hs:∀ w,(sizeOf e).run P w=.ok 1 w) (hx:opE E x=.val (.slice (some ⟨b,0,none⟩) n cap))
 (hy:opE E y=.val (.int k i)) (j:Nat) (hj:i=(j:Int)) (hn:j<n) (h:LA P l wb K rest ((d,.val (.pointer (some ⟨b,j,none⟩)))::E)):LA P l wb K (⟨some d,.indexAddr t x y,ty,pos,after,g⟩::rest) E:=by
 refine d2A hg ht hs hx hy oZ oZ ?_
 rw [hj,Int.toNat_natCast,Nat.mul_one,Nat.zero_add];exact h
theorem amA {base e b n cap j:Nat} {xs:List Int} (ho:OwnI base e kd wb (.slice (some ⟨b,0,none⟩) n cap) xs) (hg:bmA l E g=some true) (ht:∀ w,(isAgg t).run P w=.ok false w) (hx:opE E x=.val (.pointer (some ⟨b,j,none⟩))) (hj:j<xs.length)
 (h:LA P l wb K rest ((d,.val (.int kd (xs.getD j 0)))::E)):LA P l wb K (⟨some d,.load t x,ty,pos,after,g⟩::rest) E:=by
 obtain ⟨b',cap',cur,hv,-,hb,-,-,-,hcur⟩:=ho.row oZ;cases hv;exact a5A hg ht hx hb (q2A hcur hj) h
theorem anA {w0:World} {e b n cap j:Nat} {c:Int} {xs:List Int} (hm:l[m]?=some ⟨none,.store t x y,ty,pos,after,none⟩) (he:Ext w0 ws) (ho:OwnI w0.heap.size e kd ws (.slice (some ⟨b,0,none⟩) n cap) xs)
 (hx:opE E x=.val (.pointer (some ⟨b,j,none⟩))) (hy:opE E y=.val (.int kd c)) (hj:j<xs.length) (hs:∀ w,(sizeOf t).run P w=.ok 1 w)
 (h:∀ w',Ext w0 w'→OwnI w0.heap.size e kd w' (.slice (some ⟨b,0,none⟩) n cap) (xs.set j c)→C w' (vals E)):MX P N l Q m ws E C:=by
 obtain ⟨b',cap',cur,hv,hb0,hb,hnc,hcm,hsz,hcur⟩:=ho.row oZ;cases hv;have e3:(cur.toList.take j++[Value.int kd c]++cur.toList.drop (j+[Value.int kd c].length)).toArray=cur.setIfInBounds j (.int kd c):=by
  apply Array.ext'
  rw [Array.toList_setIfInBounds,List.set_eq_take_append_cons_drop,if_pos (by simp;omega)];simp
 refine dzA (news:=[.int kd c]) hm hx hy hb rfl hs (by simp;omega) (by simp [Value.oneCell']) (λ w hw=>⟨_,λ t u hu=>c2A t u hu,?_⟩);rw [e3];exact h _ ((he.trans hw).setRow hb0 _) (OwnI.set hb0 (hw.block hb) hnc hcm hsz hcur j hj c)
variable {q s4:Operand}
theorem g9A {f:FuncId} {ats:Array TypeId} {fv:Operand} {v1 v2 v3:Value} (R:World→Prop) (hc:∀ w,Ext wb w→Fc P f #[v1,v2,v3] w (λ e w'=>e=.returned (.tuple #[])∧R w')) (hg:g=none) (hd:d<N.n) (hfv:opE E fv=.val (.func (.func f) #[] #[])) (hv1:opE E x=.val v1) (hv2:opE E y=.val v2) (hv3:opE E z=.val v3)
 (h:∀ w,R w→LX P N w l Q rest ((d,.val (.tuple #[]))::vals E)):LX P N wb l Q (⟨some d,.call ⟨.value fv,#[x,y,z],ats⟩,ty,pos,after,g⟩::rest) E :=
 cbA hg hd hfv hv1 hv2 hv3 (λ v w=>v=.tuple #[]∧R w) (λ w e=>(hc w e).mono λ e' w' ⟨h1,h2⟩=>⟨_,h1,rfl,h2⟩) (λ v w hv=>by obtain ⟨rfl,hw⟩:=hv;exact h w hw)
theorem faA {f:FuncId} {ats:Array TypeId} {fv:Operand} {v1 v2 v3 v4:Value} (R:World→Prop) (hc:∀ w,Ext wb w→Fc P f #[v1,v2,v3,v4] w (λ e w'=>e=.returned (.tuple #[])∧R w')) (hg:g=none) (hd:d<N.n) (hfv:opE E fv=.val (.func (.func f) #[] #[])) (hv1:opE E x=.val v1) (hv2:opE E y=.val v2) (hv3:opE E z=.val v3) (hv4:opE E q=.val v4)
 (h:∀ w,R w→LX P N w l Q rest ((d,.val (.tuple #[]))::vals E)):LX P N wb l Q (⟨some d,.call ⟨.value fv,#[x,y,z,q],ats⟩,ty,pos,after,g⟩::rest) E :=
 doA hg hd hfv hv1 hv2 hv3 hv4 (λ v w=>v=.tuple #[]∧R w) (λ w e=>(hc w e).mono λ e' w' ⟨h1,h2⟩=>⟨_,h1,rfl,h2⟩) (λ v w hv=>by obtain ⟨rfl,hw⟩:=hv;exact h w hw)
theorem dqA {c c':Code} (k:Nat) (E':Env) (h1:CX P N wb (.block k c) E (Exit.then (Cut N wb E') Q)) (h2:CX P N wb c' E' Q):CX P N wb (.seq (.block k c) c') E Q:=h9A E' h1 h2
end
open Go.Sort
theorem swp_size (D:Array Int) (i j:Nat):(swp D i j).size=D.size:=by unfold swp;simp
theorem nsA (h:Nat) (hb:h<4611686018427387904):IntKind.i64.wrap (((h:Int)-1).tdiv 2)=(((h-1) / 2:Nat):Int):=by
 cases h with
 | zero=>decide
 | succ h =>
   rw [show (((h+1:Nat):Int)-1)=(h:Int) by omega,show h+1-1=h by omega,Int.tdiv_eq_ediv_of_nonneg oZ,daA .i64 _ fZ];omega
theorem sift_go {lt:Int→Int→Bool} {hi first r c:Nat} {d:Array Int} (h:¬ 2*r+1 ≥ hi) (hc:c=if (decide (2*r+1+1<hi) && lt d[first+(2*r+1)]! d[first+(2*r+1)+1]!)=true then 2*r+2 else 2*r+1) :
 siftDown lt hi first r d=if lt d[first+r]! d[first+c]! then siftDown lt hi first c (swp d (first+r) (first+c)) else d:=by
 rw [siftDown,dif_neg h]
 by_cases hh:(decide (2*r+1+1<hi) && lt d[first+(2*r+1)]! d[first+(2*r+1)+1]!)=true
 ·rw [if_pos hh] at hc ⊢
  subst hc;have h2:2*r+2<hi:=by simp at hh;omega
  cases hl:lt d[first+r]! d[first+(2*r+2)]!
  ·simp
  ·simp [h2]
 ·rw [if_neg hh] at hc ⊢
  subst hc;cases hl:lt d[first+r]! d[first+(2*r+1)]!
  ·simp
  ·simp
theorem sift_size {lt:Int→Int→Bool} {hi first:Nat}:∀ (m r:Nat) (d:Array Int),hi-r≤m→(siftDown lt hi first r d).size=d.size
 | 0,r,d,h=>by rw [siftDown,dif_pos oZ]
 | m+1,r,d,h=>by
   by_cases hr:2*r+1 ≥ hi
   ·rw [siftDown,dif_pos hr]
   ·obtain ⟨c,hc⟩:∃ c,c=if (decide (2*r+1+1<hi) && lt d[first+(2*r+1)]! d[first+(2*r+1)+1]!)=true then 2*r+2 else 2*r+1:=⟨_,rfl⟩
    have hlt:r<c:=by rw [hc];split <;> omega
    rw [sift_go hr hc];cases hl:lt d[first+r]! d[first+c]!
    ·rfl
    ·simp only [if_true]
     rw [sift_size m c _ oZ,swp_size]
theorem scanUp_go {p:Int→Bool} {d:Array Int} {i j:Nat} (h:i≤j) (hp:p d[i]! = true):scanUp p d j i=scanUp p d j (i+1):=by
 conv=>lhs;rw [scanUp]
 rw [if_pos (by simp [h,hp])]
theorem bvA {p:Int→Bool} {d:Array Int} {i j:Nat} (h:¬ i≤j∨p d[i]! = false):scanUp p d j i=i:=by
 rw [scanUp,if_neg (by rcases h with h|h <;> simp [h])]
theorem scanDown_go {p:Int→Bool} {d:Array Int} {i j:Nat} (h:i≤j+1) (hp:p d[j+1]! = true):scanDown p d i (j+1)=scanDown p d i j:=by
 rw [scanDown,if_pos (by simp [h,hp])]
theorem bfA {p:Int→Bool} {d:Array Int} {i j:Nat} (h:¬ i≤j∨p d[j]! = false):scanDown p d i j=j:=by
 cases j with
 | zero=>rfl
 | succ j=>rw [scanDown,if_neg (by rcases h with h|h <;> simp [h])]
theorem djA (p:Int→Bool) (d:Array Int) (j:Nat):∀ (m i:Nat),j+1-i≤m→i≤scanUp p d j i∧scanUp p d j i≤max i (j+1)
 | 0,i,h1=>by rw [bvA (i:=i) (j:=j) (.inl oZ)];omega
 | m+1,i,h1=>by
   by_cases h:i≤j
   ·cases hp:p d[i]!
    ·rw [bvA (.inr hp)];omega
    ·rw [scanUp_go h hp];have:=djA p d j m (i+1) oZ;omega
   ·rw [bvA (.inl h)];omega
theorem cxA (p:Int→Bool) (d:Array Int) (i:Nat):∀ (j:Nat),(i≤scanDown p d i j+1∨scanDown p d i j=j)∧scanDown p d i j≤j
 | 0=>by rw [scanDown];omega
 | j+1=>by
   by_cases h1:i≤j+1
   ·cases hp:p d[j+1]!
    ·rw [bfA (.inr hp)];omega
    ·rw [scanDown_go h1 hp];have:=cxA p d i j;omega
   ·rw [bfA (.inl h1)];omega
theorem q9A {lt:Int→Int→Bool} {D0 D:Array Int} {lo hi pv i2 j2:Nat} (hD:D=swp D0 lo pv) (hi2:i2=scanUp (λ x=>lt x D[lo]!) D (hi-1) (lo+1)) (hj2:j2=scanDown (λ x=>!lt x D[lo]!) D i2 (hi-1)) :
 partition lt D0 lo hi pv=if i2 > j2 then (j2,true,swp D j2 lo) else ((partLoop lt lo (i2+1) (j2-1) (swp D i2 j2)).1,false,swp (partLoop lt lo (i2+1) (j2-1) (swp D i2 j2)).2 (partLoop lt lo (i2+1) (j2-1) (swp D i2 j2)).1 lo):=by
 subst hj2 hi2 hD;rfl
theorem partLoop_eq {lt:Int→Int→Bool} {d:Array Int} {a i j i2 j2:Nat} (hi2:i2=scanUp (λ x=>lt x d[a]!) d j i) (hj2:j2=scanDown (λ x=>!lt x d[a]!) d i2 j) (h1:1≤i) :
 partLoop lt a i j d=if i2 > j2 then (j2,d) else partLoop lt a (i2+1) (j2-1) (swp d i2 j2):=by
 have b1:=djA (λ x=>lt x d[a]!) d j _ i (Nat.le_refl _);have b2:=cxA (λ x=>!lt x d[a]!) d i2 j;rw [← hi2] at b1;rw [← hj2] at b2;rw [partLoop];simp only [← hi2,← hj2]
 by_cases h:i2 > j2
 ·rw [if_pos h,if_pos h]
 ·rw [if_neg h,if_neg h,dif_pos oZ]
theorem partEqLoop_eq {lt:Int→Int→Bool} {d:Array Int} {a i j i2 j2:Nat} (hi2:i2=scanUp (λ x=>!lt d[a]! x) d j i) (hj2:j2=scanDown (λ x=>lt d[a]! x) d i2 j) (h1:1≤i) :
 partEqLoop lt a i j d=if i2 > j2 then (i2,d) else partEqLoop lt a (i2+1) (j2-1) (swp d i2 j2):=by
 have b1:=djA (λ x=>!lt d[a]! x) d j _ i (Nat.le_refl _);have b2:=cxA (λ x=>lt d[a]! x) d i2 j;rw [← hi2] at b1;rw [← hj2] at b2;rw [partEqLoop];simp only [← hi2,← hj2]
 by_cases h:i2 > j2
 ·rw [if_pos h,if_pos h]
 ·rw [if_neg h,if_neg h,dif_pos oZ]
theorem czA {D:Array Int} {i:Nat}:D.toList.getD i 0=D[i]!:=by
 by_cases h:i<D.size
 ·simp [List.getD,h]
 ·simp [List.getD,h,getElem!_neg]
theorem b6A (D:Array Int) (i j:Nat):(D.toList.set i D[j]!).set j D[i]! = (swp D i j).toList:=by
 unfold swp;simp
theorem b0A (D:Array Int):D.toList.length=D.size:=Array.length_toList
end Go.LA
end
section
namespace Go.LA
variable {P:Program} {N:Nn} {wb:World} {E:Env} {Q:Exit→Act→World→Prop}
theorem cmA {id:Nat} {l:Array Oper} {m:Bool} {c1 c':Code} {ι:Type} (J:ι→Env) (I:ι→World→Prop) (h1:CX P N wb (.seq (.region id l m) c1) E (Exit.then (RndW N J I (λ _=>0) 1) Q)) (h2:∀ i w,I i w→CX P N w c' (J i) Q):CX P N wb (.seq (.seq (.region id l m) c1) c') E Q:=by
 refine ssA ?_
 unfold CX at *;intro a w s;refine Code.wp_mono ?_ (h1 a w s);intro e a' w' h;cases e with
 | normal=>obtain ⟨i,⟨h3,h4⟩,-⟩:=h;exact h2 i w' h3 a' w' h4
 | exit id=>exact h
 | ret=>exact h
 | goto l=>exact h
 | panic v=>exact h
 | outgrown=>exact h
end Go.LA
namespace Go.Sort
theorem scanSorted_go {lt:Int→Int→Bool} {d:Array Int} {b i:Nat} (h:i<b) (hp:lt d[i]! d[i-1]! = false):scanSorted lt d b i=scanSorted lt d b (i+1):=by
 rw [scanSorted,if_pos (by simp [h,hp])]
theorem scanSorted_stop {lt:Int→Int→Bool} {d:Array Int} {b i:Nat} (h:¬ i<b∨lt d[i]! d[i-1]! = true):scanSorted lt d b i=i:=by
 rw [scanSorted,if_neg (by rcases h with h|h <;> simp [h])]
theorem scanSorted_bd {lt:Int→Int→Bool} {d:Array Int} {b:Nat}:∀ (m i:Nat),b-i≤m→i≤b→i≤scanSorted lt d b i∧scanSorted lt d b i≤b
 | m,i,hm,hi=>by
   by_cases h:i<b
   ·cases hp:lt d[i]! d[i-1]!
    ·rw [scanSorted_go h hp]
     cases m with
     | zero=>omega
     | succ m=>have:=scanSorted_bd (lt:=lt) (d:=d) (b:=b) m (i+1) oZ oZ;omega
    ·rw [scanSorted_stop (.inr hp)];exact ⟨Nat.le_refl _,hi⟩
   ·rw [scanSorted_stop (.inl h)];exact ⟨Nat.le_refl _,hi⟩
theorem shiftDown_size {lt:Int→Int→Bool}:∀ (j:Nat) (d:Array Int),(shiftDown lt j d).size=d.size
 | 0,d=>rfl
 | j+1,d=>by
   rw [shiftDown];split
   ·rfl
   ·rw [shiftDown_size j,swp_size]
theorem shiftUp_go {lt:Int→Int→Bool} {d:Array Int} {b j:Nat} (h:j<b) (hp:lt d[j]! d[j-1]! = true):shiftUp lt b j d=shiftUp lt b (j+1) (swp d j (j-1)):=by
 rw [shiftUp,if_pos h,if_neg (by simp [hp])]
theorem shiftUp_stop {lt:Int→Int→Bool} {d:Array Int} {b j:Nat} (h:¬ j<b∨lt d[j]! d[j-1]! = false):shiftUp lt b j d=d:=by
 rw [shiftUp]
 rcases h with h|h
 ·rw [if_neg h]
 ·split
  ·rw [if_pos (by simp [h])]
  ·rfl
theorem shiftUp_size {lt:Int→Int→Bool} {b:Nat}:∀ (m j:Nat) (d:Array Int),b-j≤m→(shiftUp lt b j d).size=d.size
 | m,j,d,hm=>by
   by_cases h:j<b
   ·cases hp:lt d[j]! d[j-1]!
    ·rw [shiftUp_stop (.inr hp)]
    ·rw [shiftUp_go h hp]
     cases m with
     | zero=>omega
     | succ m=>rw [shiftUp_size m (j+1) _ oZ,swp_size]
   ·rw [shiftUp_stop (.inl h)]
theorem pI_end {lt:Int→Int→Bool} {a b s i i3:Nat} {d:Array Int} (hi:i3=scanSorted lt d b i) (h:i3=b):partialIns lt a b (s+1) i d=(d,true):=by
 rw [partialIns];simp only [← hi];rw [if_pos h]
theorem pI_short {lt:Int→Int→Bool} {a b s i i3:Nat} {d:Array Int} (hi:i3=scanSorted lt d b i) (h:¬ i3=b) (h2:b-a<50):partialIns lt a b (s+1) i d=(d,false):=by
 rw [partialIns];simp only [← hi];rw [if_neg h,if_pos h2]
theorem pI_go {lt:Int→Int→Bool} {a b s i i3:Nat} {d D2 D3 D4:Array Int} (hi:i3=scanSorted lt d b i) (h:¬ i3=b) (h2:¬ b-a<50) (e2:D2=swp d i3 (i3-1))
 (e3:D3=if i3-a ≥ 2 then shiftDown lt (i3-1) D2 else D2) (e4:D4=if b-i3 ≥ 2 then shiftUp lt b (i3+1) D3 else D3):partialIns lt a b (s+1) i d=partialIns lt a b s i3 D4:=by
 subst e4 e3 e2;rw [partialIns];simp only [← hi];rw [if_neg h,if_neg h2]
end Go.Sort
end
section
namespace Go.LA
open Go.RowKit
section
variable {P:Program} {l:List Oper} {M:List Nat} {N:Nn} {ws wb:World} {K:List Oper→Env→Prop} {rest:List Oper} {E:Env} {Q:Exit→Act→World→Prop} {m:Nat} {C:World→Env→Prop}
variable {d:Tmp} {ty t t':TypeId} {pos:String} {after:Array Edge} {g:Option (Nat × Bool)} {x y z:Operand} {k kd:IntKind}
theorem OwnI.keepRow {base e e' b:Nat} {kd:IntKind} {w:World} {v:Value} {xs:List Int} {cur cs:Array Value} {j:Nat × Nat} (h:OwnI base e kd w v xs) (hb:w.heap[b]?=some (.cells cur e' j)) (hne:e≠e'):OwnI base e kd (w.setRow b cs) v xs:=by
 refine ⟨h.1,?_⟩
 rcases h.2 with hn|⟨g,cap,cr,hv,hg,hx,r⟩
 ·exact .inl hn
 ·refine .inr ⟨g,cap,cr,hv,hg,?_,r⟩
  rw [setRow_other w b g cs (λ he=>?_)]
  ·exact hx
  ·subst he
   rw [hx] at hb;simp only [Option.some.injEq,Obj.cells.injEq] at hb;exact hne hb.2.1
theorem gfA {w0:World} {e e2 b n cap j base2:Nat} {c:Int} {xs ys:List Int} {kd2:IntKind} {v2:Value} (hm:l[m]?=some ⟨none,.store t x y,ty,pos,after,none⟩) (he:Ext w0 ws) (ho:OwnI w0.heap.size e kd ws (.slice (some ⟨b,0,none⟩) n cap) xs)
 (ho2:OwnI base2 e2 kd2 ws v2 ys) (hne:e2≠e)
 (hx:opE E x=.val (.pointer (some ⟨b,j,none⟩))) (hy:opE E y=.val (.int kd c)) (hj:j<xs.length) (hs:∀ w,(sizeOf t).run P w=.ok 1 w)
 (h:∀ w',Ext w0 w'→OwnI w0.heap.size e kd w' (.slice (some ⟨b,0,none⟩) n cap) (xs.set j c)→OwnI base2 e2 kd2 w' v2 ys→C w' (vals E)):MX P N l Q m ws E C:=by
 obtain ⟨b',cap',cur,hv,hb0,hb,hnc,hcm,hsz,hcur⟩:=ho.row oZ;cases hv;have e3:(cur.toList.take j++[Value.int kd c]++cur.toList.drop (j+[Value.int kd c].length)).toArray=cur.setIfInBounds j (.int kd c):=by
  apply Array.ext'
  rw [Array.toList_setIfInBounds,List.set_eq_take_append_cons_drop,if_pos (by simp;omega)];simp
 refine dzA (news:=[.int kd c]) hm hx hy hb rfl hs (by simp;omega) (by simp [Value.oneCell']) (λ w hw=>⟨_,λ t u hu=>c2A t u hu,?_⟩);rw [e3];exact h _ ((he.trans hw).setRow hb0 _) (OwnI.set hb0 (hw.block hb) hnc hcm hsz hcur j hj c) ((ho2.ext hw).keepRow (hw.block hb) hne)
theorem c2B {s:ByteArray} {i:Int} (hg:bmA l E g=some true) (ht:P.underlying t=some .string) (hx:opE E x=.val (.string s)) (hy:opE E y=.val (.int k i)) (h0:0≤i) (h1:i<256)
 (hs:∀ j,j<256→s[j]?=some (UInt8.ofNat (Go.Sort.bitsLen j))) (h:∀ v:Nat,v=Go.Sort.bitsLen i.toNat→v≤8→LA P l wb K rest ((d,.val (.int .u8 v))::E)):LA P l wb K (⟨some d,.index t x y,ty,pos,after,g⟩::rest) E:=by
 obtain ⟨j,rfl⟩:∃ j:Nat,i=j:=⟨i.toNat,by omega⟩;have hb:Go.Sort.bitsLen j≤8:=(Go.Sort.bitsLen_le_iff j 8).2 oZ;refine bhA _ hg (bwA λ a w he hh=>?_) (h (Go.Sort.bitsLen j) (by simp) hb);have e1:=hh x (by simp [Op.operands]);have e2:=hh y (by simp [Op.operands]);rw [hx] at e1;rw [hy] at e2;simp only [AD.ok] at e1 e2;have hsj:=hs j oZ;have hu:(UInt8.ofNat (Go.Sort.bitsLen j)).toNat=Go.Sort.bitsLen j:=by simp;omega
 have hrun:(Instr.index t (.string s) (.int k (j:Int))).run P w=.ok (.int .u8 (Go.Sort.bitsLen j:Nat)) w:=by
  simp [Instr.index,run_underlying ht,asIntOf,hsj,hu]
 simp only [execOp,e1,e2,Sem.run_bind,hrun,Result.andThen_ok,Sem.run_pure]
theorem mvA {n m:Int} (hg:bmA l E g=some true) (hx:opE E x=.val (.int .u64 n)) (hy:opE E y=.val (.int .u64 m)) (h:∀ c:Nat,c<18446744073709551616→LA P l wb K rest ((d,.val (.int .u64 (c:Int)))::E))
 (hn:0≤n∧n<18446744073709551616) (hm:0≤m∧m<18446744073709551616):LA P l wb K (⟨some d,.binOp .xor t x y t',ty,pos,after,g⟩::rest) E:=by
 obtain ⟨n,rfl⟩:∃ j:Nat,n=j:=⟨n.toNat,by omega⟩;obtain ⟨m,rfl⟩:∃ j:Nat,m=j:=⟨m.toNat,by omega⟩;refine clA (.inr (.inr (.inl rfl))) hg hx hy ?_
 rw [bits_xor_u64_nat n m oZ oZ];exact h _ (Nat.xor_lt_two_pow (n:=64) oZ oZ)
theorem sqA {n:Int} {m:Nat} (hg:bmA l E g=some true) (hx:opE E x=.val (.int .u64 n)) (hy:opE E y=.val (.int .u64 (m:Int))) (h:∀ c:Nat,c≤m→LA P l wb K rest ((d,.val (.int .u64 (c:Int)))::E))
 (hn:0≤n∧n<18446744073709551616) (hm:m<18446744073709551616):LA P l wb K (⟨some d,.binOp .and t x y t',ty,pos,after,g⟩::rest) E:=by
 obtain ⟨n,rfl⟩:∃ j:Nat,n=j:=⟨n.toNat,by omega⟩;refine clA (.inl rfl) hg hx hy ?_
 rw [bits_and_u64_nat n m oZ oZ];exact h _ Nat.and_le_right
end
end Go.LA
namespace Go.Sort
theorem bitsLen_div {x k:Nat} (h:2 ^ k≤x):bitsLen x=k+bitsLen (x / 2 ^ k):=by
 have hp:0<2 ^ k:=Nat.two_pow_pos k;have h0:x≠0:=oZ;have h1:x / 2 ^ k≠0:=by have:=(Nat.le_div_iff_mul_le hp).2 (by omega:1*2 ^ k≤x);omega
 apply Nat.le_antisymm
 ·rw [bitsLen_le_iff,Nat.pow_add,Nat.mul_comm]
  exact (Nat.div_lt_iff_lt_mul hp).1 (lt_two_pow_bitsLen _)
 ·have hk:k≤bitsLen x:=by
   rcases Nat.lt_or_ge (bitsLen x) k with h2|h2
   ·have:=lt_two_pow_bitsLen x
    have:=Nat.pow_le_pow_right (n:=2) oZ (Nat.le_of_lt h2);omega
   ·exact h2
  have:bitsLen (x / 2 ^ k)≤bitsLen x-k:=by
   rw [bitsLen_le_iff,Nat.div_lt_iff_lt_mul hp,← Nat.pow_add,Nat.sub_add_cancel hk];exact lt_two_pow_bitsLen x
  omega
end Go.Sort
end
section
namespace Go.LA
open Go.RowKit
section
variable {P:Program} {l:List Oper} {M:List Nat} {N:Nn} {ws wb:World} {K:List Oper→Env→Prop} {rest:List Oper} {E:Env} {Q:Exit→Act→World→Prop} {m:Nat} {C:World→Env→Prop}
variable {d:Tmp} {ty t t':TypeId} {pos:String} {after:Array Edge} {g:Option (Nat × Bool)} {x y z:Operand} {k kd:IntKind}
theorem saA {w0:World} {e e2 b n cap j base2:Nat} {c:Int} {xs ys:List Int} {kd2:IntKind} {v2:Value} (hg:g=none) (he:Ext w0 wb) (ho:OwnI w0.heap.size e kd wb (.slice (some ⟨b,0,none⟩) n cap) xs)
 (ho2:OwnI base2 e2 kd2 wb v2 ys) (hne:e2≠e)
 (hx:opE E x=.val (.pointer (some ⟨b,j,none⟩))) (hy:opE E y=.val (.int kd c)) (hj:j<xs.length) (hs:∀ w,(sizeOf t).run P w=.ok 1 w)
 (h:∀ w',Ext w0 w'→OwnI w0.heap.size e kd w' (.slice (some ⟨b,0,none⟩) n cap) (xs.set j c)→OwnI base2 e2 kd2 w' v2 ys→LX P N w' l Q rest (vals E)):LX P N wb l Q (⟨none,.store t x y,ty,pos,after,g⟩::rest) E:=by
 obtain ⟨b',cap',cur,hv,hb0,hb,hnc,hcm,hsz,hcur⟩:=ho.row oZ;cases hv;exact d1A hg hx hy hb hs oZ rfl rfl (λ w hw=>h _ ((he.trans hw).setRow hb0 _) (OwnI.set hb0 (hw.block hb) hnc hcm hsz hcur j hj c) ((ho2.ext hw).keepRow (hw.block hb) hne))
theorem ctA {c c':Value} (hg:bmA l E g=some true) (hx:opE E x=.val (.tuple #[c,c'])) (h:LA P l wb K rest ((d,.val c)::E)):LA P l wb K (⟨some d,.extract x 0,ty,pos,after,g⟩::rest) E :=
 bhA _ hg (bwA λ a w he hh=>by
  have e1:=hh x (by simp [Op.operands]);rw [hx] at e1;simp only [AD.ok] at e1;simp [execOp,e1,Instr.extract]) h
theorem csA {c c':Value} (hg:bmA l E g=some true) (hx:opE E x=.val (.tuple #[c,c'])) (h:LA P l wb K rest ((d,.val c')::E)):LA P l wb K (⟨some d,.extract x 1,ty,pos,after,g⟩::rest) E :=
 bhA _ hg (bwA λ a w he hh=>by
  have e1:=hh x (by simp [Op.operands]);rw [hx] at e1;simp only [AD.ok] at e1;simp [execOp,e1,Instr.extract]) h
theorem sbA {e:TypeId} {z0:Value} (hg:g=none) (hd:d<N.n) (hz:∀ w,(zeroValue e).run P w=.ok z0 w)
 (h:∀ b w',Ext wb w'→wb.heap.size≤b→w'.heap[b]?=some (.cells z0.cells e (0,0))→LX P N w' l Q rest ((d,.val (.pointer (some ⟨b,0,none⟩)))::E)) :
 LX P N wb l Q (⟨some d,.alloc e,ty,pos,after,g⟩::rest) E:=by
 unfold LX;intro a w st;have ra:(Instr.alloc e true (.tuple #[])).run P w=.ok (.pointer (some ⟨w.heap.size,0,none⟩)) (w.alloc (.cells z0.cells e)):=by
  simp only [Instr.alloc,Sem.run_bind,hz,Result.andThen_ok];rfl
 refine wpList_plain hg λ Kc hK=>?_
 unfold Oper.wp;simp only [execOp,Sem.run_bind,ra,Result.andThen_ok,Sem.run_pure,Oper.upon];refine hK _ _ ?_
 have st1:St N wb ((d,.val (.pointer (some ⟨w.heap.size,0,none⟩)))::E) (a.put (some d) (.pointer (some ⟨w.heap.size,0,none⟩))) (w.alloc (.cells z0.cells e)) :=
  st.push (Ext.alloc _ _) (dst:=some d) (r:=.val _) (λ d' hd'=>by cases hd';exact hd) (.inr rfl)
 have h2:=h w.heap.size (w.alloc (.cells z0.cells e)) (st.ext.trans (Ext.alloc _ _)) st.ext.size (heap_alloc_new w _);unfold LX at h2;exact h2 _ _ ⟨st1.sz,st1.df,Ext.refl _,st1.sat⟩
theorem hzA {f:FuncId} {ats:Array TypeId} {fv:Operand} {q q5:Operand} {v1 v2 v3 v4 v5:Value} (hg:g=none) (hd:d<N.n) (hfv:opE E fv=.val (.func (.func f) #[] #[])) (hv1:opE E x=.val v1) (hv2:opE E y=.val v2) (hv3:opE E z=.val v3) (hv4:opE E q=.val v4) (hv5:opE E q5=.val v5) (R:Value→World→Prop)
 (hc:∀ w,Ext wb w→Fc P f #[v1,v2,v3,v4,v5] w (λ e w'=>∃ v,e=.returned v∧R v w')) (h:∀ v w,R v w→LX P N w l Q rest ((d,.val v)::vals E)) :
 LX P N wb l Q (⟨some d,.call ⟨.value fv,#[x,y,z,q,q5],ats⟩,ty,pos,after,g⟩::rest) E:=by
 unfold LX;intro a w st;have h0:=st.opd fv;rw [hfv] at h0;simp only [AD.ok] at h0;have ev1:=st.opd x;rw [hv1] at ev1;simp only [AD.ok] at ev1;have ev2:=st.opd y;rw [hv2] at ev2;simp only [AD.ok] at ev2;have ev3:=st.opd z;rw [hv3] at ev3;simp only [AD.ok] at ev3;have ev4:=st.opd q;rw [hv4] at ev4;simp only [AD.ok] at ev4;have ev5:=st.opd q5;rw [hv5] at ev5;simp only [AD.ok] at ev5;have hcc:=hc w st.ext;refine wpList_plain hg λ Kc hK=>?_
 unfold Oper.wp;rw [cfA h0 (Fc.run hcc _ _)];simp only [Oper.upon,List.map_toArray,List.map_cons,List.map_nil,ev1,ev2,ev3,ev4,ev5];refine hcc.calls.mono ?_
 rintro e w' ⟨v,rfl,hv⟩;refine hK _ _ ?_
 have h2:=h v w' hv;unfold LX at h2;exact h2 _ _ ((st.vals (w':=w')).push (Ext.refl _) (dst:=some d) (r:=.val v) (λ d' hd'=>by cases hd';exact hd) (.inr rfl))
end
end Go.LA
end
section
namespace Go.LA
open Go.RowKit Go.ArrP
theorem ewA {α:Type} {d:α} {a b:List α} {n:Nat} (h:n<a.length):(a++b).getD n d=a.getD n d:=by
 rw [List.getD_eq_getElem?_getD,List.getD_eq_getElem?_getD,List.getElem?_append_left h]
theorem dmA {α:Type} {d:α} {a b:List α} {n:Nat} (h:a.length≤n):(a++b).getD n d=b.getD (n-a.length) d:=by
 rw [List.getD_eq_getElem?_getD,List.getD_eq_getElem?_getD,List.getElem?_append_right h]
noncomputable def TOP:Nat:=Classical.choose (⟨4294967296,rfl⟩:∃ n:Nat,n=4294967296)
theorem crA:TOP=4294967296:=Classical.choose_spec (⟨4294967296,rfl⟩:∃ n:Nat,n=4294967296)
def blk (p:Nat→Bool) (k i:Nat):Bool:=decide (i<65536) && p (k*65536+i)
theorem izA {b c:Bool} (h:b=true):(b && c)=c:=by rw [h];rfl
theorem j0A {b c:Bool} (h:b=false):(b && c)=false:=by rw [h];rfl
theorem coA {p:Nat→Bool} {k i:Nat} (h:i<65536):blk p k i=p (k*65536+i):=izA (decide_eq_true h)
theorem dnA {p:Nat→Bool} {k i:Nat} (h:¬ i<65536):blk p k i=false:=j0A (decide_eq_false h)
noncomputable def cdec (P:Prop):Bool:=@decide P (Classical.propDecidable P)
theorem cdec_iff {P:Prop}:cdec P=true↔P:=@decide_eq_true_iff P (Classical.propDecidable P)
noncomputable def ne (p:Nat→Bool) (k:Nat):Bool:=cdec (∃ i,i<65536∧p (k*65536+i)=true)
theorem ne_iff {p:Nat→Bool} {k:Nat}:ne p k=true↔∃ i,i<65536∧p (k*65536+i)=true:=cdec_iff
theorem qmA {p:Nat→Bool} {k:Nat} (h:ne p k=false) {i:Nat} (hi:i<65536):p (k*65536+i)=false:=by
 cases hp:p (k*65536+i)
 ·rfl
 ·rw [ne_iff.2 ⟨i,hi,hp⟩] at h;cases h
theorem ne_cnt {p:Nat→Bool} {k:Nat}:ne p k=true↔0<cnt (blk p k) 65536:=by
 constructor
 ·intro h
  obtain ⟨i,hi,hp⟩:=ne_iff.1 h;have h1:cnt (blk p k) (i+1)=cnt (blk p k) i+1:=by simp only [cnt,coA hi,hp,if_true]
  have h2:=cnt_mono (blk p k) (m:=i+1) 65536 oZ;omega
 ·intro h
  cases hn:ne p k
  ·rw [dyA 65536 (λ i hi=>by rw [coA hi];exact qmA hn hi)] at h;omega
  ·rfl
theorem hyA {p:Nat→Bool} {k:Nat} (h:ne p k=false):blk p k=λ _=>false:=by
 funext i
 by_cases hi:i<65536
 ·rw [coA hi];exact qmA h hi
 ·exact dnA hi
theorem rpA (p:Nat→Bool) (B:Nat):∀ j,cnt p (B+j)=cnt p B+cnt (λ i=>p (B+i)) j
 | 0=>rfl
 | j+1=>by
   have ih:=rpA p B j;show cnt p (B+j)+_=cnt p B+(cnt (λ i=>p (B+i)) j+_);rw [ih,Nat.add_assoc];rfl
theorem ksA (p:Nat→Bool) (k:Nat) (j:Nat) (h:j≤65536):cnt p (k*65536+j)=cnt p (k*65536)+cnt (blk p k) j:=by
 rw [rpA,cnA (p:=blk p k) j (λ i hi=>coA (p:=p) (k:=k) oZ)]
theorem g0A {p:Nat→Bool} {a:Nat}:∀ b,a≤b→(∀ x,a≤x→x<b→p x=false)→cnt p b=cnt p a
 | 0,h,_=>by obtain rfl:a=0:=oZ
             rfl
 | b+1,h,hp=>by
   by_cases e:a=b+1
   ·subst e;rfl
   ·simp only [cnt,g0A b oZ (λ x h1 h2=>hp x h1 oZ),hp b oZ oZ];rfl
noncomputable def nk (p:Nat→Bool):Nat:=cnt (ne p) 65536
noncomputable def b9A (p:Nat→Bool):List Int:=adA (ne p) 65536
noncomputable def kp (p:Nat→Bool) (i:Nat):Nat:=if i<nk p then ((b9A p).getD i 0).toNat else 65536
theorem fcA (p:Nat→Bool):nk p≤65536:=cnt_le _ _
theorem brA (p:Nat→Bool):(b9A p).length=nk p:=baA _ _
theorem ilA (p:Nat→Bool):Inc (b9A p):=bjA _ _
theorem r1A (p:Nat→Bool):Low (b9A p):=chA _
theorem gnA {p:Nat→Bool} {i:Nat} (h:i<nk p):kp p i<65536∧ne p (kp p i)=true∧cnt (ne p) (kp p i)=i∧(b9A p).getD i 0=((kp p i:Nat):Int):=by
 obtain ⟨j,h1,h2,h3,h4⟩:=h0A (ne p) h;have e:kp p i=j:=by unfold kp;rw [if_pos h];unfold b9A;rw [h4];rfl
 rw [e];exact ⟨h1,h2,h3,h4⟩
theorem qzA {p:Nat→Bool} {i:Nat} (h:nk p≤i):kp p i=65536:=by unfold kp;rw [if_neg oZ]
theorem kp_le (p:Nat→Bool) (i:Nat):kp p i≤65536:=by
 by_cases h:i<nk p
 ·have:=(gnA h).1;omega
 ·rw [qzA oZ];exact Nat.le_refl _
theorem nqA {p:Nat→Bool} {i:Nat} (h:i≤nk p):cnt (ne p) (kp p i)=i:=by
 by_cases e:i<nk p
 ·exact (gnA e).2.2.1
 ·obtain rfl:i=nk p:=oZ
  rw [qzA (Nat.le_refl _)];rfl
theorem bhB {p:Nat→Bool} {i:Nat} (h:i<nk p) {k:Nat} (h1:kp p i<k) (h2:k<kp p (i+1)):ne p k=false:=by
 cases hk:ne p k
 ·rfl
 ·have a1:=gnA h
  have a2:=nqA (p:=p) (i:=i+1) h;have c1:cnt (ne p) (kp p i+1)=i+1:=by simp only [cnt,a1.2.1,a1.2.2.1,if_true]
  have c2:=cnt_mono (ne p) (m:=kp p i+1) k oZ;have c3:cnt (ne p) (k+1)=cnt (ne p) k+1:=by simp only [cnt,hk,if_true]
  have c4:=cnt_mono (ne p) (m:=k+1) (kp p (i+1)) oZ;omega
theorem ueA {p:Nat→Bool} {k:Nat} (h:k<kp p 0):ne p k=false:=by
 cases hk:ne p k
 ·rfl
 ·have a2:=nqA (p:=p) (i:=0) (Nat.zero_le _)
  have c3:cnt (ne p) (k+1)=cnt (ne p) k+1:=by simp only [cnt,hk,if_true]
  have c4:=cnt_mono (ne p) (m:=k+1) (kp p 0) oZ;omega
theorem gyA {p:Nat→Bool} {i:Nat} (h:i<nk p):kp p i<kp p (i+1):=by
 have a1:=gnA h;have a2:=nqA (p:=p) (i:=i+1) h
 rcases Nat.lt_or_ge (kp p i) (kp p (i+1)) with h1|h1
 ·exact h1
 ·have:=cnt_mono (ne p) (m:=kp p (i+1)) (kp p i) h1
  omega
theorem udA {p:Nat→Bool} {k:Nat} (hk:k<65536) (h:ne p k=true):cnt (ne p) k<nk p∧kp p (cnt (ne p) k)=k:=by
 have c3:cnt (ne p) (k+1)=cnt (ne p) k+1:=by simp only [cnt,h,if_true]
 have c4:=cnt_mono (ne p) (m:=k+1) 65536 oZ;have h1:cnt (ne p) k<nk p:=by unfold nk;omega
 refine ⟨h1,?_⟩;have:=emA (ne p) 65536 k hk h;unfold kp;rw [if_pos h1];unfold b9A;rw [this];rfl
theorem nkA {p:Nat→Bool} {x:Nat} (h:ne p (x / 65536)=false):p x=false:=by
 have:=qmA h (Nat.mod_lt x (by omega:0<65536));rwa [show x / 65536*65536+x % 65536=x by omega] at this
theorem rfA {p:Nat→Bool} {i:Nat} (h:i<nk p) {x:Nat} (h1:(kp p i+1)*65536≤x) (h2:x<kp p (i+1)*65536):p x=false :=
 nkA (bhB h oZ oZ)
theorem nwA {p:Nat→Bool} {x:Nat} (h:x<kp p 0*65536):p x=false:=nkA (ueA oZ)
theorem htA (p:Nat→Bool):cnt p (kp p 0*65536)=0:=dyA _ (λ i hi=>nwA hi)
theorem r3A {p:Nat→Bool} {i:Nat} (h:i<nk p):cnt p (kp p (i+1)*65536)=cnt p (kp p i*65536)+cnt (blk p (kp p i)) 65536:=by
 rw [g0A (p:=p) (a:=(kp p i+1)*65536) (kp p (i+1)*65536) (Nat.mul_le_mul_right _ (gyA h)) (λ x h1 h2=>rfA h h1 h2)];have:=ksA p (kp p i) 65536 (Nat.le_refl _);rw [show (kp p i+1)*65536=kp p i*65536+65536 by omega];exact this
theorem kfA (p:Nat→Bool):kp p (nk p)*65536=TOP:=by rw [qzA (Nat.le_refl _),crA]
theorem e9A (k:Nat):(k+1)*65536=k*65536+65536:=Nat.succ_mul k 65536
theorem xwA {p:Nat→Bool} {i x X:Nat} (h:i<nk p) (h1:X*65536≤x) (h2:kp p i<X):cnt p (min x (kp p (i+1)*65536))=cnt p (min x (kp p i*65536))+cnt (blk p (kp p i)) 65536:=by
 have hn:=gyA h;have hs:=e9A (kp p i);have hm1:(kp p i+1)*65536≤X*65536:=Nat.mul_le_mul_right _ h2;have hm2:(kp p i+1)*65536≤kp p (i+1)*65536:=Nat.mul_le_mul_right _ hn;have e1:min x (kp p i*65536)=kp p i*65536:=Nat.min_eq_right (Nat.le_trans (by rw [hs];exact Nat.le_add_right _ _) (Nat.le_trans hm1 h1));have e2:(kp p i+1)*65536≤min x (kp p (i+1)*65536):=Nat.le_min.2 ⟨Nat.le_trans hm1 h1,hm2⟩;rw [g0A (p:=p) _ e2 (λ y h3 h4=>rfA h h3 (Nat.lt_of_lt_of_le h4 (Nat.min_le_right _ _))),e1,hs];exact ksA _ _ _ (Nat.le_refl _)
theorem xyA {p:Nat→Bool} {i x R:Nat} (h:i<nk p) (h1:x=kp p i*65536+R) (h2:R<65536):cnt p (min x (kp p (i+1)*65536))=cnt p (min x (kp p i*65536))+cnt (blk p (kp p i)) R:=by
 have hn:=gyA h;rw [show min x (kp p (i+1)*65536)=kp p i*65536+R by omega,show min x (kp p i*65536)=kp p i*65536 by omega];exact ksA _ _ _ oZ
theorem xxA {p:Nat→Bool} {i x X:Nat} (h:i<nk p) (h1:x<(X+1)*65536) (h2:X<kp p i):cnt p (min x (kp p (i+1)*65536))=cnt p (min x (kp p i*65536)):=by
 have hn:=gyA h;rw [show min x (kp p (i+1)*65536)=x by omega,show min x (kp p i*65536)=x by omega]
theorem axB (p:Nat→Bool) (x:Nat):cnt p (min x (kp p 0*65536))=0:=by
 have:=cnt_mono p (m:=min x (kp p 0*65536)) (kp p 0*65536) (Nat.min_le_right _ _);rw [htA] at this;exact Nat.le_zero.1 this
theorem avB (p:Nat→Bool) {x:Nat} (h:x≤TOP):cnt p (min x (kp p (nk p)*65536))=cnt p x:=by
 rw [kfA,Nat.min_eq_left h]
def paA (p:Nat→Bool) (T:Nat) (k:Int):Int × Bool:=if 0≤k∧k<cnt p T then ((adA p T).getD k.toNat 0,true) else (0,false)
theorem jvA {p:Nat→Bool} {T:Nat} {k:Int} (h:k<0∨(cnt p T:Int)≤k):paA p T k=(0,false):=by unfold paA;rw [if_neg oZ]
theorem pvA {p:Nat→Bool} {T x:Nat} (h:x<T) (hp:p x=true) {k:Int} (hk:k=cnt p x):paA p T k=((x:Int),true):=by
 have h1:cnt p (x+1)=cnt p x+1:=by simp only [cnt,hp,if_true]
 have h2:=cnt_mono p (m:=x+1) T h;unfold paA;rw [if_pos ⟨by omega,by omega⟩,hk,Int.toNat_natCast,emA p T x h hp]
theorem tcA {p:Nat→Bool} {i r:Nat} (h:i<nk p) (hr:r<65536) (hp:blk p (kp p i) r=true) {k:Int} (hk:k=cnt p (kp p i*65536)+cnt (blk p (kp p i)) r):paA p TOP k=((kp p i:Int)*65536+r,true):=by
 have hkp:=(gnA h).1;have hs:=e9A (kp p i);have hm:(kp p i+1)*65536≤65536*65536:=Nat.mul_le_mul_right _ hkp;rw [pvA (x:=kp p i*65536+r) (by rw [crA];omega) ((coA hr).symm.trans hp) (by rw [hk,ksA _ _ _ oZ,Int.natCast_add])];rfl
def upd (p:Nat→Bool) (k:Nat) (q:Nat→Bool) (x:Nat):Bool:=if x / 65536=k then q (x % 65536) else p x
theorem jsA (p:Nat→Bool) (k:Nat) {q:Nat→Bool} (hq:∀ i,65536≤i→q i=false):blk (upd p k q) k=q:=by
 funext i
 by_cases hi:i<65536
 ·rw [coA hi];unfold upd;rw [if_pos oZ,show (k*65536+i) % 65536=i by omega]
 ·rw [dnA hi,hq i oZ]
theorem giA (p:Nat→Bool) {k k':Nat} (q:Nat→Bool) (h:k'≠k):blk (upd p k q) k'=blk p k':=by
 funext i
 by_cases hi:i<65536
 ·rw [coA hi,coA hi];unfold upd;rw [if_neg oZ]
 ·rw [dnA hi,dnA hi]
theorem vaA (p:Nat→Bool) (k:Nat):upd p k (blk p k)=p:=by
 funext x;unfold upd
 split
 ·rename_i h;rw [coA (Nat.mod_lt _ oZ)];congr 1;omega
 ·rfl
theorem bbB {p q:Nat→Bool} {k k':Nat} (h:blk p k=blk q k'):ne p k=ne q k':=by
 rw [Bool.eq_iff_iff,ne_cnt,ne_cnt,h]
theorem upd_ne (p:Nat→Bool) {k:Nat} {q:Nat→Bool} (hq:∀ i,65536≤i→q i=false) (hn:0<cnt q 65536) (j:Nat):ne (upd p k q) j=(ne p j || decide (j=k)):=by
 by_cases e:j=k
 ·subst e
  rw [ne_cnt.2 (by rw [jsA p j hq];exact hn)];simp
 ·rw [bbB (giA p q e)];simp [e]
theorem n1A (p:Nat→Bool) {k:Nat} {q:Nat→Bool} (hq:∀ i,65536≤i→q i=false) (hn:0<cnt q 65536) (h:ne p k=true):b9A (upd p k q)=b9A p:=by
 unfold b9A;exact cyA _ (λ j _=>by
  rw [upd_ne p hq hn]
  by_cases e:j=k
  ·subst e;rw [h];rfl
  ·simp [e])
theorem i2A (p:Nat→Bool) {k:Nat} (hk:k<65536) {q:Nat→Bool} (hq:∀ i,65536≤i→q i=false) (hn:0<cnt q 65536) (h:ne p k=false) :
 b9A (upd p k q)=(b9A p).take (cnt (ne p) k)++[(k:Int)]++(b9A p).drop (cnt (ne p) k):=by
 have hf:dcA (b9A p) (k:Int)=false:=by
  rw [exA _ (ilA p)];have:=c4A (ne p) hk;unfold buA at this;exact this.trans h
 have hb:bsS (b9A p) (k:Int)=cnt (ne p) k:=ixA (ne p) k oZ;have hw:=t4A (x:=(k:Int)) (ilA p) (r1A p) oZ oZ;unfold ooA at hw;rw [hf] at hw;simp only [Bool.false_eq_true,if_false,hb] at hw;rw [hw];unfold b9A;exact cyA _ (λ j hj=>by
  rw [upd_ne p hq hn];unfold m3A;rw [c4A _ hj];simp)
theorem o7A {p q:Nat→Bool} {k:Nat} (h:∀ j,q j=(p j || decide (j=k))) (hk:p k=false):∀ n,cnt q n=cnt p n+if k<n then 1 else 0
 | 0=>rfl
 | n+1=>by
   simp only [cnt,o7A h hk n,h n]
   by_cases e:n=k
   ·subst e;simp [hk]
   ·simp only [e,decide_false,Bool.or_false]
    by_cases e2:k<n
    ·have e3:k<n+1:=oZ
     simp only [e2,e3,if_true];omega
    ·have e3:¬ k<n+1:=oZ
     simp only [e2,e3,if_false];omega
theorem plA (p:Nat→Bool) {k:Nat} (hk:k<65536) {q:Nat→Bool} (hq:∀ i,65536≤i→q i=false) (hn:0<cnt q 65536) (h:ne p k=false):nk (upd p k q)=nk p+1:=by
 unfold nk;rw [o7A (upd_ne p hq hn) h,if_pos hk]
theorem w6A (p:Nat→Bool) {k:Nat} (hk:k<65536) {q:Nat→Bool} (hq:∀ i,65536≤i→q i=false) (hn:0<cnt q 65536) (h:ne p k=false) {i:Nat} (hi:i<nk p+1) :
 kp (upd p k q) i=if i<cnt (ne p) k then kp p i else if i=cnt (ne p) k then k else kp p (i-1):=by
 have hc:cnt (ne p) k≤nk p:=cnt_mono _ _ oZ;have hl:=brA p;have hu:kp (upd p k q) i=((b9A (upd p k q)).getD i 0).toNat:=by unfold kp;rw [if_pos (by rw [plA p hk hq hn h];exact hi)]
 rw [hu,i2A p hk hq hn h]
 split
 ·rename_i h1
  rw [List.append_assoc,ewA (by rw [List.length_take];omega)];have:((b9A p).take (cnt (ne p) k)).getD i 0=(b9A p).getD i 0:=by
   rw [List.getD_eq_getElem?_getD,List.getD_eq_getElem?_getD,List.getElem?_take_of_lt h1]
  rw [this];unfold kp;rw [if_pos oZ]
 ·rename_i h1
  have hlen:((b9A p).take (cnt (ne p) k)++[(k:Int)]).length=cnt (ne p) k+1:=by rw [List.length_append,List.length_take,List.length_singleton];omega
  split
  ·rename_i h2
   rw [ewA oZ,dmA (by rw [List.length_take];omega),List.length_take,show i-min (cnt (ne p) k) (b9A p).length=0 by omega];rfl
  ·rename_i h2
   rw [dmA oZ,hlen,List.getD_eq_getElem?_getD,List.getElem?_drop,← List.getD_eq_getElem?_getD,show cnt (ne p) k+(i-(cnt (ne p) k+1))=i-1 by omega];unfold kp;rw [if_pos oZ]
theorem x5A (p:Nat→Bool) {k:Nat} {q:Nat→Bool} (hq:∀ i,65536≤i→q i=false) (hn:0<cnt q 65536) (h:ne p k=true) (i:Nat):kp (upd p k q) i=kp p i:=by
 have e:=n1A p hq hn h;have e2:nk (upd p k q)=nk p:=by rw [← brA,← brA,e]
 unfold kp;rw [e,e2]
abbrev Sp:=Int × Int
def spL (p:Nat→Bool) (T:Nat):List Sp:=(opn p T).map (λ x=>(x.1,x.1+x.2+1))
theorem k1A (p:Nat→Bool):∀ T,∀ x ∈ rnC p T,x.1+x.2+1<T
 | 0,x,h=>by cases h
 | T+1,x,h=>by
   simp only [rnC,List.mem_append] at h
   rcases h with h|h
   ·have:=k1A p T x h;omega
   ·split at h
    ·simp only [List.mem_singleton] at h;subst h;dsimp only;omega
    ·cases h
theorem deA {p:Nat→Bool} {a b:Nat} (hab:a≤b) (hp:∀ x,a≤x→x<b→p x=false):spL p b=spL p a:=by
 unfold spL;rw [fyA b hab hp]
theorem e8A (p:Nat→Bool):spL p 0=[]:=rfl
theorem ktA {p:Nat→Bool} {a b:Nat} (hab:a<b) (hp:∀ x,a≤x→x<b→p x=true):bel p b=true:=by
 cases b with
 | zero=>omega
 | succ b=>exact hp b oZ oZ
theorem klA {p:Nat→Bool} {a:Nat}:∀ b,a<b→(∀ x,a≤x→x<b→p x=true)→rnC p b=rnC p a∧frm p b=if bel p a then frm p a else a
 | 0,h,_=>by omega
 | b+1,h,hp=>by
   have hb:=hp b oZ oZ
   by_cases e:a=b
   ·subst e
    simp only [rnC,frm,hb,Bool.not_true,Bool.false_and,Bool.true_and,Bool.false_eq_true,if_false,List.append_nil];cases bel p a <;> simp
   ·obtain ⟨i1,i2⟩:=klA b oZ (λ x h1 h2=>hp x h1 oZ)
    have hbb:=ktA (show a<b by omega) (λ x h1 h2=>hp x h1 oZ);simp only [rnC,frm,hb,hbb,Bool.not_true,Bool.false_and,Bool.and_false,Bool.false_eq_true,if_false,List.append_nil,i1,i2,and_self]
theorem pqA {p:Nat→Bool} {a:Nat} (h:bel p a=true):spL p a=(rnC p a).map (λ x=>(x.1,x.1+x.2+1))++[((frm p a:Int),(a:Int))]:=by
 unfold spL;rw [euA h,List.map_append,List.map_singleton];have:(frm p a:Int)+((a:Int)-frm p a-1)+1=a:=oZ;rw [this]
theorem prA {p:Nat→Bool} {a:Nat} (h:bel p a=false):spL p a=(rnC p a).map (λ x=>(x.1,x.1+x.2+1)):=by
 unfold spL;rw [fkA h]
theorem psA {p:Nat→Bool} {a b:Nat} (hab:a<b) (hp:∀ x,a≤x→x<b→p x=true) (h:bel p a=false):spL p b=spL p a++[((a:Int),(b:Int))]:=by
 obtain ⟨i1,i2⟩:=klA b hab hp;rw [pqA (ktA hab hp),prA h,i1,i2,h];rfl
theorem ptA {p:Nat→Bool} {a b:Nat} (hab:a<b) (hp:∀ x,a≤x→x<b→p x=true) (h:bel p a=true) :
 0<(spL p a).length∧spL p b=(spL p a).set ((spL p a).length-1) (((spL p a).getD ((spL p a).length-1) (0,0)).1,(b:Int)):=by
 obtain ⟨i1,i2⟩:=klA b hab hp;rw [pqA (ktA hab hp),pqA h,i1,i2,h];refine ⟨by simp,?_⟩;rw [List.length_append,List.length_singleton,Nat.add_sub_cancel,dmA (Nat.le_refl _),Nat.sub_self,List.set_append_right _ _ (Nat.le_refl _),Nat.sub_self];rfl
theorem sp_bel {p:Nat→Bool} {a:Nat}:bel p a=true↔0<(spL p a).length∧((spL p a).getD ((spL p a).length-1) (0,0)).2=a:=by
 constructor
 ·intro h
  rw [pqA h];refine ⟨by simp,?_⟩;rw [List.length_append,List.length_singleton,Nat.add_sub_cancel,dmA (Nat.le_refl _),Nat.sub_self];rfl
 ·rintro ⟨h1,h2⟩
  cases h:bel p a
  ·rw [prA h] at h1 h2
   have hm:((rnC p a).map (λ x=>(x.1,x.1+x.2+1))).getD (((rnC p a).map (λ x:Rn=>(x.1,x.1+x.2+1))).length-1) (0,0) ∈ (rnC p a).map (λ x=>(x.1,x.1+x.2+1)):=by
    rw [List.getD_eq_getElem?_getD,List.getElem?_eq_getElem oZ];exact List.getElem_mem _
   obtain ⟨y,hy,e⟩:=List.mem_map.1 hm;have:=k1A p a y hy;rw [← e] at h2;dsimp only at h2;omega
  ·rfl
theorem q4A (p:Nat→Bool):∀ T,∀ x ∈ rnC p T,0≤x.1∧0≤x.2
 | 0,x,h=>by cases h
 | T+1,x,h=>by
   simp only [rnC,List.mem_append] at h
   rcases h with h|h
   ·exact q4A p T x h
   ·split at h
    ·rename_i hc
     simp only [Bool.and_eq_true] at hc;have:=frA p T hc.2;simp only [List.mem_singleton] at h;subst h;dsimp only;omega
    ·cases h
theorem sp_bd (p:Nat→Bool) (T:Nat):∀ x ∈ spL p T,0≤x.1∧x.1<x.2∧x.2≤T:=by
 intro x hx;cases h:bel p T
 ·rw [prA h] at hx
  obtain ⟨y,hy,rfl⟩:=List.mem_map.1 hx;have h1:=k1A p T y hy;have h2:=q4A p T y hy;dsimp only;omega
 ·rw [pqA h] at hx
  rcases List.mem_append.1 hx with hx|hx
  ·obtain ⟨y,hy,rfl⟩:=List.mem_map.1 hx
   have h1:=k1A p T y hy;have h2:=q4A p T y hy;dsimp only;omega
  ·rw [List.mem_singleton] at hx;subst hx
   have:=frA p T h;dsimp only;omega
theorem n5A (p:Nat→Bool):∀ T,(spL p T).length≤cnt p T
 | 0=>Nat.le_refl _
 | T+1=>by
   have ih:=n5A p T;unfold spL at ih ⊢;rw [List.length_map] at ih ⊢;cases hp:p T
   ·rw [g6A hp];simp only [cnt,hp];exact ih
   ·cases hb:bel p T
    ·rw [flA hp hb];simp only [cnt,hp,List.length_append,List.length_singleton];simp;omega
    ·have e1:=euA hb
     rw [e1] at ih;rw [elA hp hb];simp only [cnt,hp,List.length_append,List.length_singleton] at ih ⊢;simp;omega
def kmA (rs:List Rn):Nat→Int
 | 0=>0
 | k+1=>fst rs k+mor rs k+1
theorem xgA {q:Nat→Bool} {j:Nat} (hj:j<(avA q).length):∃ f m g:Nat,fst (avA q) j=f∧mor (avA q) j=m∧kmA (avA q) j=g∧g≤f∧f+m+1≤65536 ∧
 (∀ i,f≤i→i≤f+m→q i=true)∧(∀ i,g≤i→i<f→q i=false):=by
 obtain ⟨rs,hrs⟩:∃ rs,rs=avA q:=⟨_,rfl⟩;have hr:=dsA q;have hu:=dkA q;have hin:∀ i,i<65536→inR rs i=q i:=λ i hi=>by rw [hrs];exact huA q hi
 rw [← hrs] at hj hr hu ⊢;clear hrs;have hb:=hu.at j;have hrj:=(hr j hj);have hg:0≤kmA rs j∧kmA rs j≤fst rs j:=by
  cases j with
  | zero=>exact ⟨Int.le_refl _,by show (0:Int)≤_;omega⟩
  | succ j =>
    have h1:=hu.at j;have h2:=hrj.1;simp only [lst] at h2;simp only [kmA];omega
 refine ⟨(fst rs j).toNat,(mor rs j).toNat,(kmA rs j).toNat,by omega,by omega,by omega,by omega,by omega,λ i h1 h2=>?_,λ i h1 h2=>?_⟩
 ·rw [← hin i oZ,kiA];exact ⟨j,hj,by omega,by omega⟩
 ·rw [← hin i oZ]
  cases hc:inR rs i
  ·rfl
  ·obtain ⟨k,hk,k1,k2⟩:=(kiA rs i).1 hc
   rcases Nat.lt_trichotomy k j with h|h|h
   ·have h3:fst rs k+mor rs k+1≤kmA rs j:=by
     cases j with
     | zero=>omega
     | succ j =>
       by_cases e:k=j
       ·subst e;exact Int.le_refl _
       ·have:=fxA hr hu k j oZ oZ
        have h4:=hu.at j;simp only [kmA];omega
    omega
   ·subst h;omega
   ·have:=fxA hr hu j k h hk
    omega
theorem thA {q:Nat→Bool}:∃ g:Nat,kmA (avA q) (avA q).length=g∧g≤65536∧∀ i,g≤i→i<65536→q i=false:=by
 obtain ⟨rs,hrs⟩:∃ rs,rs=avA q:=⟨_,rfl⟩;have hr:=dsA q;have hu:=dkA q;have hin:∀ i,i<65536→inR rs i=q i:=λ i hi=>by rw [hrs];exact huA q hi
 rw [← hrs] at hr hu ⊢;clear hrs;obtain ⟨n,hn⟩:∃ n,n=rs.length:=⟨_,rfl⟩;have hg:0≤kmA rs rs.length∧kmA rs rs.length≤65536:=by
  rw [← hn];cases n with
  | zero=>exact ⟨Int.le_refl _,by show (0:Int)≤_;omega⟩
  | succ j =>
    have h1:=hu.at j;have h2:=(hr j oZ).2;simp only [kmA];omega
 refine ⟨(kmA rs rs.length).toNat,by omega,by omega,λ i h1 h2=>?_⟩;rw [← hin i oZ];cases hc:inR rs i
 ·rfl
 ·obtain ⟨k,hk,k1,k2⟩:=(kiA rs i).1 hc
  rw [← hn] at h1 hg hk;have h3:fst rs k+mor rs k+1≤kmA rs n:=by
   cases n with
   | zero=>omega
   | succ j =>
     by_cases e:k=j
     ·subst e;exact Int.le_refl _
     ·have:=fxA hr hu k j oZ oZ
      have h4:=hu.at j;simp only [kmA];omega
  omega
theorem mqA (p:Nat→Bool) (k x K:Nat) (hK:k*65536=K) (h1:K≤x) (h2:x<K+65536):p x=blk p k (x-K):=by
 have h3:x-K<65536:=oZ;rw [coA h3,hK];congr 1;omega
theorem oqA {p:Nat→Bool} {i:Nat} (h:i<nk p):∃ gE:Nat,kmA (avA (blk p (kp p i))) (avA (blk p (kp p i))).length=gE∧gE≤65536∧spL p (kp p (i+1)*65536)=spL p (kp p i*65536+gE):=by
 obtain ⟨gE,h1,h2,h3⟩:=thA (q:=blk p (kp p i));have hnx:=gyA h;have hks:=e9A (kp p i);have hml:(kp p i+1)*65536≤kp p (i+1)*65536:=Nat.mul_le_mul_right _ hnx;refine ⟨gE,h1,h2,?_⟩;rw [deA hml (λ y h3 h4=>rfA h h3 h4),hks];obtain ⟨K,hK⟩:∃ K,kp p i*65536=K:=⟨_,rfl⟩;rw [hK];refine deA oZ (λ x h4 h5=>?_);have h6:K≤x:=oZ;exact (mqA p (kp p i) x K hK h6 h5).trans (h3 _ oZ oZ)
theorem ahB {p:Nat→Bool} {i j:Nat} (hj:j<(avA (blk p (kp p i))).length):∃ f m g:Nat,fst (avA (blk p (kp p i))) j=f∧mor (avA (blk p (kp p i))) j=m∧kmA (avA (blk p (kp p i))) j=g∧kmA (avA (blk p (kp p i))) (j+1)=((f+m+1:Nat):Int) ∧
 g≤f∧f+m+1≤65536∧spL p (kp p i*65536+f)=spL p (kp p i*65536+g)∧∀ y,kp p i*65536+f≤y→y<kp p i*65536+(f+m+1)→p y=true:=by
 obtain ⟨f,m,g,h1,h2,h3,h4,h5,h6,h7⟩:=xgA hj;obtain ⟨K,hK⟩:∃ K,kp p i*65536=K:=⟨_,rfl⟩;rw [hK];refine ⟨f,m,g,h1,h2,h3,?_,h4,h5,deA oZ (λ x h8 h9=>?_),λ y h8 h9=>?_⟩
 ·show fst _ j+mor _ j+1=_
  rw [h1,h2];omega
 ·have h10:K≤x:=oZ
  exact (mqA p (kp p i) x K hK h10 oZ).trans (h7 _ oZ oZ)
 ·have h10:K≤y:=oZ
  exact (mqA p (kp p i) y K hK h10 oZ).trans (h6 _ oZ oZ)
theorem m6A {p:Nat→Bool} {a b:Nat} (hab:a<b) (hp:∀ x,a≤x→x<b→p x=true) :
 (0<(spL p a).length∧((spL p a).getD ((spL p a).length-1) (0,0)).2=a∧spL p b=(spL p a).set ((spL p a).length-1) (((spL p a).getD ((spL p a).length-1) (0,0)).1,(b:Int))) ∨
 (((spL p a).length=0∨((spL p a).getD ((spL p a).length-1) (0,0)).2≠a)∧spL p b=spL p a++[((a:Int),(b:Int))]):=by
 cases h:bel p a
 ·right
  refine ⟨?_,psA hab hp h⟩
  by_cases h0:(spL p a).length=0
  ·exact .inl h0
  ·refine .inr λ e=>?_
   have:=sp_bel.2 ⟨by omega,e⟩;rw [h] at this;cases this
 ·left
  have h1:=sp_bel.1 h;exact ⟨h1.1,h1.2,(ptA hab hp h).2⟩
def ddN (xs:List Int):Nat→List Int
 | 0=>[]
 | n+1=>ddN xs n++(if n=0∨xs.getD n 0≠xs.getD (n-1) 0 then [xs.getD n 0] else [])
theorem moA {xs:List Int} {n:Nat} (h:xs.getD n 0≠xs.getD (n-1) 0):ddN xs (n+1)=ddN xs n++[xs.getD n 0]:=by
 simp only [ddN];rw [if_pos (.inr h)]
theorem mnA {xs:List Int} {n:Nat} (h0:0<n) (h:xs.getD n 0=xs.getD (n-1) 0):ddN xs (n+1)=ddN xs n:=by
 simp only [ddN];rw [if_neg (by rintro (h1|h1);·omega
                                ·exact h1 h),List.append_nil]
theorem rlA (xs:List Int):ddN xs 1=[xs.getD 0 0]:=rfl
theorem o1A {xs:List Int} (hs:∀ i j,i≤j→j<xs.length→xs.getD i 0≤xs.getD j 0):∀ n,n≤xs.length →
 Inc (ddN xs n)∧(∀ z,z ∈ ddN xs n↔∃ i,i<n∧xs.getD i 0=z)∧(0<n→∀ z ∈ ddN xs n,z≤xs.getD (n-1) 0)
 | 0,_=>⟨mgA,λ z=>⟨λ h=>(by cases h),λ ⟨i,h,_⟩=>absurd h (Nat.not_lt_zero i)⟩,λ h=>absurd h (Nat.lt_irrefl 0)⟩
 | n+1,h=>by
   obtain ⟨i1,i2,i3⟩:=o1A hs n oZ
   by_cases h0:n=0
   ·subst h0
    rw [rlA];refine ⟨by unfold Inc;simp,λ z=>?_,λ _ z hz=>?_⟩
    ·simp only [List.mem_singleton]
     exact ⟨λ h=>⟨0,Nat.zero_lt_one,h.symm⟩,λ ⟨i,h1,h2⟩=>by obtain rfl:i=0:=oZ
                                                            exact h2.symm⟩
    ·rw [List.mem_singleton] at hz;subst hz;exact Int.le_refl _
   ·by_cases he:xs.getD n 0=xs.getD (n-1) 0
    ·rw [mnA oZ he]
     refine ⟨i1,λ z=>?_,λ _ z hz=>?_⟩
     ·rw [i2]
      constructor
      ·rintro ⟨i,h1,h2⟩;exact ⟨i,by omega,h2⟩
      ·rintro ⟨i,h1,h2⟩
       by_cases e:i=n
       ·subst e;exact ⟨i-1,by omega,he▸h2⟩
       ·exact ⟨i,by omega,h2⟩
     ·rw [Nat.add_sub_cancel,he];exact i3 oZ z hz
    ·rw [moA he]
     have hlt:∀ z ∈ ddN xs n,z<xs.getD n 0:=λ z hz=>by
      have h1:=i3 oZ z hz;have h2:=hs (n-1) n oZ oZ;omega
     refine ⟨?_,λ z=>?_,λ _ z hz=>?_⟩
     ·unfold Inc
      rw [List.pairwise_append];refine ⟨i1,by simp,λ a ha b hb=>?_⟩;rw [List.mem_singleton] at hb;subst hb;exact hlt a ha
     ·rw [List.mem_append,List.mem_singleton,i2]
      constructor
      ·rintro (⟨i,h1,h2⟩|h1)
       ·exact ⟨i,by omega,h2⟩
       ·exact ⟨n,by omega,h1.symm⟩
      ·rintro ⟨i,h1,h2⟩
       by_cases e:i=n
       ·subst e;exact .inr h2.symm
       ·exact .inl ⟨i,by omega,h2⟩
     ·rw [Nat.add_sub_cancel]
      rcases List.mem_append.1 hz with hz|hz
      ·have:=hlt z hz;omega
      ·rw [List.mem_singleton] at hz;subst hz;exact Int.le_refl _
theorem z5A (p q:Nat→Bool):ddN ((b9A p++b9A q).mergeSort (λ x y=>decide (x≤y))) ((b9A p++b9A q).mergeSort (λ x y=>decide (x≤y))).length=adA (λ k=>ne p k || ne q k) 65536:=by
 obtain ⟨xs,hxs⟩:∃ xs,xs=(b9A p++b9A q).mergeSort (λ x y=>decide (x≤y)):=⟨_,rfl⟩;have hm:∀ z,z ∈ xs↔z ∈ b9A p∨z ∈ b9A q:=λ z=>by rw [hxs,List.mem_mergeSort,List.mem_append]
 have hp:xs.Pairwise (λ a b=>decide (a≤b)=true):=by
  rw [hxs];exact List.pairwise_mergeSort (λ a b c h1 h2=>by simp at *;omega) (λ a b=>by simp;omega) _
 rw [← hxs];have hs:∀ i j,i≤j→j<xs.length→xs.getD i 0≤xs.getD j 0:=λ i j hij hj=>by
  rcases Nat.lt_or_ge i j with h|h
  ·have:=List.pairwise_iff_getElem.1 hp i j oZ hj h
   rw [awA (show i<xs.length by omega),awA hj]
   simpa using this
  ·obtain rfl:i=j:=oZ
   exact Int.le_refl _
 obtain ⟨i1,i2,-⟩:=o1A hs xs.length (Nat.le_refl _);refine gbA i1 (bjA _ _) (λ z=>?_);rw [i2,c9A];have hz:(∃ i,i<xs.length∧xs.getD i 0=z)↔z ∈ xs:=by
  constructor
  ·rintro ⟨i,h1,rfl⟩;exact npA h1
  ·intro h
   obtain ⟨i,h1,h2⟩:=List.getElem_of_mem h;exact ⟨i,h1,by rw [awA h1];exact h2⟩
 rw [hz,hm];unfold b9A;rw [c9A,c9A]
 constructor
 ·rintro (⟨i,h1,h2,h3⟩|⟨i,h1,h2,h3⟩)
  ·exact ⟨i,h1,by rw [h2];rfl,h3⟩
  ·exact ⟨i,h1,by rw [h2,Bool.or_true],h3⟩
 ·rintro ⟨i,h1,h2,h3⟩
  rw [Bool.or_eq_true] at h2;rcases h2 with h|h
  ·exact .inl ⟨i,h1,h,h3⟩
  ·exact .inr ⟨i,h1,h,h3⟩
def kq (e:Nat→Bool) (i:Nat):Nat:=if i<cnt e 65536 then ((adA e 65536).getD i 0).toNat else 65536
theorem ucA {e:Nat→Bool} {i:Nat} (h:i<cnt e 65536):kq e i<65536∧e (kq e i)=true∧cnt e (kq e i)=i∧(adA e 65536).getD i 0=((kq e i:Nat):Int):=by
 obtain ⟨j,h1,h2,h3,h4⟩:=h0A e h;have e1:kq e i=j:=by unfold kq;rw [if_pos h,h4];rfl
 rw [e1];exact ⟨h1,h2,h3,h4⟩
theorem wkA {e:Nat→Bool} {i:Nat} (h:cnt e 65536≤i):kq e i=65536:=by unfold kq;rw [if_neg (Nat.not_lt.2 h)]
theorem qyA {e:Nat→Bool} {i:Nat} (h:i≤cnt e 65536):cnt e (kq e i)=i:=by
 by_cases e1:i<cnt e 65536
 ·exact (ucA e1).2.2.1
 ·have:i=cnt e 65536:=oZ
  rw [wkA (Nat.le_of_eq this.symm),this]
theorem bgB {e:Nat→Bool} {i:Nat} (h:i<cnt e 65536) {k:Nat} (h1:kq e i<k) (h2:k<kq e (i+1)):e k=false:=by
 cases hk:e k
 ·rfl
 ·have a1:=ucA h
  have a2:=qyA (e:=e) (i:=i+1) h;have c1:cnt e (kq e i+1)=i+1:=by simp only [cnt,a1.2.1,a1.2.2.1,if_true]
  have c2:=cnt_mono e (m:=kq e i+1) k oZ;have c3:cnt e (k+1)=cnt e k+1:=by simp only [cnt,hk,if_true]
  have c4:=cnt_mono e (m:=k+1) (kq e (i+1)) oZ;omega
theorem ubA {e:Nat→Bool} {k:Nat} (h:k<kq e 0):e k=false:=by
 cases hk:e k
 ·rfl
 ·have a2:=qyA (e:=e) (i:=0) (Nat.zero_le _)
  have c3:cnt e (k+1)=cnt e k+1:=by simp only [cnt,hk,if_true]
  have c4:=cnt_mono e (m:=k+1) (kq e 0) oZ;omega
theorem ylA {e:Nat→Bool} {i:Nat} (h:i<cnt e 65536):kq e i<kq e (i+1):=by
 have a1:=ucA h;have a2:=qyA (e:=e) (i:=i+1) h
 rcases Nat.lt_or_ge (kq e i) (kq e (i+1)) with h1|h1
 ·exact h1
 ·have:=cnt_mono e (m:=kq e (i+1)) (kq e i) h1
  omega
def hwA (R:Nat→Bool) (k x:Nat):Bool:=decide (x / 65536<k) && R x
theorem z7A {R:Nat→Bool} (h:∀ x,TOP≤x→R x=false):hwA R 65536=R:=by
 funext x
 by_cases hx:x / 65536<65536
 ·exact izA (decide_eq_true hx)
 ·refine (j0A (decide_eq_false hx)).trans (h x ?_).symm
  rw [crA];omega
theorem v2A {R:Nat→Bool} {k:Nat} (h:∀ j,j<k→ne R j=false):hwA R k=λ _=>false:=by
 funext x
 by_cases hx:x / 65536<k
 ·exact (izA (decide_eq_true hx)).trans (nkA (h _ hx))
 ·exact j0A (decide_eq_false hx)
theorem v0A {R e:Nat→Bool} (he:∀ k,e k=false→ne R k=false) {i:Nat} (h:i<cnt e 65536):hwA R (kq e (i+1))=upd (hwA R (kq e i)) (kq e i) (blk R (kq e i)):=by
 have hn:=ylA h
 funext x
 have hml:=Nat.mod_lt x (show 0<65536 by decide);have hdm:=Nat.div_add_mod x 65536;unfold upd
 by_cases h1:x / 65536=kq e i
 ·rw [if_pos h1,coA hml,← h1,Nat.mul_comm,hdm]
  exact izA (decide_eq_true (by rw [h1];exact hn))
 ·rw [if_neg h1]
  by_cases h2:x / 65536<kq e i
  ·exact (izA (decide_eq_true (Nat.lt_trans h2 hn))).trans (izA (decide_eq_true h2)).symm
  ·refine Eq.trans ?_ (j0A (decide_eq_false h2)).symm
   by_cases h3:x / 65536<kq e (i+1)
   ·exact (izA (decide_eq_true h3)).trans (nkA (he _ (bgB h oZ h3)))
   ·exact j0A (decide_eq_false h3)
theorem o2A (R:Nat→Bool) {k j:Nat} (h:k≤j):ne (hwA R k) j=false:=by
 cases hk:ne (hwA R k) j
 ·rfl
 ·obtain ⟨i,hi,hp⟩:=ne_iff.1 hk
  have h1:(j*65536+i) / 65536=j:=oZ;unfold hwA at hp;rw [h1,decide_eq_false (Nat.not_lt.2 h),Bool.false_and] at hp;cases hp
theorem v1A {R:Nat→Bool} {k:Nat} (h:ne R k=false):upd (hwA R k) k (blk R k)=hwA R k:=by
 have h1:blk R k=blk (hwA R k) k:=by rw [hyA h,hyA (o2A R (Nat.le_refl k))]
 rw [h1,vaA]
theorem zfA {F:Bool→Bool→Bool} (hF:F false false=false) (p q:Nat→Bool) (k:Nat):blk (two F p q) k=two F (blk p k) (blk q k):=by
 funext i
 by_cases hi:i<65536
 ·rw [coA hi];unfold two;rw [coA hi,coA hi]
 ·rw [dnA hi];unfold two;rw [dnA hi,dnA hi,hF]
theorem agB {F:Bool→Bool→Bool} (hF:F false false=false) {p q:Nat→Bool} {k:Nat} (h:(ne p k || ne q k)=false):ne (two F p q) k=false:=by
 rw [Bool.or_eq_false_iff] at h;cases hn:ne (two F p q) k
 ·rfl
 ·obtain ⟨i,hi,hp⟩:=ne_iff.1 hn
  unfold two at hp;rw [qmA h.1 hi,qmA h.2 hi,hF] at hp;cases hp
theorem qnA (l:List Int):∀ i j,i≤j→j<(l.mergeSort (λ x y=>decide (x≤y))).length→(l.mergeSort (λ x y=>decide (x≤y))).getD i 0≤(l.mergeSort (λ x y=>decide (x≤y))).getD j 0:=by
 obtain ⟨xs,hxs⟩:∃ xs,xs=l.mergeSort (λ x y=>decide (x≤y)):=⟨_,rfl⟩;have hp:xs.Pairwise (λ a b=>decide (a≤b)=true):=by
  rw [hxs];exact List.pairwise_mergeSort (λ a b c h1 h2=>by simp at *;omega) (λ a b=>by simp;omega) _
 rw [← hxs];intro i j hij hj
 rcases Nat.lt_or_ge i j with h|h
 ·have:=List.pairwise_iff_getElem.1 hp i j oZ hj h
  rw [awA (show i<xs.length by omega),awA hj]
  simpa using this
 ·obtain rfl:i=j:=oZ
  exact Int.le_refl _
theorem yeA (l:List Int):buA (l.mergeSort (λ x y=>decide (x≤y)))=buA l:=by
 funext x;unfold buA;exact decide_eq_decide.2 List.mem_mergeSort
theorem memb_take {xs:List Int} {i x:Nat}:buA (xs.take i) x=true↔∃ j,j<i∧j<xs.length∧xs.getD j 0=x:=by
 unfold buA;rw [decide_eq_true_iff]
 constructor
 ·intro h
  obtain ⟨j,h1,h2⟩:=List.getElem_of_mem h;rw [List.length_take] at h1;refine ⟨j,by omega,by omega,?_⟩;rw [awA (show j<xs.length by omega),← h2,List.getElem_take]
 ·rintro ⟨j,h1,h2,h3⟩
  rw [← h3,awA h2];exact List.mem_of_getElem? (i:=j) (by rw [List.getElem?_take_of_lt h1,List.getElem?_eq_getElem h2])
def ofK (xs:List Int) (i:Nat):Nat:=(xs.getD (i-1) 0).toNat / 65536
def ofA (xs:List Int) (i:Nat):List Int:=if i=0 then [] else adA (blk (buA (xs.take i)) (ofK xs i)) 65536
def ofS (xs:List Int) (i:Nat):Nat→Bool:=if i=0 then λ _=>false else hwA (buA (xs.take i)) (ofK xs i)
theorem jbA {xs:List Int} {i:Nat} (h0:0<i) (hi:i<xs.length) (h:xs.getD (i-1) 0=xs.getD i 0):buA (xs.take (i+1))=buA (xs.take i):=by
 funext x
 rw [Bool.eq_iff_iff,memb_take,memb_take]
 constructor
 ·rintro ⟨j,h1,h2,h3⟩
  by_cases e:j=i
  ·exact ⟨i-1,by omega,by omega,by rw [h,← e];exact h3⟩
  ·exact ⟨j,by omega,h2,h3⟩
 ·rintro ⟨j,h1,h2,h3⟩
  exact ⟨j,by omega,h2,h3⟩
section
variable {xs:List Int} (hs:∀ i j,i≤j→j<xs.length→xs.getD i 0≤xs.getD j 0) (hu:∀ x ∈ xs,0≤x∧x<4294967296)
include hs hu
omit hs in
theorem jaA {i:Nat} (h:i<xs.length):0≤xs.getD i 0∧xs.getD i 0<4294967296:=hu _ (npA h)
omit hs in
theorem wfA {i:Nat} (h0:0<i) (hi:i≤xs.length):ofK xs i<65536:=by
 have:=jaA hu (i:=i-1) oZ;unfold ofK;omega
theorem icA {i x:Nat} (h0:0<i) (hi:i≤xs.length) (h:buA (xs.take i) x=true):(x:Int)≤xs.getD (i-1) 0∧x / 65536≤ofK xs i:=by
 obtain ⟨j,h1,h2,h3⟩:=memb_take.1 h;have h4:=hs j (i-1) oZ oZ;have h5:=jaA hu (i:=i-1) oZ;refine ⟨by omega,?_⟩;unfold ofK;exact Nat.div_le_div_right oZ
theorem qiA {i:Nat} (h0:0<i) (hi:i≤xs.length):upd (ofS xs i) (ofK xs i) (blk (buA (xs.take i)) (ofK xs i))=buA (xs.take i):=by
 unfold ofS;rw [if_neg (Nat.ne_of_gt h0)]
 funext x
 unfold upd
 by_cases h1:x / 65536=ofK xs i
 ·rw [if_pos h1,coA (Nat.mod_lt _ dZ),← h1,Nat.mul_comm,Nat.div_add_mod]
 ·rw [if_neg h1]
  cases hm:buA (xs.take i) x
  ·unfold hwA;rw [hm,Bool.and_false]
  ·have:=(icA hs hu h0 hi hm).2
   unfold hwA;rw [hm,decide_eq_true (show x / 65536<ofK xs i by omega)];rfl
omit hs in
theorem qjA {i:Nat} (h0:0<i) (hi:i≤xs.length):0<(ofA xs i).length:=by
 unfold ofA;rw [if_neg (Nat.ne_of_gt h0),baA];have h5:=jaA hu (i:=i-1) oZ;have hml:(xs.getD (i-1) 0).toNat % 65536<65536:=Nat.mod_lt _ dZ;have hp:blk (buA (xs.take i)) (ofK xs i) ((xs.getD (i-1) 0).toNat % 65536)=true:=by
  rw [coA hml];unfold ofK;rw [Nat.mul_comm,Nat.div_add_mod];exact memb_take.2 ⟨i-1,by omega,by omega,by omega⟩
 have h1:cnt (blk (buA (xs.take i)) (ofK xs i)) ((xs.getD (i-1) 0).toNat % 65536+1)=cnt (blk (buA (xs.take i)) (ofK xs i)) ((xs.getD (i-1) 0).toNat % 65536)+1:=by simp only [cnt,hp,if_true]
 have h2:=cnt_mono (blk (buA (xs.take i)) (ofK xs i)) (m:=(xs.getD (i-1) 0).toNat % 65536+1) 65536 hml;omega
theorem b5B {i:Nat} (hi:i<xs.length) (hne:i=0∨xs.getD (i-1) 0≠xs.getD i 0) :
 ofA xs (i+1)=(if 0<i∧ofK xs i=ofK xs (i+1) then ofA xs i else [])++[(((xs.getD i 0).toNat % 65536:Nat):Int)] ∧
 ofS xs (i+1)=(if 0<i∧ofK xs i=ofK xs (i+1) then ofS xs i else buA (xs.take i)):=by
 have hb:=jaA hu hi;have hK:ofK xs (i+1)=(xs.getD i 0).toNat / 65536:=by unfold ofK;rw [Nat.add_sub_cancel]
 have hml:(xs.getD i 0).toNat % 65536<65536:=Nat.mod_lt _ dZ;have hdm:=Nat.div_add_mod (xs.getD i 0).toNat 65536;have hlt:∀ x,buA (xs.take i) x=true→x<(xs.getD i 0).toNat:=λ x hx=>by
  rcases hne with h0|h0
  ·subst h0;obtain ⟨j,h1,_⟩:=memb_take.1 hx;omega
  ·by_cases h0':i=0
   ·subst h0';obtain ⟨j,h1,_⟩:=memb_take.1 hx;omega
   ·have h1:=(icA hs hu (Nat.pos_of_ne_zero h0') (Nat.le_of_lt hi) hx).1
    have h2:=hs (i-1) i oZ hi;omega
 have hmore:∀ x,buA (xs.take (i+1)) x=true↔buA (xs.take i) x=true∨x=(xs.getD i 0).toNat:=λ x=>by
  rw [memb_take,memb_take]
  constructor
  ·rintro ⟨j,h1,h2,h3⟩
   by_cases e:j=i
   ·subst e;right;omega
   ·exact .inl ⟨j,by omega,h2,h3⟩
  ·rintro (⟨j,h1,h2,h3⟩|h)
   ·exact ⟨j,by omega,h2,h3⟩
   ·exact ⟨i,by omega,hi,by omega⟩
 have hA1:ofA xs (i+1)=adA (blk (buA (xs.take i)) (ofK xs (i+1))) 65536++[(((xs.getD i 0).toNat % 65536:Nat):Int)]:=by
  unfold ofA;rw [if_neg (Nat.succ_ne_zero i)];refine gbA (bjA _ _) ?_ (λ z=>?_)
  ·unfold Inc
   rw [List.pairwise_append];refine ⟨bjA _ _,by simp,λ a ha b hb'=>?_⟩;rw [List.mem_singleton] at hb';subst hb';obtain ⟨r,h1,h2,rfl⟩:=(c9A _ _ _).1 ha;rw [coA h1,hK] at h2;have:=hlt _ h2;omega
  ·rw [List.mem_append,List.mem_singleton,c9A,c9A]
   constructor
   ·rintro ⟨r,h1,h2,h3⟩
    rw [coA h1] at h2
    rcases (hmore _).1 h2 with h4|h4
    ·exact .inl ⟨r,h1,by rw [coA h1];exact h4,h3⟩
    ·right;rw [hK] at h4;omega
   ·rintro (⟨r,h1,h2,h3⟩|h)
    ·exact ⟨r,h1,by rw [coA h1];exact (hmore _).2 (.inl (by rw [coA h1] at h2;exact h2)),h3⟩
    ·exact ⟨_,hml,by rw [coA hml,hK];exact (hmore _).2 (.inr oZ),h⟩
 have hS1:ofS xs (i+1)=hwA (buA (xs.take i)) (ofK xs (i+1)):=by
  unfold ofS;rw [if_neg (Nat.succ_ne_zero i)]
  funext x
  unfold hwA
  by_cases h1:x / 65536<ofK xs (i+1)
  ·rw [decide_eq_true h1,Bool.true_and,Bool.true_and,Bool.eq_iff_iff,hmore]
   exact ⟨λ h=>h.resolve_right (λ e=>by rw [e,hK] at h1;omega),.inl⟩
  ·rw [decide_eq_false h1];rfl
 by_cases h1:0<i∧ofK xs i=ofK xs (i+1)
 ·rw [if_pos h1,if_pos h1,hA1,hS1]
  constructor
  ·have:ofA xs i=adA (blk (buA (xs.take i)) (ofK xs (i+1))) 65536:=by unfold ofA;rw [if_neg (Nat.ne_of_gt h1.1),h1.2]
   rw [this]
  ·unfold ofS;rw [if_neg (Nat.ne_of_gt h1.1),h1.2]
 ·rw [if_neg h1,if_neg h1,hA1,hS1]
  have hlow:∀ x,buA (xs.take i) x=true→x / 65536<ofK xs (i+1):=λ x hx=>by
   by_cases h0:i=0
   ·subst h0;obtain ⟨j,h1,_⟩:=memb_take.1 hx;omega
   ·have h2:=(icA hs hu (Nat.pos_of_ne_zero h0) (Nat.le_of_lt hi) hx).2
    have h3:ofK xs i≠ofK xs (i+1):=λ e=>h1 ⟨Nat.pos_of_ne_zero h0,e⟩
    have h4:ofK xs i≤ofK xs (i+1):=by
     rw [hK];unfold ofK;have:=hs (i-1) i oZ hi;exact Nat.div_le_div_right oZ
    omega
  constructor
  ·have:adA (blk (buA (xs.take i)) (ofK xs (i+1))) 65536=[]:=List.eq_nil_of_length_eq_zero (by
    rw [baA];refine dyA _ (λ r hr=>?_);rw [coA hr];cases hm:buA (xs.take i) (ofK xs (i+1)*65536+r)
    ·rfl
    ·have:=hlow _ hm;omega)
   rw [this]
  ·funext x
   cases hm:buA (xs.take i) x
   ·unfold hwA;rw [hm,Bool.and_false]
   ·unfold hwA;rw [hm,decide_eq_true (hlow x hm)];rfl
end
end Go.LA
end
section
namespace Go.LA
open Go.RowKit
theorem Fr.grown {w w':World} {row:Option Nat} (h:w.grownBy w' row):Fr (λ k=>row=some k) w w' :=
by
 obtain ⟨h1,h2,h3,h4,h5⟩:=h;exact ⟨by assumption,by assumption,by assumption,by assumption,λ k hk hn=>h5 k hk (λ e=>hn e.symm)⟩
theorem Fr.grownBy {w w':World} {row:Option Nat} (h:Fr (λ k=>row=some k) w w'):w.grownBy w' row:=by
 have h1:=h.os;have h2:=h.tape;have h3:=h.output;have h4:=h.size;exact ⟨by assumption,by assumption,by assumption,by assumption,λ k hk hn=>h.block k hk (λ e=>hn e.symm)⟩
theorem Own.rebase {base base' e s n:Nat} {w:World} {v:Value} {cs:List Value} (h:Own base e s w v n cs) (hb:∀ k,v.ownBlock=some k→base'≤k):Own base' e s w v n cs:=by
 refine ⟨h.1,?_⟩
 rcases h.2 with h0|⟨g,cap,cur,rfl,hb',r⟩
 ·exact .inl h0
 ·exact .inr ⟨g,cap,cur,rfl,hb g rfl,r⟩
def LocR (w:World) (v v':Value):Prop:=v'.ownBlock=v.ownBlock∨∀ k,v'.ownBlock=some k→w.heap.size≤k
theorem LocR.refl {w:World} {v:Value}:LocR w v v:=.inl rfl
theorem LocR.le {w w0:World} {v v':Value} (h:LocR w v v') (hs:w0.heap.size≤w.heap.size):LocR w0 v v':=h.imp id (λ h k hk=>Nat.le_trans hs (h k hk))
theorem LocR.ge {w:World} {base:Nat} {v v':Value} (h:LocR w v v') (hv:∀ k,v.ownBlock=some k→base≤k) (hs:base≤w.heap.size) (k:Nat) (hk:v'.ownBlock=some k):base≤k:=by
 rcases h with h|h
 ·exact hv k (h▸hk)
 ·exact Nat.le_trans hs (h k hk)
theorem LocR.trans {w w':World} {v v' v'':Value} (h:LocR w v v') (h':LocR w' v' v'') (hs:w.heap.size≤w'.heap.size):LocR w v v'':=by
 rcases h' with h' | h'
 ·rcases h with h|h
  ·exact .inl (h'.trans h)
  ·exact .inr λ k hk=>h k (h'▸hk)
 ·exact .inr λ k hk=>Nat.le_trans hs (h' k hk)
section
variable {P:Program} {l:List Oper} {M:List Nat} {N:Nn} {ws wb:World} {K:List Oper→Env→Prop} {rest:List Oper} {E:Env} {Q:Exit→Act→World→Prop} {m:Nat} {C:World→Env→Prop}
variable {d:Tmp} {ty t t':TypeId} {pos:String} {after:Array Edge} {g:Option (Nat × Bool)} {x y z:Operand} {k kd:IntKind}
theorem g5A {w:World} {base e s b n m:Nat} {v vy z:Value} {cs news:List Value} (hel:El P t e z s b) (hown:Own base e s w v n cs) (hy:SlC w vy m s news) (h1:∀ u ∈ news,u.oneCell'=true)
 (h63:n+m≤maxLen) (hbytes:(n+m)*b≤140737488355328) :
 ∃ v' w',(Builtin.append_ #[t,t] ty #[v,vy]).run P w=.ok v' w'∧Own 0 e s w' v' (n+m) (cs++news)∧Fr (λ k=>v.ownBlock=some k) w w'∧LocR w v v':=by
 obtain ⟨i,hi1,hi2,hi3,hi4⟩:=hel.parts;obtain ⟨h0,a,cap,rfl,hc,hm,hn,hcs⟩:=hy;have hown0:Own 0 e s w v n cs:=hown.base (Nat.zero_le _);cases a with
 | none =>
   obtain rfl:=hn rfl;obtain rfl:m=0:=oZ;have hnews:news=[]:=List.eq_nil_of_length_eq_zero (by simpa using h0);subst hnews;exact ⟨v,w,run_append_owned_none (P:=P) w 0 t ty e i s hel.ht hi1 v n cs hown0,by simpa using hown0,Fr.of (Ext.refl _),LocR.refl⟩
 | some a =>
   have hcells:∀ (j:Nat) (u:Value),news[j]?=some u→w.cell? (a.add j)=some u:=λ j u hj=>by
    rcases hcs with rfl|⟨b',off,ha,hc'⟩
    ·have:news=[]:=List.eq_nil_of_length_eq_zero (by simpa using h0)
     subst this;cases hj
    ·obtain rfl:=Option.some.inj ha
     rw [Addr.add_lit];exact hc' j u hj
   obtain ⟨v',w',g1,g2,g3,g4,g5⟩:=run_append_own_at (P:=P) w 0 t ty e i z s b hel.ht hi1 hi2 hi3 hi4 hel.zs hel.pos v n cs hown0 a m cap news h0 hcells h1 h63 hbytes (Nat.zero_le _);exact ⟨v',w',g1,g2,Fr.grown g3,g5.imp id (λ h k hk=>by rw [h] at hk;cases hk;exact Nat.le_refl _)⟩
theorem d7A {base e s b n m:Nat} {v z:Value} {cs news:List Value} {r:AD} (hg:g=none) (hd:d<N.n) (hel:El P t e z s b) (hx:opE E x=.val v) (hown:Own base e s wb v n cs) (hr:opE E y=r) (hy:HasC wb r m s news)
 (h1:∀ u ∈ news,u.oneCell'=true) (h63:n+m≤maxLen) (hbytes:(n+m)*b≤140737488355328)
 (h:∀ v' w w',Ext wb w→Own 0 e s w' v' (n+m) (cs++news)→Fr (λ k=>v.ownBlock=some k) w w'→LocR w v v'→LX P N w' l Q rest ((d,.val v')::vals E)) :
 LX P N wb l Q (⟨some d,.call ⟨.builtin .append,#[x,y],#[t,t]⟩,ty,pos,after,g⟩::rest) E:=by
 unfold LX;intro a w st;have e1:=st.opd x;rw [hx] at e1;simp only [AD.ok] at e1;have e2:=st.opd y;rw [hr] at e2;obtain ⟨v',w',g1,g2,g3,g4⟩:=g5A (t:=t) (ty:=ty) hel (hown.ext st.ext) (hy _ _ st.ext e2) h1 h63 hbytes;refine wpList_plain hg λ Kc hK=>?_
 unfold Oper.wp;simp only [execOp,resolve,invoke,builtin,Sem.run_bind,Sem.run_pure,Result.andThen_ok,List.map_toArray,List.map_cons,List.map_nil,e1,g1,Oper.upon];refine hK _ _ ?_
 have h2:=h v' w w' st.ext g2 g3 g4;unfold LX at h2;exact h2 _ _ ((st.vals (w':=w')).push (Ext.refl _) (dst:=some d) (r:=.val v') (λ d' hd'=>by cases hd';exact hd) (.inr rfl))
theorem e7A {base e s b n kn:Nat} {v z:Value} {cs news:List Value} {r:AD} (hm:l[m]?=some ⟨some d,.call ⟨.builtin .append,#[x,y],#[t,t]⟩,ty,pos,after,none⟩) (hel:El P t e z s b) (hx:opE E x=.val v) (hown:Own base e s ws v n cs) (hr:opE E y=r) (hy:HasC ws r kn s news)
 (h1:∀ u ∈ news,u.oneCell'=true) (h63:n+kn≤maxLen) (hbytes:(n+kn)*b≤140737488355328)
 (h:∀ v' w w',Ext ws w→Own 0 e s w' v' (n+kn) (cs++news)→Fr (λ k=>v.ownBlock=some k) w w'→LocR w v v'→∃ E',(∀ t u,d≠t→(lkE E t).ok u w→(lkE E' t).ok u w')∧C w' ((d,.val v')::E')):MX P N l Q m ws E C:=by
 intro o ho a w hsz hdf hext hop K hK;rw [hm] at ho;obtain rfl:=Option.some.inj ho;have e1:=lkA (x:=x) hop (by simp [Op.operands,Call.operands]);rw [hx] at e1;simp only [AD.ok] at e1;have e2:=lkA (x:=y) hop (by simp [Op.operands,Call.operands]);rw [hr] at e2;obtain ⟨v',w',g1,g2,g3,g4⟩:=g5A (t:=t) (ty:=ty) hel (hown.ext hext) (hy _ _ hext e2) h1 h63 hbytes;obtain ⟨E',hE,hC⟩:=h v' w w' hext g2 g3 g4;unfold Oper.wp;simp only [execOp,resolve,invoke,builtin,Sem.run_bind,Sem.run_pure,Result.andThen_ok,List.map_toArray,List.map_cons,List.map_nil,e1,g1,Oper.upon];refine hK v' w' w' _ (Ext.refl _) (λ t ht hu=>?_) (λ d' hd'=>?_) hC
 ·rw [cgA]
  by_cases e:t=d
  ·subst e;exact absurd rfl ht
  ·rw [if_neg e];exact hE t _ (λ h=>e h.symm) hu
 ·cases hd';rw [cgA,if_pos rfl];rfl
theorem j1A {ι:Type} {J:ι→Env} {C:ι→Prop} {μ:ι→Nat} {q:Nat} {wx:World} (he:Ext wb wx) (i:ι) (h0:C i) (hm:μ i<q) (hs:Sub wx E (J i)):PX N wx (Exit.then (Rnd N wb J C μ q) Q) .normal E:=by
 unfold PX;intro a w s;have s':=hs.st s;exact ⟨i,⟨h0,⟨s'.sz,s'.df,he.trans s'.ext,s'.sat⟩⟩,hm⟩
theorem s9A {b o:Nat} {cur:Array Value} {e:TypeId} {c:Value} {news:List Value} (hg:g=none) (hx:opE E x=.val (.pointer (some ⟨b,o,none⟩))) (hy:opE E y=.val c) (hb:wb.heap[b]?=some (.cells cur e (0,0))) (hc:c.cells=news.toArray)
 (hs:∀ w,(sizeOf t).run P w=.ok news.length w) (ho:o+news.length≤cur.size) (h1:∀ u ∈ news,u.oneCell'=true)
 (h:∀ w,Ext wb w→LX P N (w.setRow b (cur.toList.take o++news++cur.toList.drop (o+news.length)).toArray) l Q rest (vals E)) :
 LX P N wb l Q (⟨none,.store t x y,ty,pos,after,g⟩::rest) E:=by
 unfold LX;intro a w st;have e1:=st.opd x;rw [hx] at e1;simp only [AD.ok] at e1;have e2:=st.opd y;rw [hy] at e2;simp only [AD.ok] at e2;have hrun:(Instr.storeAt t (.pointer (some ⟨b,o,none⟩)) c).run P w=.ok () (w.setRow b (cur.toList.take o++news++cur.toList.drop (o+news.length)).toArray):=by
  have hst:=run_storeCells_at P b o e news 0 cur w (st.ext.block hb) oZ h1;rw [Nat.add_zero] at hst;simp only [Instr.storeAt,Instr.sureAddr,storeVar,Sem.run_bind,Sem.run_pure,Result.andThen_ok,hs,hc,ne_eq,if_false,List.size_toArray,not_true_eq_false,hst]
 refine wpList_plain hg λ Kc hK=>?_
 unfold Oper.wp;simp only [execOp,Sem.run_bind,e1,e2,hrun,Result.andThen_ok,Sem.run_pure,Oper.upon];refine hK _ _ ?_
 have h2:=h w st.ext;unfold LX at h2;exact h2 _ _ (st.vals (w':=w.setRow b _))
theorem kuA {e:TypeId} {z0 c c2:Value} {d2:Tmp} {x2:Operand} {ty' ty'':TypeId} {pos' pos'':String} {after' after'':Array Edge} {g' g'':Option (Nat × Bool)} (hg:g=none) (hg':g'=none) (hg'':g''=none) (hd:d<N.n) (hd2:d2<N.n) (hz:∀ w,(zeroValue e).run P w=.ok z0 w) (hx2:∀ v,opE ((d,.val v)::E) x2=.val c2) (hne:(d == d2)=false)
 (hy:∀ v,opE ((d2,.val c2)::(d,.val v)::E) y=.val c)
 (hs:∀ w,(sizeOf t).run P w=.ok c.cells.size w) (hfit:c.cells.size=z0.cells.size) (h1:∀ u ∈ c.cells.toList,u.oneCell'=true)
 (h:∀ b w',Ext wb w'→wb.heap.size≤b→w'.heap[b]?=some (.cells c.cells e (0,0))→LX P N w' l Q rest ((d2,.val c2)::(d,.val (.pointer (some ⟨b,0,none⟩)))::E)) :
 LX P N wb l Q (⟨some d,.alloc e,ty,pos,after,g⟩::⟨some d2,.assign x2,ty'',pos'',after'',g''⟩::⟨none,.store t (.tmp d) y,ty',pos',after',g'⟩::rest) E:=by
 unfold LX;intro a w st;have ra:(Instr.alloc e true (.tuple #[])).run P w=.ok (.pointer (some ⟨w.heap.size,0,none⟩)) (w.alloc (.cells z0.cells e)):=by
  simp only [Instr.alloc,Sem.run_bind,hz,Result.andThen_ok];rfl
 refine wpList_plain hg λ Kc hK=>?_
 unfold Oper.wp;simp only [execOp,Sem.run_bind,ra,Result.andThen_ok,Sem.run_pure,Oper.upon];refine hK _ _ ?_
 have st1:St N wb ((d,.val (.pointer (some ⟨w.heap.size,0,none⟩)))::E) (a.put (some d) (.pointer (some ⟨w.heap.size,0,none⟩))) (w.alloc (.cells z0.cells e)) :=
  st.push (Ext.alloc _ _) (dst:=some d) (r:=.val _) (λ d' hd'=>by cases hd';exact hd) (.inr rfl)
 have e0:=st1.opd x2;rw [hx2] at e0;simp only [AD.ok] at e0;refine wpList_plain hg'' λ Kc hK=>?_
 unfold Oper.wp;simp only [execOp,Sem.run_bind,e0,Result.andThen_ok,Sem.run_pure,Oper.upon];refine hK _ _ ?_
 have st2:=st1.push (Ext.refl _) (dst:=some d2) (r:=.val c2) (v:=c2) (λ d' hd'=>by cases hd';exact hd2) (.inr rfl);have e1:=st2.opd (.tmp d);have e2:=st2.opd y;have e2':opE (puE (some d2) (.val c2) ((d,.val (.pointer (some ⟨w.heap.size,0,none⟩)))::E)) y=.val c:=hy _;rw [e2'] at e2;simp only [AD.ok] at e2;have e1':((a.put (some d) (.pointer (some ⟨w.heap.size,0,none⟩))).put (some d2) c2).eval (.tmp d)=.pointer (some ⟨w.heap.size,0,none⟩):=by
  simp only [opE,puE,lkE,hne,beq_self_eq_true,cond_true,cond_false,AD.ok] at e1;exact e1
 have hb:(w.alloc (.cells z0.cells e)).heap[w.heap.size]?=some (.cells z0.cells e (0,0)):=heap_alloc_new w _;have hrun:(Instr.storeAt t (.pointer (some ⟨w.heap.size,0,none⟩)) c).run P (w.alloc (.cells z0.cells e))=.ok () ((w.alloc (.cells z0.cells e)).setRow w.heap.size c.cells):=by
  have hst:=run_storeCells_at P w.heap.size 0 e c.cells.toList 0 z0.cells _ hb (by simp [hfit]) h1;have e3:(z0.cells.toList.take (0+0)++c.cells.toList++z0.cells.toList.drop (0+0+c.cells.toList.length)).toArray=c.cells:=by
   rw [List.drop_eq_nil_of_le (by simp [hfit])];simp
  rw [e3] at hst;simp only [Instr.storeAt,Instr.sureAddr,storeVar,Sem.run_bind,Sem.run_pure,Result.andThen_ok,hs,ne_eq,not_true_eq_false,if_false,hst]
 refine wpList_plain hg' λ Kc hK=>?_
 unfold Oper.wp;simp only [execOp,Sem.run_bind,e1',e2,hrun,Result.andThen_ok,Sem.run_pure,Oper.upon];refine hK _ _ ?_
 have x2:Ext w ((w.alloc (.cells z0.cells e)).setRow w.heap.size c.cells):=(Ext.alloc _ _).setRow (Nat.le_refl _) _;have h2:=h w.heap.size _ (st.ext.trans x2) st.ext.size (setRow_heap _ w.heap.size _ _ _ (0,0) hb);unfold LX at h2;have st3:=st.push (dst:=some d) (r:=.val (.pointer (some ⟨w.heap.size,0,none⟩))) (v:=.pointer (some ⟨w.heap.size,0,none⟩)) x2 (λ d' hd'=>by cases hd';exact hd) (.inr rfl);have st4:=st3.push (Ext.refl _) (dst:=some d2) (r:=.val c2) (v:=c2) (λ d' hd'=>by cases hd';exact hd2) (.inr rfl);exact h2 _ _ st4.rebase
theorem ojA {c z:Value} {s b base:Nat} {e:TypeId} (hbase:base≤wb.heap.size) (hg:bmA l E g=some true) (hel:El P t e z s b) (hx:opE E x=.val c) (hc:c.cells.size=s) (hs1:s≤1000) (h:LA P l wb K rest ((d,.pred (hqA base e s 1 c.cells.toList))::E)) :
 LA P l wb K (⟨some d,.buildSlice t 1 #[(0,x)],ty,pos,after,g⟩::rest) E:=by
 refine bhA (.pred (hqA base e s 1 c.cells.toList)) hg (λ a w he hh=>?_) h;have h1:=hh x (by simp [Op.operands]);rw [hx] at h1;simp only [AD.ok] at h1;have hne:¬ s=0:=by have:=hel.pos;omega
 have hrun:(Instr.buildSlice t 1 #[(0,c)]).run P w=.ok (.slice (some ⟨w.heap.size,0,none⟩) 1 1) (w.alloc (.cells c.cells e)):=by
  have hf:=isA (c:=c) (z:=z.cells) (s:=s) hc;simp only [Instr.buildSlice,Sem.run_bind,run_underlying hel.ht,Result.andThen_ok,hel.sizeOf,Nat.one_mul,gt_iff_lt,show ¬ (2 ^ 24<s) by omega,if_false,hne,Sem.run_pure,hel.zero];simp only [Nat.one_mul] at hf;rw [hf];rfl
 simp only [execOp,List.map_toArray,List.map_cons,List.map_nil,h1,Sem.run_bind,hrun,Result.andThen_ok,Sem.run_pure];refine ⟨Ext.alloc _ _,?_⟩;refine ⟨by simp [hc],.inr ⟨w.heap.size,1,c.cells,rfl,Nat.le_trans hbase he.size,heap_alloc_new w _,Nat.le_refl _,by decide,by simp [hc],?_⟩⟩;rw [Nat.one_mul,← hc];exact List.take_of_length_le (by simp)
end
theorem Own.setN {e s b cap n i:Nat} {w:World} {cur:Array Value} {cs news:List Value} (hl:cs.length=n*s) (hg:w.heap[b]?=some (.cells cur e (0,0))) (hnc:n≤cap) (hm:cap≤maxLen) (hsz:cur.size=cap*s) (ht:cur.toList.take (n*s)=cs) (hi:i<n) (hn:news.length=s) :
 Own 0 e s (w.setRow b (cur.toList.take (i*s)++news++cur.toList.drop (i*s+news.length)).toArray) (.slice (some ⟨b,0,none⟩) n cap) n (cs.take (i*s)++news++cs.drop (i*s+s)):=by
 have hcur:cur.toList.length=cap*s:=by rw [Array.length_toList];exact hsz
 have h1:(i+1)*s≤n*s:=Nat.mul_le_mul_right _ hi;have h2:n*s≤cap*s:=Nat.mul_le_mul_right _ hnc;have h3:(i+1)*s=i*s+s:=by rw [Nat.add_mul,Nat.one_mul]
 refine ⟨?_,.inr ⟨b,cap,_,rfl,Nat.zero_le _,setRow_heap w b cur _ e _ hg,hnc,hm,?_,?_⟩⟩
 ·simp only [List.length_append,List.length_take,List.length_drop];omega
 ·simp only [List.size_toArray,List.length_append,List.length_take,List.length_drop];omega
 ·subst ht
  rw [List.take_take,Nat.min_eq_left oZ];simp only [List.toList_toArray];rw [List.append_assoc,List.take_append,List.take_of_length_le (by rw [List.length_take];omega),List.take_append,List.take_of_length_le (l:=news) (by rw [List.length_take];omega),List.append_assoc];congr 2;rw [List.length_take,hn,List.drop_take];congr 1;omega
end Go.LA
end
