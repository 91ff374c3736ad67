import Derived.Sort.AssemblyPlain
import Derived.Laws.Bits64
import Derived.Laws.Bits64b
import Derived.Maps.AppendAt
import Derived.Test.YtbokphkfojijoaaGreatDoorJ5
import Derived.Test.YtbokphkfojijoaaGreatDoorJ6
import Derived.Test.YtbokphkfojijoaaGreatDoorJ7
set_option linter.unusedSimpArgs false
set_option linter.unusedVariables false
set_option maxRecDepth 3000
set_option maxHeartbeats 16000000
section
namespace Go.LA
open Go.RowKit
section
variable {P:Program} {l:List Oper} {M:List Nat} {N:Nn} {ws wb:World} {K:List Oper→Env→Prop} {rest:List Oper} {E:Env} {Q:Exit→Act→World→Prop} {m:Nat} {C:World→Env→Prop}
variable {d:Tmp} {ty t t':TypeId} {pos:String} {after:Array Edge} {g:Option (Nat × Bool)} {x y z:Operand} {k kd:IntKind}
theorem ahA {b n cap:Nat} {e:TypeId} {i:Int} (hg:b8A l E g=some true) (ht:P.underlying t=some (.slice e)) (hs:∀ w,(sizeOf e).run P w=.ok 1 w) (hx:opE E x=.val (.slice (some ⟨b,0,none⟩) n cap))
 (hy:opE E y=.val (.int k i)) (j:Nat) (hj:i=(j:Int)) (hn:j<n) (h:LA P l wb K rest ((d,.val (.pointer (some ⟨b,j,none⟩)))::E)):LA P l wb K (⟨some d,.indexAddr t x y,ty,pos,after,g⟩::rest) E:=by
 refine biA hg ht hs hx hy oZ oZ ?_
 rw [hj,Int.toNat_natCast,Nat.mul_one,Nat.zero_add];exact h
theorem bdA {base e b n cap j:Nat} {xs:List Int} (ho:OwnI base e kd wb (.slice (some ⟨b,0,none⟩) n cap) xs) (hg:b8A l E g=some true) (ht:∀ w,(isAgg t).run P w=.ok false w) (hx:opE E x=.val (.pointer (some ⟨b,j,none⟩))) (hj:j<xs.length)
 (h:LA P l wb K rest ((d,.val (.int kd (xs.getD j 0)))::E)):LA P l wb K (⟨some d,.load t x,ty,pos,after,g⟩::rest) E:=by
 obtain ⟨b',cap',cur,hv,-,hb,-,-,-,hcur⟩:=ho.row oZ;cases hv;exact a7A hg ht hx hb (n6A hcur hj) h
theorem bgA {w0:World} {e b n cap j:Nat} {c:Int} {xs:List Int} (hm:l[m]?=some ⟨none,.store t x y,ty,pos,after,none⟩) (he:Ext w0 ws) (ho:OwnI w0.heap.size e kd ws (.slice (some ⟨b,0,none⟩) n cap) xs)
 (hx:opE E x=.val (.pointer (some ⟨b,j,none⟩))) (hy:opE E y=.val (.int kd c)) (hj:j<xs.length) (hs:∀ w,(sizeOf t).run P w=.ok 1 w)
 (h:∀ w',Ext w0 w'→OwnI w0.heap.size e kd w' (.slice (some ⟨b,0,none⟩) n cap) (xs.set j c)→C w' (vals E)):MX P N l Q m ws E C:=by
 obtain ⟨b',cap',cur,hv,hb0,hb,hnc,hcm,hsz,hcur⟩:=ho.row oZ;cases hv;have e3:(cur.toList.take j++[Value.int kd c]++cur.toList.drop (j+[Value.int kd c].length)).toArray=cur.setIfInBounds j (.int kd c):=by
  apply Array.ext'
  rw [Array.toList_setIfInBounds,List.set_eq_take_append_cons_drop,if_pos (by simp;omega)];simp
 refine eoA (news:=[.int kd c]) hm hx hy hb rfl hs (by simp;omega) (by simp [Value.oneCell']) (λ w hw=>⟨_,λ t u hu=>bkA t u hu,?_⟩);rw [e3];exact h _ ((he.trans hw).setRow hb0 _) (OwnI.set hb0 (hw.block hb) hnc hcm hsz hcur j hj c)
variable {q s4:Operand}
theorem lqA {f:FuncId} {ats:Array TypeId} {fv:Operand} {v1 v2 v3:Value} (R:World→Prop) (hc:∀ w,Ext wb w→Fc P f #[v1,v2,v3] w (λ e w'=>e=.returned (.tuple #[])∧R w')) (hg:g=none) (hd:d<N.n) (hfv:opE E fv=.val (.func (.func f) #[] #[])) (hv1:opE E x=.val v1) (hv2:opE E y=.val v2) (hv3:opE E z=.val v3)
 (h:∀ w,R w→LX P N w l Q rest ((d,.val (.tuple #[]))::vals E)):LX P N wb l Q (⟨some d,.call ⟨.value fv,#[x,y,z],ats⟩,ty,pos,after,g⟩::rest) E :=
 dyA hg hd hfv hv1 hv2 hv3 (λ v w=>v=.tuple #[]∧R w) (λ w e=>(hc w e).mono λ e' w' ⟨h1,h2⟩=>⟨_,h1,rfl,h2⟩) (λ v w hv=>by obtain ⟨rfl,hw⟩:=hv;exact h w hw)
theorem jrA {f:FuncId} {ats:Array TypeId} {fv:Operand} {v1 v2 v3 v4:Value} (R:World→Prop) (hc:∀ w,Ext wb w→Fc P f #[v1,v2,v3,v4] w (λ e w'=>e=.returned (.tuple #[])∧R w')) (hg:g=none) (hd:d<N.n) (hfv:opE E fv=.val (.func (.func f) #[] #[])) (hv1:opE E x=.val v1) (hv2:opE E y=.val v2) (hv3:opE E z=.val v3) (hv4:opE E q=.val v4)
 (h:∀ w,R w→LX P N w l Q rest ((d,.val (.tuple #[]))::vals E)):LX P N wb l Q (⟨some d,.call ⟨.value fv,#[x,y,z,q],ats⟩,ty,pos,after,g⟩::rest) E :=
 fzA hg hd hfv hv1 hv2 hv3 hv4 (λ v w=>v=.tuple #[]∧R w) (λ w e=>(hc w e).mono λ e' w' ⟨h1,h2⟩=>⟨_,h1,rfl,h2⟩) (λ v w hv=>by obtain ⟨rfl,hw⟩:=hv;exact h w hw)
theorem gcA {c c':Code} (k:Nat) (E':Env) (h1:CX P N wb (.block k c) E (Exit.then (Cut N wb E') Q)) (h2:CX P N wb c' E' Q):CX P N wb (.seq (.block k c) c') E Q:=h8A E' h1 h2
end
open Go.Sort
theorem swp_size (D:Array Int) (i j:Nat):(swp D i j).size=D.size:=by unfold swp;simp
theorem txA (h:Nat) (hb:h<4611686018427387904):IntKind.i64.wrap (((h:Int)-1).tdiv 2)=(((h-1) / 2:Nat):Int):=by
 cases h with
 | zero=>decide
 | succ h =>
   rw [show (((h+1:Nat):Int)-1)=(h:Int) by omega,show h+1-1=h by omega,Int.tdiv_eq_ediv_of_nonneg oZ,ctA .i64 _ fZ];omega
theorem sift_go {lt:Int→Int→Bool} {hi first r c:Nat} {d:Array Int} (h:¬ 2*r+1 ≥ hi) (hc:c=if (decide (2*r+1+1<hi) && lt d[first+(2*r+1)]! d[first+(2*r+1)+1]!)=true then 2*r+2 else 2*r+1) :
 siftDown lt hi first r d=if lt d[first+r]! d[first+c]! then siftDown lt hi first c (swp d (first+r) (first+c)) else d:=by
 rw [siftDown,dif_neg h]
 by_cases hh:(decide (2*r+1+1<hi) && lt d[first+(2*r+1)]! d[first+(2*r+1)+1]!)=true
 ·rw [if_pos hh] at hc ⊢
  subst hc;have h2:2*r+2<hi:=by simp at hh;omega
  cases hl:lt d[first+r]! d[first+(2*r+2)]!
  ·simp
  ·simp [h2]
 ·rw [if_neg hh] at hc ⊢
  subst hc;cases hl:lt d[first+r]! d[first+(2*r+1)]!
  ·simp
  ·simp
theorem sift_size {lt:Int→Int→Bool} {hi first:Nat}:∀ (m r:Nat) (d:Array Int),hi-r≤m→(siftDown lt hi first r d).size=d.size
 | 0,r,d,h=>by rw [siftDown,dif_pos oZ]
 | m+1,r,d,h=>by
   by_cases hr:2*r+1 ≥ hi
   ·rw [siftDown,dif_pos hr]
   ·obtain ⟨c,hc⟩:∃ c,c=if (decide (2*r+1+1<hi) && lt d[first+(2*r+1)]! d[first+(2*r+1)+1]!)=true then 2*r+2 else 2*r+1:=⟨_,rfl⟩
    have hlt:r<c:=by rw [hc];split <;> omega
    rw [sift_go hr hc];cases hl:lt d[first+r]! d[first+c]!
    ·rfl
    ·simp only [if_true]
     rw [sift_size m c _ oZ,swp_size]
theorem scanUp_go {p:Int→Bool} {d:Array Int} {i j:Nat} (h:i≤j) (hp:p d[i]! = true):scanUp p d j i=scanUp p d j (i+1):=by
 conv=>lhs;rw [scanUp]
 rw [if_pos (by simp [h,hp])]
theorem cnA {p:Int→Bool} {d:Array Int} {i j:Nat} (h:¬ i≤j∨p d[i]! = false):scanUp p d j i=i:=by
 rw [scanUp,if_neg (by rcases h with h|h <;> simp [h])]
theorem scanDown_go {p:Int→Bool} {d:Array Int} {i j:Nat} (h:i≤j+1) (hp:p d[j+1]! = true):scanDown p d i (j+1)=scanDown p d i j:=by
 rw [scanDown,if_pos (by simp [h,hp])]
theorem cdA {p:Int→Bool} {d:Array Int} {i j:Nat} (h:¬ i≤j∨p d[j]! = false):scanDown p d i j=j:=by
 cases j with
 | zero=>rfl
 | succ j=>rw [scanDown,if_neg (by rcases h with h|h <;> simp [h])]
theorem erA (p:Int→Bool) (d:Array Int) (j:Nat):∀ (m i:Nat),j+1-i≤m→i≤scanUp p d j i∧scanUp p d j i≤max i (j+1)
 | 0,i,h1=>by rw [cnA (i:=i) (j:=j) (.inl oZ)];omega
 | m+1,i,h1=>by
   by_cases h:i≤j
   ·cases hp:p d[i]!
    ·rw [cnA (.inr hp)];omega
    ·rw [scanUp_go h hp];have:=erA p d j m (i+1) oZ;omega
   ·rw [cnA (.inl h)];omega
theorem dpA (p:Int→Bool) (d:Array Int) (i:Nat):∀ (j:Nat),(i≤scanDown p d i j+1∨scanDown p d i j=j)∧scanDown p d i j≤j
 | 0=>by rw [scanDown];omega
 | j+1=>by
   by_cases h1:i≤j+1
   ·cases hp:p d[j+1]!
    ·rw [cdA (.inr hp)];omega
    ·rw [scanDown_go h1 hp];have:=dpA p d i j;omega
   ·rw [cdA (.inl h1)];omega
theorem wsA {lt:Int→Int→Bool} {D0 D:Array Int} {lo hi pv i2 j2:Nat} (hD:D=swp D0 lo pv) (hi2:i2=scanUp (λ x=>lt x D[lo]!) D (hi-1) (lo+1)) (hj2:j2=scanDown (λ x=>!lt x D[lo]!) D i2 (hi-1)) :
 partition lt D0 lo hi pv=if i2 > j2 then (j2,true,swp D j2 lo) else ((partLoop lt lo (i2+1) (j2-1) (swp D i2 j2)).1,false,swp (partLoop lt lo (i2+1) (j2-1) (swp D i2 j2)).2 (partLoop lt lo (i2+1) (j2-1) (swp D i2 j2)).1 lo):=by
 subst hj2 hi2 hD;rfl
theorem partLoop_eq {lt:Int→Int→Bool} {d:Array Int} {a i j i2 j2:Nat} (hi2:i2=scanUp (λ x=>lt x d[a]!) d j i) (hj2:j2=scanDown (λ x=>!lt x d[a]!) d i2 j) (h1:1≤i) :
 partLoop lt a i j d=if i2 > j2 then (j2,d) else partLoop lt a (i2+1) (j2-1) (swp d i2 j2):=by
 have b1:=erA (λ x=>lt x d[a]!) d j _ i (Nat.le_refl _);have b2:=dpA (λ x=>!lt x d[a]!) d i2 j;rw [← hi2] at b1;rw [← hj2] at b2;rw [partLoop];simp only [← hi2,← hj2]
 by_cases h:i2 > j2
 ·rw [if_pos h,if_pos h]
 ·rw [if_neg h,if_neg h,dif_pos oZ]
theorem partEqLoop_eq {lt:Int→Int→Bool} {d:Array Int} {a i j i2 j2:Nat} (hi2:i2=scanUp (λ x=>!lt d[a]! x) d j i) (hj2:j2=scanDown (λ x=>lt d[a]! x) d i2 j) (h1:1≤i) :
 partEqLoop lt a i j d=if i2 > j2 then (i2,d) else partEqLoop lt a (i2+1) (j2-1) (swp d i2 j2):=by
 have b1:=erA (λ x=>!lt d[a]! x) d j _ i (Nat.le_refl _);have b2:=dpA (λ x=>lt d[a]! x) d i2 j;rw [← hi2] at b1;rw [← hj2] at b2;rw [partEqLoop];simp only [← hi2,← hj2]
 by_cases h:i2 > j2
 ·rw [if_pos h,if_pos h]
 ·rw [if_neg h,if_neg h,dif_pos oZ]
theorem f4A {D:Array Int} {i:Nat}:D.toList.getD i 0=D[i]!:=by
 by_cases h:i<D.size
 ·simp [List.getD,h]
 ·simp [List.getD,h,getElem!_neg]
theorem ccA (D:Array Int) (i j:Nat):(D.toList.set i D[j]!).set j D[i]! = (swp D i j).toList:=by
 unfold swp;simp
theorem c4A (D:Array Int):D.toList.length=D.size:=Array.length_toList
end Go.LA
end
section
namespace Go.LA
variable {P:Program} {N:Nn} {wb:World} {E:Env} {Q:Exit→Act→World→Prop}
theorem cuA {id:Nat} {l:Array Oper} {m:Bool} {c1 c':Code} {ι:Type} (J:ι→Env) (I:ι→World→Prop) (h1:CX P N wb (.seq (.region id l m) c1) E (Exit.then (RndW N J I (λ _=>0) 1) Q)) (h2:∀ i w,I i w→CX P N w c' (J i) Q):CX P N wb (.seq (.seq (.region id l m) c1) c') E Q:=by
 refine sfA ?_
 unfold CX at *;intro a w s;refine Code.wp_mono ?_ (h1 a w s);intro e a' w' h;cases e with
 | normal=>obtain ⟨i,⟨h3,h4⟩,-⟩:=h;exact h2 i w' h3 a' w' h4
 | exit id=>exact h
 | ret=>exact h
 | goto l=>exact h
 | panic v=>exact h
 | outgrown=>exact h
end Go.LA
namespace Go.Sort
theorem scanSorted_go {lt:Int→Int→Bool} {d:Array Int} {b i:Nat} (h:i<b) (hp:lt d[i]! d[i-1]! = false):scanSorted lt d b i=scanSorted lt d b (i+1):=by
 rw [scanSorted,if_pos (by simp [h,hp])]
theorem scanSorted_stop {lt:Int→Int→Bool} {d:Array Int} {b i:Nat} (h:¬ i<b∨lt d[i]! d[i-1]! = true):scanSorted lt d b i=i:=by
 rw [scanSorted,if_neg (by rcases h with h|h <;> simp [h])]
theorem scanSorted_bd {lt:Int→Int→Bool} {d:Array Int} {b:Nat}:∀ (m i:Nat),b-i≤m→i≤b→i≤scanSorted lt d b i∧scanSorted lt d b i≤b
 | m,i,hm,hi=>by
   by_cases h:i<b
   ·cases hp:lt d[i]! d[i-1]!
    ·rw [scanSorted_go h hp]
     cases m with
     | zero=>omega
     | succ m=>have:=scanSorted_bd (lt:=lt) (d:=d) (b:=b) m (i+1) oZ oZ;omega
    ·rw [scanSorted_stop (.inr hp)];exact ⟨Nat.le_refl _,hi⟩
   ·rw [scanSorted_stop (.inl h)];exact ⟨Nat.le_refl _,hi⟩
theorem shiftDown_size {lt:Int→Int→Bool}:∀ (j:Nat) (d:Array Int),(shiftDown lt j d).size=d.size
 | 0,d=>rfl
 | j+1,d=>by
   rw [shiftDown];split
   ·rfl
   ·rw [shiftDown_size j,swp_size]
theorem shiftUp_go {lt:Int→Int→Bool} {d:Array Int} {b j:Nat} (h:j<b) (hp:lt d[j]! d[j-1]! = true):shiftUp lt b j d=shiftUp lt b (j+1) (swp d j (j-1)):=by
 rw [shiftUp,if_pos h,if_neg (by simp [hp])]
theorem shiftUp_stop {lt:Int→Int→Bool} {d:Array Int} {b j:Nat} (h:¬ j<b∨lt d[j]! d[j-1]! = false):shiftUp lt b j d=d:=by
 rw [shiftUp]
 rcases h with h|h
 ·rw [if_neg h]
 ·split
  ·rw [if_pos (by simp [h])]
  ·rfl
theorem shiftUp_size {lt:Int→Int→Bool} {b:Nat}:∀ (m j:Nat) (d:Array Int),b-j≤m→(shiftUp lt b j d).size=d.size
 | m,j,d,hm=>by
   by_cases h:j<b
   ·cases hp:lt d[j]! d[j-1]!
    ·rw [shiftUp_stop (.inr hp)]
    ·rw [shiftUp_go h hp]
     cases m with
     | zero=>omega
     | succ m=>rw [shiftUp_size m (j+1) _ oZ,swp_size]
   ·rw [shiftUp_stop (.inl h)]
theorem pI_end {lt:Int→Int→Bool} {a b s i i3:Nat} {d:Array Int} (hi:i3=scanSorted lt d b i) (h:i3=b):partialIns lt a b (s+1) i d=(d,true):=by
 rw [partialIns];simp only [← hi];rw [if_pos h]
theorem pI_short {lt:Int→Int→Bool} {a b s i i3:Nat} {d:Array Int} (hi:i3=scanSorted lt d b i) (h:¬ i3=b) (h2:b-a<50):partialIns lt a b (s+1) i d=(d,false):=by
 rw [partialIns];simp only [← hi];rw [if_neg h,if_pos h2]
theorem pI_go {lt:Int→Int→Bool} {a b s i i3:Nat} {d D2 D3 D4:Array Int} (hi:i3=scanSorted lt d b i) (h:¬ i3=b) (h2:¬ b-a<50) (e2:D2=swp d i3 (i3-1))
 (e3:D3=if i3-a ≥ 2 then shiftDown lt (i3-1) D2 else D2) (e4:D4=if b-i3 ≥ 2 then shiftUp lt b (i3+1) D3 else D3):partialIns lt a b (s+1) i d=partialIns lt a b s i3 D4:=by
 subst e4 e3 e2;rw [partialIns];simp only [← hi];rw [if_neg h,if_neg h2]
end Go.Sort
end
section
namespace Go.LA
open Go.RowKit
section
variable {P:Program} {l:List Oper} {M:List Nat} {N:Nn} {ws wb:World} {K:List Oper→Env→Prop} {rest:List Oper} {E:Env} {Q:Exit→Act→World→Prop} {m:Nat} {C:World→Env→Prop}
variable {d:Tmp} {ty t t':TypeId} {pos:String} {after:Array Edge} {g:Option (Nat × Bool)} {x y z:Operand} {k kd:IntKind}
theorem OwnI.keepRow {base e e' b:Nat} {kd:IntKind} {w:World} {v:Value} {xs:List Int} {cur cs:Array Value} {j:Nat × Nat} (h:OwnI base e kd w v xs) (hb:w.heap[b]?=some (.cells cur e' j)) (hne:e≠e'):OwnI base e kd (w.setRow b cs) v xs:=by
 refine ⟨h.1,?_⟩
 rcases h.2 with hn|⟨g,cap,cr,hv,hg,hx,r⟩
 ·exact .inl hn
 ·refine .inr ⟨g,cap,cr,hv,hg,?_,r⟩
  rw [setRow_other w b g cs (λ he=>?_)]
  ·exact hx
  ·subst he
   rw [hx] at hb;simp only [Option.some.injEq,Obj.cells.injEq] at hb;exact hne hb.2.1
theorem ixA {w0:World} {e e2 b n cap j base2:Nat} {c:Int} {xs ys:List Int} {kd2:IntKind} {v2:Value} (hm:l[m]?=some ⟨none,.store t x y,ty,pos,after,none⟩) (he:Ext w0 ws) (ho:OwnI w0.heap.size e kd ws (.slice (some ⟨b,0,none⟩) n cap) xs)
 (ho2:OwnI base2 e2 kd2 ws v2 ys) (hne:e2≠e)
 (hx:opE E x=.val (.pointer (some ⟨b,j,none⟩))) (hy:opE E y=.val (.int kd c)) (hj:j<xs.length) (hs:∀ w,(sizeOf t).run P w=.ok 1 w)
 (h:∀ w',Ext w0 w'→OwnI w0.heap.size e kd w' (.slice (some ⟨b,0,none⟩) n cap) (xs.set j c)→OwnI base2 e2 kd2 w' v2 ys→C w' (vals E)):MX P N l Q m ws E C:=by
 obtain ⟨b',cap',cur,hv,hb0,hb,hnc,hcm,hsz,hcur⟩:=ho.row oZ;cases hv;have e3:(cur.toList.take j++[Value.int kd c]++cur.toList.drop (j+[Value.int kd c].length)).toArray=cur.setIfInBounds j (.int kd c):=by
  apply Array.ext'
  rw [Array.toList_setIfInBounds,List.set_eq_take_append_cons_drop,if_pos (by simp;omega)];simp
 refine eoA (news:=[.int kd c]) hm hx hy hb rfl hs (by simp;omega) (by simp [Value.oneCell']) (λ w hw=>⟨_,λ t u hu=>bkA t u hu,?_⟩);rw [e3];exact h _ ((he.trans hw).setRow hb0 _) (OwnI.set hb0 (hw.block hb) hnc hcm hsz hcur j hj c) ((ho2.ext hw).keepRow (hw.block hb) hne)
theorem zzA {s:ByteArray} {i:Int} (hg:b8A l E g=some true) (ht:P.underlying t=some .string) (hx:opE E x=.val (.string s)) (hy:opE E y=.val (.int k i)) (h0:0≤i) (h1:i<256)
 (hs:∀ j,j<256→s[j]?=some (UInt8.ofNat (Go.Sort.bitsLen j))) (h:∀ v:Nat,v=Go.Sort.bitsLen i.toNat→v≤8→LA P l wb K rest ((d,.val (.int .u8 v))::E)):LA P l wb K (⟨some d,.index t x y,ty,pos,after,g⟩::rest) E:=by
 obtain ⟨j,rfl⟩:∃ j:Nat,i=j:=⟨i.toNat,by omega⟩;have hb:Go.Sort.bitsLen j≤8:=(Go.Sort.bitsLen_le_iff j 8).2 oZ;refine b1A _ hg (beA λ a w he hh=>?_) (h (Go.Sort.bitsLen j) (by simp) hb);have e1:=hh x (by simp [Op.operands]);have e2:=hh y (by simp [Op.operands]);rw [hx] at e1;rw [hy] at e2;simp only [AD.ok] at e1 e2;have hsj:=hs j oZ;have hu:(UInt8.ofNat (Go.Sort.bitsLen j)).toNat=Go.Sort.bitsLen j:=by simp;omega
 have hrun:(Instr.index t (.string s) (.int k (j:Int))).run P w=.ok (.int .u8 (Go.Sort.bitsLen j:Nat)) w:=by
  simp [Instr.index,run_underlying ht,asIntOf,hsj,hu]
 simp only [execOp,e1,e2,Sem.run_bind,hrun,Result.andThen_ok,Sem.run_pure]
theorem msA {n m:Int} (hg:b8A l E g=some true) (hx:opE E x=.val (.int .u64 n)) (hy:opE E y=.val (.int .u64 m)) (h:∀ c:Nat,c<18446744073709551616→LA P l wb K rest ((d,.val (.int .u64 (c:Int)))::E))
 (hn:0≤n∧n<18446744073709551616) (hm:0≤m∧m<18446744073709551616):LA P l wb K (⟨some d,.binOp .xor t x y t',ty,pos,after,g⟩::rest) E:=by
 obtain ⟨n,rfl⟩:∃ j:Nat,n=j:=⟨n.toNat,by omega⟩;obtain ⟨m,rfl⟩:∃ j:Nat,m=j:=⟨m.toNat,by omega⟩;refine chA (.inr (.inr (.inl rfl))) hg hx hy ?_
 rw [bits_xor_u64_nat n m oZ oZ];exact h _ (Nat.xor_lt_two_pow (n:=64) oZ oZ)
theorem ycA {n:Int} {m:Nat} (hg:b8A l E g=some true) (hx:opE E x=.val (.int .u64 n)) (hy:opE E y=.val (.int .u64 (m:Int))) (h:∀ c:Nat,c≤m→LA P l wb K rest ((d,.val (.int .u64 (c:Int)))::E))
 (hn:0≤n∧n<18446744073709551616) (hm:m<18446744073709551616):LA P l wb K (⟨some d,.binOp .and t x y t',ty,pos,after,g⟩::rest) E:=by
 obtain ⟨n,rfl⟩:∃ j:Nat,n=j:=⟨n.toNat,by omega⟩;refine chA (.inl rfl) hg hx hy ?_
 rw [bits_and_u64_nat n m oZ oZ];exact h _ Nat.and_le_right
end
end Go.LA
namespace Go.Sort
theorem bitsLen_div {x k:Nat} (h:2 ^ k≤x):bitsLen x=k+bitsLen (x / 2 ^ k):=by
 have hp:0<2 ^ k:=Nat.two_pow_pos k;have h0:x≠0:=oZ;have h1:x / 2 ^ k≠0:=by have:=(Nat.le_div_iff_mul_le hp).2 (by omega:1*2 ^ k≤x);omega
 apply Nat.le_antisymm
 ·rw [bitsLen_le_iff,Nat.pow_add,Nat.mul_comm]
  exact (Nat.div_lt_iff_lt_mul hp).1 (lt_two_pow_bitsLen _)
 ·have hk:k≤bitsLen x:=by
   rcases Nat.lt_or_ge (bitsLen x) k with h2|h2
   ·have:=lt_two_pow_bitsLen x
    have:=Nat.pow_le_pow_right (n:=2) oZ (Nat.le_of_lt h2);omega
   ·exact h2
  have:bitsLen (x / 2 ^ k)≤bitsLen x-k:=by
   rw [bitsLen_le_iff,Nat.div_lt_iff_lt_mul hp,← Nat.pow_add,Nat.sub_add_cancel hk];exact lt_two_pow_bitsLen x
  omega
end Go.Sort
end
section
namespace Go.LA
open Go.RowKit
section
variable {P:Program} {l:List Oper} {M:List Nat} {N:Nn} {ws wb:World} {K:List Oper→Env→Prop} {rest:List Oper} {E:Env} {Q:Exit→Act→World→Prop} {m:Nat} {C:World→Env→Prop}
variable {d:Tmp} {ty t t':TypeId} {pos:String} {after:Array Edge} {g:Option (Nat × Bool)} {x y z:Operand} {k kd:IntKind}
theorem y1A {w0:World} {e e2 b n cap j base2:Nat} {c:Int} {xs ys:List Int} {kd2:IntKind} {v2:Value} (hg:g=none) (he:Ext w0 wb) (ho:OwnI w0.heap.size e kd wb (.slice (some ⟨b,0,none⟩) n cap) xs)
 (ho2:OwnI base2 e2 kd2 wb v2 ys) (hne:e2≠e)
 (hx:opE E x=.val (.pointer (some ⟨b,j,none⟩))) (hy:opE E y=.val (.int kd c)) (hj:j<xs.length) (hs:∀ w,(sizeOf t).run P w=.ok 1 w)
 (h:∀ w',Ext w0 w'→OwnI w0.heap.size e kd w' (.slice (some ⟨b,0,none⟩) n cap) (xs.set j c)→OwnI base2 e2 kd2 w' v2 ys→LX P N w' l Q rest (vals E)):LX P N wb l Q (⟨none,.store t x y,ty,pos,after,g⟩::rest) E:=by
 obtain ⟨b',cap',cur,hv,hb0,hb,hnc,hcm,hsz,hcur⟩:=ho.row oZ;cases hv;exact bhA hg hx hy hb hs oZ rfl rfl (λ w hw=>h _ ((he.trans hw).setRow hb0 _) (OwnI.set hb0 (hw.block hb) hnc hcm hsz hcur j hj c) ((ho2.ext hw).keepRow (hw.block hb) hne))
theorem dnA {c c':Value} (hg:b8A l E g=some true) (hx:opE E x=.val (.tuple #[c,c'])) (h:LA P l wb K rest ((d,.val c)::E)):LA P l wb K (⟨some d,.extract x 0,ty,pos,after,g⟩::rest) E :=
 b1A _ hg (beA λ a w he hh=>by
  have e1:=hh x (by simp [Op.operands]);rw [hx] at e1;simp only [AD.ok] at e1;simp [execOp,e1,Instr.extract]) h
theorem dmA {c c':Value} (hg:b8A l E g=some true) (hx:opE E x=.val (.tuple #[c,c'])) (h:LA P l wb K rest ((d,.val c')::E)):LA P l wb K (⟨some d,.extract x 1,ty,pos,after,g⟩::rest) E :=
 b1A _ hg (beA λ a w he hh=>by
  have e1:=hh x (by simp [Op.operands]);rw [hx] at e1;simp only [AD.ok] at e1;simp [execOp,e1,Instr.extract]) h
theorem jgA {e:TypeId} {z0:Value} (hg:g=none) (hd:d<N.n) (hz:∀ w,(zeroValue e).run P w=.ok z0 w)
 (h:∀ b w',Ext wb w'→wb.heap.size≤b→w'.heap[b]?=some (.cells z0.cells e (0,0))→LX P N w' l Q rest ((d,.val (.pointer (some ⟨b,0,none⟩)))::E)) :
 LX P N wb l Q (⟨some d,.alloc e,ty,pos,after,g⟩::rest) E:=by
 unfold LX;intro a w st;have ra:(Instr.alloc e true (.tuple #[])).run P w=.ok (.pointer (some ⟨w.heap.size,0,none⟩)) (w.alloc (.cells z0.cells e)):=by
  simp only [Instr.alloc,Sem.run_bind,hz,Result.andThen_ok];rfl
 refine wpList_plain hg λ Kc hK=>?_
 unfold Oper.wp;simp only [execOp,Sem.run_bind,ra,Result.andThen_ok,Sem.run_pure,Oper.upon];refine hK _ _ ?_
 have st1:St N wb ((d,.val (.pointer (some ⟨w.heap.size,0,none⟩)))::E) (a.put (some d) (.pointer (some ⟨w.heap.size,0,none⟩))) (w.alloc (.cells z0.cells e)) :=
  st.push (Ext.alloc _ _) (dst:=some d) (r:=.val _) (λ d' hd'=>by cases hd';exact hd) (.inr rfl)
 have h2:=h w.heap.size (w.alloc (.cells z0.cells e)) (st.ext.trans (Ext.alloc _ _)) st.ext.size (heap_alloc_new w _);unfold LX at h2;exact h2 _ _ ⟨st1.sz,st1.df,Ext.refl _,st1.sat⟩
theorem oaA {f:FuncId} {ats:Array TypeId} {fv:Operand} {q q5:Operand} {v1 v2 v3 v4 v5:Value} (hg:g=none) (hd:d<N.n) (hfv:opE E fv=.val (.func (.func f) #[] #[])) (hv1:opE E x=.val v1) (hv2:opE E y=.val v2) (hv3:opE E z=.val v3) (hv4:opE E q=.val v4) (hv5:opE E q5=.val v5) (R:Value→World→Prop)
 (hc:∀ w,Ext wb w→Fc P f #[v1,v2,v3,v4,v5] w (λ e w'=>∃ v,e=.returned v∧R v w')) (h:∀ v w,R v w→LX P N w l Q rest ((d,.val v)::vals E)) :
 LX P N wb l Q (⟨some d,.call ⟨.value fv,#[x,y,z,q,q5],ats⟩,ty,pos,after,g⟩::rest) E:=by
 unfold LX;intro a w st;have h0:=st.opd fv;rw [hfv] at h0;simp only [AD.ok] at h0;have ev1:=st.opd x;rw [hv1] at ev1;simp only [AD.ok] at ev1;have ev2:=st.opd y;rw [hv2] at ev2;simp only [AD.ok] at ev2;have ev3:=st.opd z;rw [hv3] at ev3;simp only [AD.ok] at ev3;have ev4:=st.opd q;rw [hv4] at ev4;simp only [AD.ok] at ev4;have ev5:=st.opd q5;rw [hv5] at ev5;simp only [AD.ok] at ev5;have hcc:=hc w st.ext;refine wpList_plain hg λ Kc hK=>?_
 unfold Oper.wp;rw [cgA h0 (Fc.run hcc _ _)];simp only [Oper.upon,List.map_toArray,List.map_cons,List.map_nil,ev1,ev2,ev3,ev4,ev5];refine hcc.calls.mono ?_
 rintro e w' ⟨v,rfl,hv⟩;refine hK _ _ ?_
 have h2:=h v w' hv;unfold LX at h2;exact h2 _ _ ((st.vals (w':=w')).push (Ext.refl _) (dst:=some d) (r:=.val v) (λ d' hd'=>by cases hd';exact hd) (.inr rfl))
end
end Go.LA
end
section
namespace Go.LA
open Go.RowKit Go.ArrP
theorem exA {α:Type} {d:α} {a b:List α} {n:Nat} (h:n<a.length):(a++b).getD n d=a.getD n d:=by
 rw [List.getD_eq_getElem?_getD,List.getD_eq_getElem?_getD,List.getElem?_append_left h]
theorem dfA {α:Type} {d:α} {a b:List α} {n:Nat} (h:a.length≤n):(a++b).getD n d=b.getD (n-a.length) d:=by
 rw [List.getD_eq_getElem?_getD,List.getD_eq_getElem?_getD,List.getElem?_append_right h]
noncomputable def TOP:Nat:=Classical.choose (⟨4294967296,rfl⟩:∃ n:Nat,n=4294967296)
theorem enA:TOP=4294967296:=Classical.choose_spec (⟨4294967296,rfl⟩:∃ n:Nat,n=4294967296)
def blk (p:Nat→Bool) (k i:Nat):Bool:=decide (i<65536) && p (k*65536+i)
theorem zvA {b c:Bool} (h:b=true):(b && c)=c:=by rw [h];rfl
theorem rpA {b c:Bool} (h:b=false):(b && c)=false:=by rw [h];rfl
theorem cyA {p:Nat→Bool} {k i:Nat} (h:i<65536):blk p k i=p (k*65536+i):=zvA (decide_eq_true h)
theorem xtA (p:Nat→Bool) (k:Nat):blk p k 65536=false:=rpA (decide_eq_false oZ)
theorem epA {p:Nat→Bool} {k i:Nat} (h:¬ i<65536):blk p k i=false:=rpA (decide_eq_false h)
noncomputable def cdec (P:Prop):Bool:=@decide P (Classical.propDecidable P)
theorem cdec_iff {P:Prop}:cdec P=true↔P:=@decide_eq_true_iff P (Classical.propDecidable P)
noncomputable def ne (p:Nat→Bool) (k:Nat):Bool:=cdec (∃ i,i<65536∧p (k*65536+i)=true)
theorem ne_iff {p:Nat→Bool} {k:Nat}:ne p k=true↔∃ i,i<65536∧p (k*65536+i)=true:=cdec_iff
theorem wxA {p:Nat→Bool} {k:Nat} (h:ne p k=false) {i:Nat} (hi:i<65536):p (k*65536+i)=false:=by
 cases hp:p (k*65536+i)
 ·rfl
 ·rw [ne_iff.2 ⟨i,hi,hp⟩] at h;cases h
theorem ne_cnt {p:Nat→Bool} {k:Nat}:ne p k=true↔0<cnt (blk p k) 65536:=by
 constructor
 ·intro h
  obtain ⟨i,hi,hp⟩:=ne_iff.1 h;have h1:cnt (blk p k) (i+1)=cnt (blk p k) i+1:=by simp only [cnt,cyA hi,hp,if_true]
  have h2:=cnt_mono (blk p k) (m:=i+1) 65536 oZ;omega
 ·intro h
  cases hn:ne p k
  ·rw [dxA 65536 (λ i hi=>by rw [cyA hi];exact wxA hn hi)] at h;omega
  ·rfl
theorem o5A {p:Nat→Bool} {k:Nat} (h:ne p k=false):blk p k=λ _=>false:=by
 funext i
 by_cases hi:i<65536
 ·rw [cyA hi];exact wxA h hi
 ·exact epA hi
theorem rdA (p:Nat→Bool) (B:Nat):∀ j,cnt p (B+j)=cnt p B+cnt (λ i=>p (B+i)) j
 | 0=>rfl
 | j+1=>by
   have ih:=rdA p B j;show cnt p (B+j)+_=cnt p B+(cnt (λ i=>p (B+i)) j+_);rw [ih,Nat.add_assoc];rfl
theorem xkA (p:Nat→Bool) (k:Nat) (j:Nat) (h:j≤65536):cnt p (k*65536+j)=cnt p (k*65536)+cnt (blk p k) j:=by
 rw [rdA,e3A (p:=blk p k) j (λ i hi=>cyA (p:=p) (k:=k) oZ)]
theorem kkA {p:Nat→Bool} {a:Nat}:∀ b,a≤b→(∀ x,a≤x→x<b→p x=false)→cnt p b=cnt p a
 | 0,h,_=>by obtain rfl:a=0:=oZ
             rfl
 | b+1,h,hp=>by
   by_cases e:a=b+1
   ·subst e;rfl
   ·simp only [cnt,kkA b oZ (λ x h1 h2=>hp x h1 oZ),hp b oZ oZ];rfl
noncomputable def nk (p:Nat→Bool):Nat:=cnt (ne p) 65536
noncomputable def b7A (p:Nat→Bool):List Int:=aeA (ne p) 65536
noncomputable def kp (p:Nat→Bool) (i:Nat):Nat:=if i<nk p then ((b7A p).getD i 0).toNat else 65536
theorem jdA (p:Nat→Bool):nk p≤65536:=cnt_le _ _
theorem bfA (p:Nat→Bool):(b7A p).length=nk p:=ayA _ _
theorem ieA (p:Nat→Bool):Inc (b7A p):=bzA _ _
theorem qnA (p:Nat→Bool):Low (b7A p):=e1A _
theorem gjA {p:Nat→Bool} {i:Nat} (h:i<nk p):kp p i<65536∧ne p (kp p i)=true∧cnt (ne p) (kp p i)=i∧(b7A p).getD i 0=((kp p i:Nat):Int):=by
 obtain ⟨j,h1,h2,h3,h4⟩:=ovA (ne p) h;have e:kp p i=j:=by unfold kp;rw [if_pos h];unfold b7A;rw [h4];rfl
 rw [e];exact ⟨h1,h2,h3,h4⟩
theorem qmA {p:Nat→Bool} {i:Nat} (h:nk p≤i):kp p i=65536:=by unfold kp;rw [if_neg oZ]
theorem kp_le (p:Nat→Bool) (i:Nat):kp p i≤65536:=by
 by_cases h:i<nk p
 ·have:=(gjA h).1;omega
 ·rw [qmA oZ];exact Nat.le_refl _
theorem nrA {p:Nat→Bool} {i:Nat} (h:i≤nk p):cnt (ne p) (kp p i)=i:=by
 by_cases e:i<nk p
 ·exact (gjA e).2.2.1
 ·obtain rfl:i=nk p:=oZ
  rw [qmA (Nat.le_refl _)];rfl
theorem zaA {p:Nat→Bool} {i:Nat} (h:i<nk p) {k:Nat} (h1:kp p i<k) (h2:k<kp p (i+1)):ne p k=false:=by
 cases hk:ne p k
 ·rfl
 ·have a1:=gjA h
  have a2:=nrA (p:=p) (i:=i+1) h;have c1:cnt (ne p) (kp p i+1)=i+1:=by simp only [cnt,a1.2.1,a1.2.2.1,if_true]
  have c2:=cnt_mono (ne p) (m:=kp p i+1) k oZ;have c3:cnt (ne p) (k+1)=cnt (ne p) k+1:=by simp only [cnt,hk,if_true]
  have c4:=cnt_mono (ne p) (m:=k+1) (kp p (i+1)) oZ;omega
theorem tpA {p:Nat→Bool} {k:Nat} (h:k<kp p 0):ne p k=false:=by
 cases hk:ne p k
 ·rfl
 ·have a2:=nrA (p:=p) (i:=0) (Nat.zero_le _)
  have c3:cnt (ne p) (k+1)=cnt (ne p) k+1:=by simp only [cnt,hk,if_true]
  have c4:=cnt_mono (ne p) (m:=k+1) (kp p 0) oZ;omega
theorem kbA {p:Nat→Bool} {i:Nat} (h:i<nk p):kp p i<kp p (i+1):=by
 have a1:=gjA h;have a2:=nrA (p:=p) (i:=i+1) h
 rcases Nat.lt_or_ge (kp p i) (kp p (i+1)) with h1|h1
 ·exact h1
 ·have:=cnt_mono (ne p) (m:=kp p (i+1)) (kp p i) h1
  omega
theorem toA {p:Nat→Bool} {k:Nat} (hk:k<65536) (h:ne p k=true):cnt (ne p) k<nk p∧kp p (cnt (ne p) k)=k:=by
 have c3:cnt (ne p) (k+1)=cnt (ne p) k+1:=by simp only [cnt,h,if_true]
 have c4:=cnt_mono (ne p) (m:=k+1) 65536 oZ;have h1:cnt (ne p) k<nk p:=by unfold nk;omega
 refine ⟨h1,?_⟩;have:=fvA (ne p) 65536 k hk h;unfold kp;rw [if_pos h1];unfold b7A;rw [this];rfl
theorem vlA {p:Nat→Bool} {x:Nat} (h:ne p (x / 65536)=false):p x=false:=by
 have:=wxA h (Nat.mod_lt x (by omega:0<65536));rwa [show x / 65536*65536+x % 65536=x by omega] at this
theorem vrA {p:Nat→Bool} {i:Nat} (h:i<nk p) {x:Nat} (h1:(kp p i+1)*65536≤x) (h2:x<kp p (i+1)*65536):p x=false :=
 vlA (zaA h oZ oZ)
theorem nvA {p:Nat→Bool} {x:Nat} (h:x<kp p 0*65536):p x=false:=vlA (tpA oZ)
theorem trA (p:Nat→Bool):cnt p (kp p 0*65536)=0:=dxA _ (λ i hi=>nvA hi)
theorem x6A {p:Nat→Bool} {i:Nat} (h:i<nk p):cnt p (kp p (i+1)*65536)=cnt p (kp p i*65536)+cnt (blk p (kp p i)) 65536:=by
 rw [kkA (p:=p) (a:=(kp p i+1)*65536) (kp p (i+1)*65536) (Nat.mul_le_mul_right _ (kbA h)) (λ x h1 h2=>vrA h h1 h2)];have:=xkA p (kp p i) 65536 (Nat.le_refl _);rw [show (kp p i+1)*65536=kp p i*65536+65536 by omega];exact this
theorem qoA (p:Nat→Bool):kp p (nk p)*65536=TOP:=by rw [qmA (Nat.le_refl _),enA]
theorem fjA (k:Nat):(k+1)*65536=k*65536+65536:=Nat.succ_mul k 65536
def upd (p:Nat→Bool) (k:Nat) (q:Nat→Bool) (x:Nat):Bool:=if x / 65536=k then q (x % 65536) else p x
theorem jwA (p:Nat→Bool) (k:Nat) {q:Nat→Bool} (hq:∀ i,65536≤i→q i=false):blk (upd p k q) k=q:=by
 funext i
 by_cases hi:i<65536
 ·rw [cyA hi];unfold upd;rw [if_pos oZ,show (k*65536+i) % 65536=i by omega]
 ·rw [epA hi,hq i oZ]
theorem gdA (p:Nat→Bool) {k k':Nat} (q:Nat→Bool) (h:k'≠k):blk (upd p k q) k'=blk p k':=by
 funext i
 by_cases hi:i<65536
 ·rw [cyA hi,cyA hi];unfold upd;rw [if_neg oZ]
 ·rw [epA hi,epA hi]
theorem z6A {p q:Nat→Bool} {k k':Nat} (h:blk p k=blk q k'):ne p k=ne q k':=by
 rw [Bool.eq_iff_iff,ne_cnt,ne_cnt,h]
theorem upd_ne (p:Nat→Bool) {k:Nat} {q:Nat→Bool} (hq:∀ i,65536≤i→q i=false) (hn:0<cnt q 65536) (j:Nat):ne (upd p k q) j=(ne p j || decide (j=k)):=by
 by_cases e:j=k
 ·subst e
  rw [ne_cnt.2 (by rw [jwA p j hq];exact hn)];simp
 ·rw [z6A (gdA p q e)];simp [e]
theorem mwA (p:Nat→Bool) {k:Nat} {q:Nat→Bool} (hq:∀ i,65536≤i→q i=false) (hn:0<cnt q 65536) (h:ne p k=true):b7A (upd p k q)=b7A p:=by
 unfold b7A;exact dqA _ (λ j _=>by
  rw [upd_ne p hq hn]
  by_cases e:j=k
  ·subst e;rw [h];rfl
  ·simp [e])
theorem i1A (p:Nat→Bool) {k:Nat} (hk:k<65536) {q:Nat→Bool} (hq:∀ i,65536≤i→q i=false) (hn:0<cnt q 65536) (h:ne p k=false) :
 b7A (upd p k q)=(b7A p).take (cnt (ne p) k)++[(k:Int)]++(b7A p).drop (cnt (ne p) k):=by
 have hf:hdA (b7A p) (k:Int)=false:=by
  rw [gmA _ (ieA p)];have:=cvA (ne p) hk;unfold bxA at this;exact this.trans h
 have hb:bsS (b7A p) (k:Int)=cnt (ne p) k:=lmA (ne p) k oZ;have hw:=spA (x:=(k:Int)) (ieA p) (qnA p) oZ oZ;unfold okA at hw;rw [hf] at hw;simp only [Bool.false_eq_true,if_false,hb] at hw;rw [hw];unfold b7A;exact dqA _ (λ j hj=>by
  rw [upd_ne p hq hn];unfold zwA;rw [cvA _ hj];simp)
theorem o2A {p q:Nat→Bool} {k:Nat} (h:∀ j,q j=(p j || decide (j=k))) (hk:p k=false):∀ n,cnt q n=cnt p n+if k<n then 1 else 0
 | 0=>rfl
 | n+1=>by
   simp only [cnt,o2A h hk n,h n]
   by_cases e:n=k
   ·subst e;simp [hk]
   ·simp only [e,decide_false,Bool.or_false]
    by_cases e2:k<n
    ·have e3:k<n+1:=oZ
     simp only [e2,e3,if_true];omega
    ·have e3:¬ k<n+1:=oZ
     simp only [e2,e3,if_false];omega
theorem pjA (p:Nat→Bool) {k:Nat} (hk:k<65536) {q:Nat→Bool} (hq:∀ i,65536≤i→q i=false) (hn:0<cnt q 65536) (h:ne p k=false):nk (upd p k q)=nk p+1:=by
 unfold nk;rw [o2A (upd_ne p hq hn) h,if_pos hk]
theorem vbA (p:Nat→Bool) {k:Nat} (hk:k<65536) {q:Nat→Bool} (hq:∀ i,65536≤i→q i=false) (hn:0<cnt q 65536) (h:ne p k=false) {i:Nat} (hi:i<nk p+1) :
 kp (upd p k q) i=if i<cnt (ne p) k then kp p i else if i=cnt (ne p) k then k else kp p (i-1):=by
 have hc:cnt (ne p) k≤nk p:=cnt_mono _ _ oZ;have hl:=bfA p;have hu:kp (upd p k q) i=((b7A (upd p k q)).getD i 0).toNat:=by unfold kp;rw [if_pos (by rw [pjA p hk hq hn h];exact hi)]
 rw [hu,i1A p hk hq hn h]
 split
 ·rename_i h1
  rw [List.append_assoc,exA (by rw [List.length_take];omega)];have:((b7A p).take (cnt (ne p) k)).getD i 0=(b7A p).getD i 0:=by
   rw [List.getD_eq_getElem?_getD,List.getD_eq_getElem?_getD,List.getElem?_take_of_lt h1]
  rw [this];unfold kp;rw [if_pos oZ]
 ·rename_i h1
  have hlen:((b7A p).take (cnt (ne p) k)++[(k:Int)]).length=cnt (ne p) k+1:=by rw [List.length_append,List.length_take,List.length_singleton];omega
  split
  ·rename_i h2
   rw [exA oZ,dfA (by rw [List.length_take];omega),List.length_take,show i-min (cnt (ne p) k) (b7A p).length=0 by omega];rfl
  ·rename_i h2
   rw [dfA oZ,hlen,List.getD_eq_getElem?_getD,List.getElem?_drop,← List.getD_eq_getElem?_getD,show cnt (ne p) k+(i-(cnt (ne p) k+1))=i-1 by omega];unfold kp;rw [if_pos oZ]
theorem w4A (p:Nat→Bool) {k:Nat} {q:Nat→Bool} (hq:∀ i,65536≤i→q i=false) (hn:0<cnt q 65536) (h:ne p k=true) (i:Nat):kp (upd p k q) i=kp p i:=by
 have e:=mwA p hq hn h;have e2:nk (upd p k q)=nk p:=by rw [← bfA,← bfA,e]
 unfold kp;rw [e,e2]
abbrev Sp:=Int × Int
def spL (p:Nat→Bool) (T:Nat):List Sp:=(opn p T).map (λ x=>(x.1,x.1+x.2+1))
theorem k4A (p:Nat→Bool):∀ T,∀ x ∈ rnC p T,x.1+x.2+1<T
 | 0,x,h=>by cases h
 | T+1,x,h=>by
   simp only [rnC,List.mem_append] at h
   rcases h with h|h
   ·have:=k4A p T x h;omega
   ·split at h
    ·simp only [List.mem_singleton] at h;subst h;dsimp only;omega
    ·cases h
theorem edA {p:Nat→Bool} {a b:Nat} (hab:a≤b) (hp:∀ x,a≤x→x<b→p x=false):spL p b=spL p a:=by
 unfold spL;rw [fuA b hab hp]
theorem gwA (p:Nat→Bool):spL p 0=[]:=rfl
theorem kmA {p:Nat→Bool} {a b:Nat} (hab:a<b) (hp:∀ x,a≤x→x<b→p x=true):bel p b=true:=by
 cases b with
 | zero=>omega
 | succ b=>exact hp b oZ oZ
theorem kgA {p:Nat→Bool} {a:Nat}:∀ b,a<b→(∀ x,a≤x→x<b→p x=true)→rnC p b=rnC p a∧frm p b=if bel p a then frm p a else a
 | 0,h,_=>by omega
 | b+1,h,hp=>by
   have hb:=hp b oZ oZ
   by_cases e:a=b
   ·subst e
    simp only [rnC,frm,hb,Bool.not_true,Bool.false_and,Bool.true_and,Bool.false_eq_true,if_false,List.append_nil];cases bel p a <;> simp
   ·obtain ⟨i1,i2⟩:=kgA b oZ (λ x h1 h2=>hp x h1 oZ)
    have hbb:=kmA (show a<b by omega) (λ x h1 h2=>hp x h1 oZ);simp only [rnC,frm,hb,hbb,Bool.not_true,Bool.false_and,Bool.and_false,Bool.false_eq_true,if_false,List.append_nil,i1,i2,and_self]
theorem pnA {p:Nat→Bool} {a:Nat} (h:bel p a=true):spL p a=(rnC p a).map (λ x=>(x.1,x.1+x.2+1))++[((frm p a:Int),(a:Int))]:=by
 unfold spL;rw [fdA h,List.map_append,List.map_singleton];have:(frm p a:Int)+((a:Int)-frm p a-1)+1=a:=oZ;rw [this]
theorem poA {p:Nat→Bool} {a:Nat} (h:bel p a=false):spL p a=(rnC p a).map (λ x=>(x.1,x.1+x.2+1)):=by
 unfold spL;rw [fgA h]
theorem ppA {p:Nat→Bool} {a b:Nat} (hab:a<b) (hp:∀ x,a≤x→x<b→p x=true) (h:bel p a=false):spL p b=spL p a++[((a:Int),(b:Int))]:=by
 obtain ⟨i1,i2⟩:=kgA b hab hp;rw [pnA (kmA hab hp),poA h,i1,i2,h];rfl
theorem pqA {p:Nat→Bool} {a b:Nat} (hab:a<b) (hp:∀ x,a≤x→x<b→p x=true) (h:bel p a=true) :
 0<(spL p a).length∧spL p b=(spL p a).set ((spL p a).length-1) (((spL p a).getD ((spL p a).length-1) (0,0)).1,(b:Int)):=by
 obtain ⟨i1,i2⟩:=kgA b hab hp;rw [pnA (kmA hab hp),pnA h,i1,i2,h];refine ⟨by simp,?_⟩;rw [List.length_append,List.length_singleton,Nat.add_sub_cancel,dfA (Nat.le_refl _),Nat.sub_self,List.set_append_right _ _ (Nat.le_refl _),Nat.sub_self];rfl
theorem sp_bel {p:Nat→Bool} {a:Nat}:bel p a=true↔0<(spL p a).length∧((spL p a).getD ((spL p a).length-1) (0,0)).2=a:=by
 constructor
 ·intro h
  rw [pnA h];refine ⟨by simp,?_⟩;rw [List.length_append,List.length_singleton,Nat.add_sub_cancel,dfA (Nat.le_refl _),Nat.sub_self];rfl
 ·rintro ⟨h1,h2⟩
  cases h:bel p a
  ·rw [poA h] at h1 h2
   have hm:((rnC p a).map (λ x=>(x.1,x.1+x.2+1))).getD (((rnC p a).map (λ x:Rn=>(x.1,x.1+x.2+1))).length-1) (0,0) ∈ (rnC p a).map (λ x=>(x.1,x.1+x.2+1)):=by
    rw [List.getD_eq_getElem?_getD,List.getElem?_eq_getElem oZ];exact List.getElem_mem _
   obtain ⟨y,hy,e⟩:=List.mem_map.1 hm;have:=k4A p a y hy;rw [← e] at h2;dsimp only at h2;omega
  ·rfl
theorem pxA (p:Nat→Bool):∀ T,∀ x ∈ rnC p T,0≤x.1∧0≤x.2
 | 0,x,h=>by cases h
 | T+1,x,h=>by
   simp only [rnC,List.mem_append] at h
   rcases h with h|h
   ·exact pxA p T x h
   ·split at h
    ·rename_i hc
     simp only [Bool.and_eq_true] at hc;have:=g5A p T hc.2;simp only [List.mem_singleton] at h;subst h;dsimp only;omega
    ·cases h
theorem sp_bd (p:Nat→Bool) (T:Nat):∀ x ∈ spL p T,0≤x.1∧x.1<x.2∧x.2≤T:=by
 intro x hx;cases h:bel p T
 ·rw [poA h] at hx
  obtain ⟨y,hy,rfl⟩:=List.mem_map.1 hx;have h1:=k4A p T y hy;have h2:=pxA p T y hy;dsimp only;omega
 ·rw [pnA h] at hx
  rcases List.mem_append.1 hx with hx|hx
  ·obtain ⟨y,hy,rfl⟩:=List.mem_map.1 hx
   have h1:=k4A p T y hy;have h2:=pxA p T y hy;dsimp only;omega
  ·rw [List.mem_singleton] at hx;subst hx
   have:=g5A p T h;dsimp only;omega
theorem n2A (p:Nat→Bool):∀ T,(spL p T).length≤cnt p T
 | 0=>Nat.le_refl _
 | T+1=>by
   have ih:=n2A p T;unfold spL at ih ⊢;rw [List.length_map] at ih ⊢;cases hp:p T
   ·rw [giA hp];simp only [cnt,hp];exact ih
   ·cases hb:bel p T
    ·rw [g6A hp hb];simp only [cnt,hp,List.length_append,List.length_singleton];simp;omega
    ·have e1:=fdA hb
     rw [e1] at ih;rw [f1A hp hb];simp only [cnt,hp,List.length_append,List.length_singleton] at ih ⊢;simp;omega
def khA (rs:List Rn):Nat→Int
 | 0=>0
 | k+1=>fst rs k+mor rs k+1
theorem weA {q:Nat→Bool} {j:Nat} (hj:j<(alA q).length):∃ f m g:Nat,fst (alA q) j=f∧mor (alA q) j=m∧khA (alA q) j=g∧g≤f∧f+m+1≤65536 ∧
 (∀ i,f≤i→i≤f+m→q i=true)∧(∀ i,g≤i→i<f→q i=false):=by
 obtain ⟨rs,hrs⟩:∃ rs,rs=alA q:=⟨_,rfl⟩;have hr:=esA q;have hu:=dvA q;have hin:∀ i,i<65536→inR rs i=q i:=λ i hi=>by rw [hrs];exact keA q hi
 rw [← hrs] at hj hr hu ⊢;clear hrs;have hb:=hu.at j;have hrj:=(hr j hj);have hg:0≤khA rs j∧khA rs j≤fst rs j:=by
  cases j with
  | zero=>exact ⟨Int.le_refl _,by show (0:Int)≤_;omega⟩
  | succ j =>
    have h1:=hu.at j;have h2:=hrj.1;simp only [lst] at h2;simp only [khA];omega
 refine ⟨(fst rs j).toNat,(mor rs j).toNat,(khA rs j).toNat,by omega,by omega,by omega,by omega,by omega,λ i h1 h2=>?_,λ i h1 h2=>?_⟩
 ·rw [← hin i oZ,mcA];exact ⟨j,hj,by omega,by omega⟩
 ·rw [← hin i oZ]
  cases hc:inR rs i
  ·rfl
  ·obtain ⟨k,hk,k1,k2⟩:=(mcA rs i).1 hc
   rcases Nat.lt_trichotomy k j with h|h|h
   ·have h3:fst rs k+mor rs k+1≤khA rs j:=by
     cases j with
     | zero=>omega
     | succ j =>
       by_cases e:k=j
       ·subst e;exact Int.le_refl _
       ·have:=hmA hr hu k j oZ oZ
        have h4:=hu.at j;simp only [khA];omega
    omega
   ·subst h;omega
   ·have:=hmA hr hu j k h hk
    omega
theorem t0A {q:Nat→Bool}:∃ g:Nat,khA (alA q) (alA q).length=g∧g≤65536∧∀ i,g≤i→i<65536→q i=false:=by
 obtain ⟨rs,hrs⟩:∃ rs,rs=alA q:=⟨_,rfl⟩;have hr:=esA q;have hu:=dvA q;have hin:∀ i,i<65536→inR rs i=q i:=λ i hi=>by rw [hrs];exact keA q hi
 rw [← hrs] at hr hu ⊢;clear hrs;obtain ⟨n,hn⟩:∃ n,n=rs.length:=⟨_,rfl⟩;have hg:0≤khA rs rs.length∧khA rs rs.length≤65536:=by
  rw [← hn];cases n with
  | zero=>exact ⟨Int.le_refl _,by show (0:Int)≤_;omega⟩
  | succ j =>
    have h1:=hu.at j;have h2:=(hr j oZ).2;simp only [khA];omega
 refine ⟨(khA rs rs.length).toNat,by omega,by omega,λ i h1 h2=>?_⟩;rw [← hin i oZ];cases hc:inR rs i
 ·rfl
 ·obtain ⟨k,hk,k1,k2⟩:=(mcA rs i).1 hc
  rw [← hn] at h1 hg hk;have h3:fst rs k+mor rs k+1≤khA rs n:=by
   cases n with
   | zero=>omega
   | succ j =>
     by_cases e:k=j
     ·subst e;exact Int.le_refl _
     ·have:=hmA hr hu k j oZ oZ
      have h4:=hu.at j;simp only [khA];omega
  omega
theorem mmA (p:Nat→Bool) (k x K:Nat) (hK:k*65536=K) (h1:K≤x) (h2:x<K+65536):p x=blk p k (x-K):=by
 have h3:x-K<65536:=oZ;rw [cyA h3,hK];congr 1;omega
theorem omA {p:Nat→Bool} {i:Nat} (h:i<nk p):∃ gE:Nat,khA (alA (blk p (kp p i))) (alA (blk p (kp p i))).length=gE∧gE≤65536∧spL p (kp p (i+1)*65536)=spL p (kp p i*65536+gE):=by
 obtain ⟨gE,h1,h2,h3⟩:=t0A (q:=blk p (kp p i));have hnx:=kbA h;have hks:=fjA (kp p i);have hml:(kp p i+1)*65536≤kp p (i+1)*65536:=Nat.mul_le_mul_right _ hnx;refine ⟨gE,h1,h2,?_⟩;rw [edA hml (λ y h3 h4=>vrA h h3 h4),hks];obtain ⟨K,hK⟩:∃ K,kp p i*65536=K:=⟨_,rfl⟩;rw [hK];refine edA oZ (λ x h4 h5=>?_);have h6:K≤x:=oZ;exact (mmA p (kp p i) x K hK h6 h5).trans (h3 _ oZ oZ)
theorem ypA {p:Nat→Bool} {i j:Nat} (hj:j<(alA (blk p (kp p i))).length):∃ f m g:Nat,fst (alA (blk p (kp p i))) j=f∧mor (alA (blk p (kp p i))) j=m∧khA (alA (blk p (kp p i))) j=g∧khA (alA (blk p (kp p i))) (j+1)=((f+m+1:Nat):Int) ∧
 g≤f∧f+m+1≤65536∧spL p (kp p i*65536+f)=spL p (kp p i*65536+g)∧∀ y,kp p i*65536+f≤y→y<kp p i*65536+(f+m+1)→p y=true:=by
 obtain ⟨f,m,g,h1,h2,h3,h4,h5,h6,h7⟩:=weA hj;obtain ⟨K,hK⟩:∃ K,kp p i*65536=K:=⟨_,rfl⟩;rw [hK];refine ⟨f,m,g,h1,h2,h3,?_,h4,h5,edA oZ (λ x h8 h9=>?_),λ y h8 h9=>?_⟩
 ·show fst _ j+mor _ j+1=_
  rw [h1,h2];omega
 ·have h10:K≤x:=oZ
  exact (mmA p (kp p i) x K hK h10 oZ).trans (h7 _ oZ oZ)
 ·have h10:K≤y:=oZ
  exact (mmA p (kp p i) y K hK h10 oZ).trans (h6 _ oZ oZ)
theorem pmA {p:Nat→Bool} {a b:Nat} (hab:a<b) (hp:∀ x,a≤x→x<b→p x=true) :
 (0<(spL p a).length∧((spL p a).getD ((spL p a).length-1) (0,0)).2=a∧spL p b=(spL p a).set ((spL p a).length-1) (((spL p a).getD ((spL p a).length-1) (0,0)).1,(b:Int))) ∨
 (((spL p a).length=0∨((spL p a).getD ((spL p a).length-1) (0,0)).2≠a)∧spL p b=spL p a++[((a:Int),(b:Int))]):=by
 cases h:bel p a
 ·right
  refine ⟨?_,ppA hab hp h⟩
  by_cases h0:(spL p a).length=0
  ·exact .inl h0
  ·refine .inr λ e=>?_
   have:=sp_bel.2 ⟨by omega,e⟩;rw [h] at this;cases this
 ·left
  have h1:=sp_bel.1 h;exact ⟨h1.1,h1.2,(pqA hab hp h).2⟩
def ddN (xs:List Int):Nat→List Int
 | 0=>[]
 | n+1=>ddN xs n++(if n=0∨xs.getD n 0≠xs.getD (n-1) 0 then [xs.getD n 0] else [])
def skA (R:Nat→Bool) (k x:Nat):Bool:=decide (x / 65536<k) && R x
theorem vuA (R:Nat→Bool) {k j:Nat} (h:k≤j):ne (skA R k) j=false:=by
 cases hk:ne (skA R k) j
 ·rfl
 ·obtain ⟨i,hi,hp⟩:=ne_iff.1 hk
  have h1:(j*65536+i) / 65536=j:=oZ;unfold skA at hp;rw [h1,decide_eq_false (Nat.not_lt.2 h),Bool.false_and] at hp;cases hp
theorem q9A (l:List Int):∀ i j,i≤j→j<(l.mergeSort (λ x y=>decide (x≤y))).length→(l.mergeSort (λ x y=>decide (x≤y))).getD i 0≤(l.mergeSort (λ x y=>decide (x≤y))).getD j 0:=by
 obtain ⟨xs,hxs⟩:∃ xs,xs=l.mergeSort (λ x y=>decide (x≤y)):=⟨_,rfl⟩;have hp:xs.Pairwise (λ a b=>decide (a≤b)=true):=by
  rw [hxs];exact List.pairwise_mergeSort (λ a b c h1 h2=>by simp at *;omega) (λ a b=>by simp;omega) _
 rw [← hxs];intro i j hij hj
 rcases Nat.lt_or_ge i j with h|h
 ·have:=List.pairwise_iff_getElem.1 hp i j oZ hj h
  rw [bbA (show i<xs.length by omega),bbA hj]
  simpa using this
 ·obtain rfl:i=j:=oZ
  exact Int.le_refl _
theorem x1A (l:List Int):bxA (l.mergeSort (λ x y=>decide (x≤y)))=bxA l:=by
 funext x;unfold bxA;exact decide_eq_decide.2 List.mem_mergeSort
theorem memb_take {xs:List Int} {i x:Nat}:bxA (xs.take i) x=true↔∃ j,j<i∧j<xs.length∧xs.getD j 0=x:=by
 unfold bxA;rw [decide_eq_true_iff]
 constructor
 ·intro h
  obtain ⟨j,h1,h2⟩:=List.getElem_of_mem h;rw [List.length_take] at h1;refine ⟨j,by omega,by omega,?_⟩;rw [bbA (show j<xs.length by omega),← h2,List.getElem_take]
 ·rintro ⟨j,h1,h2,h3⟩
  rw [← h3,bbA h2];exact List.mem_of_getElem? (i:=j) (by rw [List.getElem?_take_of_lt h1,List.getElem?_eq_getElem h2])
def ofK (xs:List Int) (i:Nat):Nat:=(xs.getD (i-1) 0).toNat / 65536
def ofA (xs:List Int) (i:Nat):List Int:=if i=0 then [] else aeA (blk (bxA (xs.take i)) (ofK xs i)) 65536
def ofS (xs:List Int) (i:Nat):Nat→Bool:=if i=0 then λ _=>false else skA (bxA (xs.take i)) (ofK xs i)
theorem jeA {xs:List Int} {i:Nat} (h0:0<i) (hi:i<xs.length) (h:xs.getD (i-1) 0=xs.getD i 0):bxA (xs.take (i+1))=bxA (xs.take i):=by
 funext x
 rw [Bool.eq_iff_iff,memb_take,memb_take]
 constructor
 ·rintro ⟨j,h1,h2,h3⟩
  by_cases e:j=i
  ·exact ⟨i-1,by omega,by omega,by rw [h,← e];exact h3⟩
  ·exact ⟨j,by omega,h2,h3⟩
 ·rintro ⟨j,h1,h2,h3⟩
  exact ⟨j,by omega,h2,h3⟩
section
variable {xs:List Int} (hs:∀ i j,i≤j→j<xs.length→xs.getD i 0≤xs.getD j 0) (hu:∀ x ∈ xs,0≤x∧x<4294967296)
include hs hu
omit hs in
theorem jcA {i:Nat} (h:i<xs.length):0≤xs.getD i 0∧xs.getD i 0<4294967296:=hu _ (tkA h)
omit hs in
theorem vkA {i:Nat} (h0:0<i) (hi:i≤xs.length):ofK xs i<65536:=by
 have:=jcA hu (i:=i-1) oZ;unfold ofK;omega
theorem ibA {i x:Nat} (h0:0<i) (hi:i≤xs.length) (h:bxA (xs.take i) x=true):(x:Int)≤xs.getD (i-1) 0∧x / 65536≤ofK xs i:=by
 obtain ⟨j,h1,h2,h3⟩:=memb_take.1 h;have h4:=hs j (i-1) oZ oZ;have h5:=jcA hu (i:=i-1) oZ;refine ⟨by omega,?_⟩;unfold ofK;exact Nat.div_le_div_right oZ
theorem q5A {i:Nat} (h0:0<i) (hi:i≤xs.length):upd (ofS xs i) (ofK xs i) (blk (bxA (xs.take i)) (ofK xs i))=bxA (xs.take i):=by
 unfold ofS;rw [if_neg (Nat.ne_of_gt h0)]
 funext x
 unfold upd
 by_cases h1:x / 65536=ofK xs i
 ·rw [if_pos h1,cyA (Nat.mod_lt _ dZ),← h1,Nat.mul_comm,Nat.div_add_mod]
 ·rw [if_neg h1]
  cases hm:bxA (xs.take i) x
  ·unfold skA;rw [hm,Bool.and_false]
  ·have:=(ibA hs hu h0 hi hm).2
   unfold skA;rw [hm,decide_eq_true (show x / 65536<ofK xs i by omega)];rfl
omit hs in
theorem q6A {i:Nat} (h0:0<i) (hi:i≤xs.length):0<(ofA xs i).length:=by
 unfold ofA;rw [if_neg (Nat.ne_of_gt h0),ayA];have h5:=jcA hu (i:=i-1) oZ;have hml:(xs.getD (i-1) 0).toNat % 65536<65536:=Nat.mod_lt _ dZ;have hp:blk (bxA (xs.take i)) (ofK xs i) ((xs.getD (i-1) 0).toNat % 65536)=true:=by
  rw [cyA hml];unfold ofK;rw [Nat.mul_comm,Nat.div_add_mod];exact memb_take.2 ⟨i-1,by omega,by omega,by omega⟩
 have h1:cnt (blk (bxA (xs.take i)) (ofK xs i)) ((xs.getD (i-1) 0).toNat % 65536+1)=cnt (blk (bxA (xs.take i)) (ofK xs i)) ((xs.getD (i-1) 0).toNat % 65536)+1:=by simp only [cnt,hp,if_true]
 have h2:=cnt_mono (blk (bxA (xs.take i)) (ofK xs i)) (m:=(xs.getD (i-1) 0).toNat % 65536+1) 65536 hml;omega
theorem z4A {i:Nat} (hi:i<xs.length) (hne:i=0∨xs.getD (i-1) 0≠xs.getD i 0) :
 ofA xs (i+1)=(if 0<i∧ofK xs i=ofK xs (i+1) then ofA xs i else [])++[(((xs.getD i 0).toNat % 65536:Nat):Int)] ∧
 ofS xs (i+1)=(if 0<i∧ofK xs i=ofK xs (i+1) then ofS xs i else bxA (xs.take i)):=by
 have hb:=jcA hu hi;have hK:ofK xs (i+1)=(xs.getD i 0).toNat / 65536:=by unfold ofK;rw [Nat.add_sub_cancel]
 have hml:(xs.getD i 0).toNat % 65536<65536:=Nat.mod_lt _ dZ;have hdm:=Nat.div_add_mod (xs.getD i 0).toNat 65536;have hlt:∀ x,bxA (xs.take i) x=true→x<(xs.getD i 0).toNat:=λ x hx=>by
  rcases hne with h0|h0
  ·subst h0;obtain ⟨j,h1,_⟩:=memb_take.1 hx;omega
  ·by_cases h0':i=0
   ·subst h0';obtain ⟨j,h1,_⟩:=memb_take.1 hx;omega
   ·have h1:=(ibA hs hu (Nat.pos_of_ne_zero h0') (Nat.le_of_lt hi) hx).1
    have h2:=hs (i-1) i oZ hi;omega
 have hmore:∀ x,bxA (xs.take (i+1)) x=true↔bxA (xs.take i) x=true∨x=(xs.getD i 0).toNat:=λ x=>by
  rw [memb_take,memb_take]
  constructor
  ·rintro ⟨j,h1,h2,h3⟩
   by_cases e:j=i
   ·subst e;right;omega
   ·exact .inl ⟨j,by omega,h2,h3⟩
  ·rintro (⟨j,h1,h2,h3⟩|h)
   ·exact ⟨j,by omega,h2,h3⟩
   ·exact ⟨i,by omega,hi,by omega⟩
 have hA1:ofA xs (i+1)=aeA (blk (bxA (xs.take i)) (ofK xs (i+1))) 65536++[(((xs.getD i 0).toNat % 65536:Nat):Int)]:=by
  unfold ofA;rw [if_neg (Nat.succ_ne_zero i)];refine h1A (bzA _ _) ?_ (λ z=>?_)
  ·unfold Inc
   rw [List.pairwise_append];refine ⟨bzA _ _,by simp,λ a ha b hb'=>?_⟩;rw [List.mem_singleton] at hb';subst hb';obtain ⟨r,h1,h2,rfl⟩:=(byA _ _ _).1 ha;rw [cyA h1,hK] at h2;have:=hlt _ h2;omega
  ·rw [List.mem_append,List.mem_singleton,byA,byA]
   constructor
   ·rintro ⟨r,h1,h2,h3⟩
    rw [cyA h1] at h2
    rcases (hmore _).1 h2 with h4|h4
    ·exact .inl ⟨r,h1,by rw [cyA h1];exact h4,h3⟩
    ·right;rw [hK] at h4;omega
   ·rintro (⟨r,h1,h2,h3⟩|h)
    ·exact ⟨r,h1,by rw [cyA h1];exact (hmore _).2 (.inl (by rw [cyA h1] at h2;exact h2)),h3⟩
    ·exact ⟨_,hml,by rw [cyA hml,hK];exact (hmore _).2 (.inr oZ),h⟩
 have hS1:ofS xs (i+1)=skA (bxA (xs.take i)) (ofK xs (i+1)):=by
  unfold ofS;rw [if_neg (Nat.succ_ne_zero i)]
  funext x
  unfold skA
  by_cases h1:x / 65536<ofK xs (i+1)
  ·rw [decide_eq_true h1,Bool.true_and,Bool.true_and,Bool.eq_iff_iff,hmore]
   exact ⟨λ h=>h.resolve_right (λ e=>by rw [e,hK] at h1;omega),.inl⟩
  ·rw [decide_eq_false h1];rfl
 by_cases h1:0<i∧ofK xs i=ofK xs (i+1)
 ·rw [if_pos h1,if_pos h1,hA1,hS1]
  constructor
  ·have:ofA xs i=aeA (blk (bxA (xs.take i)) (ofK xs (i+1))) 65536:=by unfold ofA;rw [if_neg (Nat.ne_of_gt h1.1),h1.2]
   rw [this]
  ·unfold ofS;rw [if_neg (Nat.ne_of_gt h1.1),h1.2]
 ·rw [if_neg h1,if_neg h1,hA1,hS1]
  have hlow:∀ x,bxA (xs.take i) x=true→x / 65536<ofK xs (i+1):=λ x hx=>by
   by_cases h0:i=0
   ·subst h0;obtain ⟨j,h1,_⟩:=memb_take.1 hx;omega
   ·have h2:=(ibA hs hu (Nat.pos_of_ne_zero h0) (Nat.le_of_lt hi) hx).2
    have h3:ofK xs i≠ofK xs (i+1):=λ e=>h1 ⟨Nat.pos_of_ne_zero h0,e⟩
    have h4:ofK xs i≤ofK xs (i+1):=by
     rw [hK];unfold ofK;have:=hs (i-1) i oZ hi;exact Nat.div_le_div_right oZ
    omega
  constructor
  ·have:aeA (blk (bxA (xs.take i)) (ofK xs (i+1))) 65536=[]:=List.eq_nil_of_length_eq_zero (by
    rw [ayA];refine dxA _ (λ r hr=>?_);rw [cyA hr];cases hm:bxA (xs.take i) (ofK xs (i+1)*65536+r)
    ·rfl
    ·have:=hlow _ hm;omega)
   rw [this]
  ·funext x
   cases hm:bxA (xs.take i) x
   ·unfold skA;rw [hm,Bool.and_false]
   ·unfold skA;rw [hm,decide_eq_true (hlow x hm)];rfl
end
end Go.LA
end
section
namespace Go.LA
open Go.RowKit
theorem Fr.grown {w w':World} {row:Option Nat} (h:w.grownBy w' row):Fr (λ k=>row=some k) w w' :=
by
 obtain ⟨h1,h2,h3,h4,h5⟩:=h;exact ⟨by assumption,by assumption,by assumption,by assumption,λ k hk hn=>h5 k hk (λ e=>hn e.symm)⟩
theorem Fr.grownBy {w w':World} {row:Option Nat} (h:Fr (λ k=>row=some k) w w'):w.grownBy w' row:=by
 have h1:=h.os;have h2:=h.tape;have h3:=h.output;have h4:=h.size;exact ⟨by assumption,by assumption,by assumption,by assumption,λ k hk hn=>h.block k hk (λ e=>hn e.symm)⟩
theorem Own.rebase {base base' e s n:Nat} {w:World} {v:Value} {cs:List Value} (h:Own base e s w v n cs) (hb:∀ k,v.ownBlock=some k→base'≤k):Own base' e s w v n cs:=by
 refine ⟨h.1,?_⟩
 rcases h.2 with h0|⟨g,cap,cur,rfl,hb',r⟩
 ·exact .inl h0
 ·exact .inr ⟨g,cap,cur,rfl,hb g rfl,r⟩
def LocR (w:World) (v v':Value):Prop:=v'.ownBlock=v.ownBlock∨∀ k,v'.ownBlock=some k→w.heap.size≤k
theorem LocR.refl {w:World} {v:Value}:LocR w v v:=.inl rfl
theorem LocR.le {w w0:World} {v v':Value} (h:LocR w v v') (hs:w0.heap.size≤w.heap.size):LocR w0 v v':=h.imp id (λ h k hk=>Nat.le_trans hs (h k hk))
theorem LocR.ge {w:World} {base:Nat} {v v':Value} (h:LocR w v v') (hv:∀ k,v.ownBlock=some k→base≤k) (hs:base≤w.heap.size) (k:Nat) (hk:v'.ownBlock=some k):base≤k:=by
 rcases h with h|h
 ·exact hv k (h▸hk)
 ·exact Nat.le_trans hs (h k hk)
theorem LocR.trans {w w':World} {v v' v'':Value} (h:LocR w v v') (h':LocR w' v' v'') (hs:w.heap.size≤w'.heap.size):LocR w v v'':=by
 rcases h' with h' | h'
 ·rcases h with h|h
  ·exact .inl (h'.trans h)
  ·exact .inr λ k hk=>h k (h'▸hk)
 ·exact .inr λ k hk=>Nat.le_trans hs (h' k hk)
section
variable {P:Program} {l:List Oper} {M:List Nat} {N:Nn} {ws wb:World} {K:List Oper→Env→Prop} {rest:List Oper} {E:Env} {Q:Exit→Act→World→Prop} {m:Nat} {C:World→Env→Prop}
variable {d:Tmp} {ty t t':TypeId} {pos:String} {after:Array Edge} {g:Option (Nat × Bool)} {x y z:Operand} {k kd:IntKind}
theorem g3A {w:World} {base e s b n m:Nat} {v vy z:Value} {cs news:List Value} (hel:El P t e z s b) (hown:Own base e s w v n cs) (hy:SlC w vy m s news) (h1:∀ u ∈ news,u.oneCell'=true)
 (h63:n+m≤maxLen) (hbytes:(n+m)*b≤140737488355328) :
 ∃ v' w',(Builtin.append_ #[t,t] ty #[v,vy]).run P w=.ok v' w'∧Own 0 e s w' v' (n+m) (cs++news)∧Fr (λ k=>v.ownBlock=some k) w w'∧LocR w v v':=by
 obtain ⟨i,hi1,hi2,hi3,hi4⟩:=hel.parts;obtain ⟨h0,a,cap,rfl,hc,hm,hn,hcs⟩:=hy;have hown0:Own 0 e s w v n cs:=hown.base (Nat.zero_le _);cases a with
 | none =>
   obtain rfl:=hn rfl;obtain rfl:m=0:=oZ;have hnews:news=[]:=List.eq_nil_of_length_eq_zero (by simpa using h0);subst hnews;exact ⟨v,w,run_append_owned_none (P:=P) w 0 t ty e i s hel.ht hi1 v n cs hown0,by simpa using hown0,Fr.of (Ext.refl _),LocR.refl⟩
 | some a =>
   have hcells:∀ (j:Nat) (u:Value),news[j]?=some u→w.cell? (a.add j)=some u:=λ j u hj=>by
    rcases hcs with rfl|⟨b',off,ha,hc'⟩
    ·have:news=[]:=List.eq_nil_of_length_eq_zero (by simpa using h0)
     subst this;cases hj
    ·obtain rfl:=Option.some.inj ha
     rw [Addr.add_lit];exact hc' j u hj
   obtain ⟨v',w',g1,g2,g3,g4,g5⟩:=run_append_own_at (P:=P) w 0 t ty e i z s b hel.ht hi1 hi2 hi3 hi4 hel.zs hel.pos v n cs hown0 a m cap news h0 hcells h1 h63 hbytes (Nat.zero_le _);exact ⟨v',w',g1,g2,Fr.grown g3,g5.imp id (λ h k hk=>by rw [h] at hk;cases hk;exact Nat.le_refl _)⟩
theorem anA {base e s b n m:Nat} {v z:Value} {cs news:List Value} {r:AD} (hg:g=none) (hd:d<N.n) (hel:El P t e z s b) (hx:opE E x=.val v) (hown:Own base e s wb v n cs) (hr:opE E y=r) (hy:HasC wb r m s news)
 (h1:∀ u ∈ news,u.oneCell'=true) (h63:n+m≤maxLen) (hbytes:(n+m)*b≤140737488355328)
 (h:∀ v' w w',Ext wb w→Own 0 e s w' v' (n+m) (cs++news)→Fr (λ k=>v.ownBlock=some k) w w'→LocR w v v'→LX P N w' l Q rest ((d,.val v')::vals E)) :
 LX P N wb l Q (⟨some d,.call ⟨.builtin .append,#[x,y],#[t,t]⟩,ty,pos,after,g⟩::rest) E:=by
 unfold LX;intro a w st;have e1:=st.opd x;rw [hx] at e1;simp only [AD.ok] at e1;have e2:=st.opd y;rw [hr] at e2;obtain ⟨v',w',g1,g2,g3,g4⟩:=g3A (t:=t) (ty:=ty) hel (hown.ext st.ext) (hy _ _ st.ext e2) h1 h63 hbytes;refine wpList_plain hg λ Kc hK=>?_
 unfold Oper.wp;simp only [execOp,resolve,invoke,builtin,Sem.run_bind,Sem.run_pure,Result.andThen_ok,List.map_toArray,List.map_cons,List.map_nil,e1,g1,Oper.upon];refine hK _ _ ?_
 have h2:=h v' w w' st.ext g2 g3 g4;unfold LX at h2;exact h2 _ _ ((st.vals (w':=w')).push (Ext.refl _) (dst:=some d) (r:=.val v') (λ d' hd'=>by cases hd';exact hd) (.inr rfl))
theorem daA {base e s b n kn:Nat} {v z:Value} {cs news:List Value} {r:AD} (hm:l[m]?=some ⟨some d,.call ⟨.builtin .append,#[x,y],#[t,t]⟩,ty,pos,after,none⟩) (hel:El P t e z s b) (hx:opE E x=.val v) (hown:Own base e s ws v n cs) (hr:opE E y=r) (hy:HasC ws r kn s news)
 (h1:∀ u ∈ news,u.oneCell'=true) (h63:n+kn≤maxLen) (hbytes:(n+kn)*b≤140737488355328)
 (h:∀ v' w w',Ext ws w→Own 0 e s w' v' (n+kn) (cs++news)→Fr (λ k=>v.ownBlock=some k) w w'→LocR w v v'→∃ E',(∀ t u,d≠t→(lkE E t).ok u w→(lkE E' t).ok u w')∧C w' ((d,.val v')::E')):MX P N l Q m ws E C:=by
 intro o ho a w hsz hdf hext hop K hK;rw [hm] at ho;obtain rfl:=Option.some.inj ho;have e1:=l9A (x:=x) hop (by simp [Op.operands,Call.operands]);rw [hx] at e1;simp only [AD.ok] at e1;have e2:=l9A (x:=y) hop (by simp [Op.operands,Call.operands]);rw [hr] at e2;obtain ⟨v',w',g1,g2,g3,g4⟩:=g3A (t:=t) (ty:=ty) hel (hown.ext hext) (hy _ _ hext e2) h1 h63 hbytes;obtain ⟨E',hE,hC⟩:=h v' w w' hext g2 g3 g4;unfold Oper.wp;simp only [execOp,resolve,invoke,builtin,Sem.run_bind,Sem.run_pure,Result.andThen_ok,List.map_toArray,List.map_cons,List.map_nil,e1,g1,Oper.upon];refine hK v' w' w' _ (Ext.refl _) (λ t ht hu=>?_) (λ d' hd'=>?_) hC
 ·rw [ceA]
  by_cases e:t=d
  ·subst e;exact absurd rfl ht
  ·rw [if_neg e];exact hE t _ (λ h=>e h.symm) hu
 ·cases hd';rw [ceA,if_pos rfl];rfl
theorem xzA {ι:Type} {J:ι→Env} {C:ι→Prop} {μ:ι→Nat} {q:Nat} {wx:World} (he:Ext wb wx) (i:ι) (h0:C i) (hm:μ i<q) (hs:Sub wx E (J i)):PX N wx (Exit.then (Rnd N wb J C μ q) Q) .normal E:=by
 unfold PX;intro a w s;have s':=hs.st s;exact ⟨i,⟨h0,⟨s'.sz,s'.df,he.trans s'.ext,s'.sat⟩⟩,hm⟩
theorem rxA {b o:Nat} {cur:Array Value} {e:TypeId} {c:Value} {news:List Value} (hg:g=none) (hx:opE E x=.val (.pointer (some ⟨b,o,none⟩))) (hy:opE E y=.val c) (hb:wb.heap[b]?=some (.cells cur e (0,0))) (hc:c.cells=news.toArray)
 (hs:∀ w,(sizeOf t).run P w=.ok news.length w) (ho:o+news.length≤cur.size) (h1:∀ u ∈ news,u.oneCell'=true)
 (h:∀ w,Ext wb w→LX P N (w.setRow b (cur.toList.take o++news++cur.toList.drop (o+news.length)).toArray) l Q rest (vals E)) :
 LX P N wb l Q (⟨none,.store t x y,ty,pos,after,g⟩::rest) E:=by
 unfold LX;intro a w st;have e1:=st.opd x;rw [hx] at e1;simp only [AD.ok] at e1;have e2:=st.opd y;rw [hy] at e2;simp only [AD.ok] at e2;have hrun:(Instr.storeAt t (.pointer (some ⟨b,o,none⟩)) c).run P w=.ok () (w.setRow b (cur.toList.take o++news++cur.toList.drop (o+news.length)).toArray):=by
  have hst:=run_storeCells_at P b o e news 0 cur w (st.ext.block hb) oZ h1;rw [Nat.add_zero] at hst;simp only [Instr.storeAt,Instr.sureAddr,storeVar,Sem.run_bind,Sem.run_pure,Result.andThen_ok,hs,hc,ne_eq,if_false,List.size_toArray,not_true_eq_false,hst]
 refine wpList_plain hg λ Kc hK=>?_
 unfold Oper.wp;simp only [execOp,Sem.run_bind,e1,e2,hrun,Result.andThen_ok,Sem.run_pure,Oper.upon];refine hK _ _ ?_
 have h2:=h w st.ext;unfold LX at h2;exact h2 _ _ (st.vals (w':=w.setRow b _))
theorem mrA {e:TypeId} {z0 c c2:Value} {d2:Tmp} {x2:Operand} {ty' ty'':TypeId} {pos' pos'':String} {after' after'':Array Edge} {g' g'':Option (Nat × Bool)} (hg:g=none) (hg':g'=none) (hg'':g''=none) (hd:d<N.n) (hd2:d2<N.n) (hz:∀ w,(zeroValue e).run P w=.ok z0 w) (hx2:∀ v,opE ((d,.val v)::E) x2=.val c2) (hne:(d == d2)=false)
 (hy:∀ v,opE ((d2,.val c2)::(d,.val v)::E) y=.val c)
 (hs:∀ w,(sizeOf t).run P w=.ok c.cells.size w) (hfit:c.cells.size=z0.cells.size) (h1:∀ u ∈ c.cells.toList,u.oneCell'=true)
 (h:∀ b w',Ext wb w'→wb.heap.size≤b→w'.heap[b]?=some (.cells c.cells e (0,0))→LX P N w' l Q rest ((d2,.val c2)::(d,.val (.pointer (some ⟨b,0,none⟩)))::E)) :
 LX P N wb l Q (⟨some d,.alloc e,ty,pos,after,g⟩::⟨some d2,.assign x2,ty'',pos'',after'',g''⟩::⟨none,.store t (.tmp d) y,ty',pos',after',g'⟩::rest) E:=by
 unfold LX;intro a w st;have ra:(Instr.alloc e true (.tuple #[])).run P w=.ok (.pointer (some ⟨w.heap.size,0,none⟩)) (w.alloc (.cells z0.cells e)):=by
  simp only [Instr.alloc,Sem.run_bind,hz,Result.andThen_ok];rfl
 refine wpList_plain hg λ Kc hK=>?_
 unfold Oper.wp;simp only [execOp,Sem.run_bind,ra,Result.andThen_ok,Sem.run_pure,Oper.upon];refine hK _ _ ?_
 have st1:St N wb ((d,.val (.pointer (some ⟨w.heap.size,0,none⟩)))::E) (a.put (some d) (.pointer (some ⟨w.heap.size,0,none⟩))) (w.alloc (.cells z0.cells e)) :=
  st.push (Ext.alloc _ _) (dst:=some d) (r:=.val _) (λ d' hd'=>by cases hd';exact hd) (.inr rfl)
 have e0:=st1.opd x2;rw [hx2] at e0;simp only [AD.ok] at e0;refine wpList_plain hg'' λ Kc hK=>?_
 unfold Oper.wp;simp only [execOp,Sem.run_bind,e0,Result.andThen_ok,Sem.run_pure,Oper.upon];refine hK _ _ ?_
 have st2:=st1.push (Ext.refl _) (dst:=some d2) (r:=.val c2) (v:=c2) (λ d' hd'=>by cases hd';exact hd2) (.inr rfl);have e1:=st2.opd (.tmp d);have e2:=st2.opd y;have e2':opE (puE (some d2) (.val c2) ((d,.val (.pointer (some ⟨w.heap.size,0,none⟩)))::E)) y=.val c:=hy _;rw [e2'] at e2;simp only [AD.ok] at e2;have e1':((a.put (some d) (.pointer (some ⟨w.heap.size,0,none⟩))).put (some d2) c2).eval (.tmp d)=.pointer (some ⟨w.heap.size,0,none⟩):=by
  simp only [opE,puE,lkE,hne,beq_self_eq_true,cond_true,cond_false,AD.ok] at e1;exact e1
 have hb:(w.alloc (.cells z0.cells e)).heap[w.heap.size]?=some (.cells z0.cells e (0,0)):=heap_alloc_new w _;have hrun:(Instr.storeAt t (.pointer (some ⟨w.heap.size,0,none⟩)) c).run P (w.alloc (.cells z0.cells e))=.ok () ((w.alloc (.cells z0.cells e)).setRow w.heap.size c.cells):=by
  have hst:=run_storeCells_at P w.heap.size 0 e c.cells.toList 0 z0.cells _ hb (by simp [hfit]) h1;have e3:(z0.cells.toList.take (0+0)++c.cells.toList++z0.cells.toList.drop (0+0+c.cells.toList.length)).toArray=c.cells:=by
   rw [List.drop_eq_nil_of_le (by simp [hfit])];simp
  rw [e3] at hst;simp only [Instr.storeAt,Instr.sureAddr,storeVar,Sem.run_bind,Sem.run_pure,Result.andThen_ok,hs,ne_eq,not_true_eq_false,if_false,hst]
 refine wpList_plain hg' λ Kc hK=>?_
 unfold Oper.wp;simp only [execOp,Sem.run_bind,e1',e2,hrun,Result.andThen_ok,Sem.run_pure,Oper.upon];refine hK _ _ ?_
 have x2:Ext w ((w.alloc (.cells z0.cells e)).setRow w.heap.size c.cells):=(Ext.alloc _ _).setRow (Nat.le_refl _) _;have h2:=h w.heap.size _ (st.ext.trans x2) st.ext.size (setRow_heap _ w.heap.size _ _ _ (0,0) hb);unfold LX at h2;have st3:=st.push (dst:=some d) (r:=.val (.pointer (some ⟨w.heap.size,0,none⟩))) (v:=.pointer (some ⟨w.heap.size,0,none⟩)) x2 (λ d' hd'=>by cases hd';exact hd) (.inr rfl);have st4:=st3.push (Ext.refl _) (dst:=some d2) (r:=.val c2) (v:=c2) (λ d' hd'=>by cases hd';exact hd2) (.inr rfl);exact h2 _ _ st4.rebase
theorem grA {c z:Value} {s b base:Nat} {e:TypeId} (hbase:base≤wb.heap.size) (hg:b8A l E g=some true) (hel:El P t e z s b) (hx:opE E x=.val c) (hc:c.cells.size=s) (hs1:s≤1000) (h:LA P l wb K rest ((d,.pred (j6A base e s 1 c.cells.toList))::E)) :
 LA P l wb K (⟨some d,.buildSlice t 1 #[(0,x)],ty,pos,after,g⟩::rest) E:=by
 refine b1A (.pred (j6A base e s 1 c.cells.toList)) hg (λ a w he hh=>?_) h;have h1:=hh x (by simp [Op.operands]);rw [hx] at h1;simp only [AD.ok] at h1;have hne:¬ s=0:=by have:=hel.pos;omega
 have hrun:(Instr.buildSlice t 1 #[(0,c)]).run P w=.ok (.slice (some ⟨w.heap.size,0,none⟩) 1 1) (w.alloc (.cells c.cells e)):=by
  have hf:=ilA (c:=c) (z:=z.cells) (s:=s) hc;simp only [Instr.buildSlice,Sem.run_bind,run_underlying hel.ht,Result.andThen_ok,hel.sizeOf,Nat.one_mul,gt_iff_lt,show ¬ (2 ^ 24<s) by omega,if_false,hne,Sem.run_pure,hel.zero];simp only [Nat.one_mul] at hf;rw [hf];rfl
 simp only [execOp,List.map_toArray,List.map_cons,List.map_nil,h1,Sem.run_bind,hrun,Result.andThen_ok,Sem.run_pure];refine ⟨Ext.alloc _ _,?_⟩;refine ⟨by simp [hc],.inr ⟨w.heap.size,1,c.cells,rfl,Nat.le_trans hbase he.size,heap_alloc_new w _,Nat.le_refl _,by decide,by simp [hc],?_⟩⟩;rw [Nat.one_mul,← hc];exact List.take_of_length_le (by simp)
end
theorem Own.setN {e s b cap n i:Nat} {w:World} {cur:Array Value} {cs news:List Value} (hl:cs.length=n*s) (hg:w.heap[b]?=some (.cells cur e (0,0))) (hnc:n≤cap) (hm:cap≤maxLen) (hsz:cur.size=cap*s) (ht:cur.toList.take (n*s)=cs) (hi:i<n) (hn:news.length=s) :
 Own 0 e s (w.setRow b (cur.toList.take (i*s)++news++cur.toList.drop (i*s+news.length)).toArray) (.slice (some ⟨b,0,none⟩) n cap) n (cs.take (i*s)++news++cs.drop (i*s+s)):=by
 have hcur:cur.toList.length=cap*s:=by rw [Array.length_toList];exact hsz
 have h1:(i+1)*s≤n*s:=Nat.mul_le_mul_right _ hi;have h2:n*s≤cap*s:=Nat.mul_le_mul_right _ hnc;have h3:(i+1)*s=i*s+s:=by rw [Nat.add_mul,Nat.one_mul]
 refine ⟨?_,.inr ⟨b,cap,_,rfl,Nat.zero_le _,setRow_heap w b cur _ e _ hg,hnc,hm,?_,?_⟩⟩
 ·simp only [List.length_append,List.length_take,List.length_drop];omega
 ·simp only [List.size_toArray,List.length_append,List.length_take,List.length_drop];omega
 ·subst ht
  rw [List.take_take,Nat.min_eq_left oZ];simp only [List.toList_toArray];rw [List.append_assoc,List.take_append,List.take_of_length_le (by rw [List.length_take];omega),List.take_append,List.take_of_length_le (l:=news) (by rw [List.length_take];omega),List.append_assoc];congr 2;rw [List.length_take,hn,List.drop_take];congr 1;omega
end Go.LA
end
section
namespace Go.LA
open Go.RowKit
def spV (k:IntKind) (x:Sp):Value:=.agg #[.int k x.1,.int k x.2]
def dgA (k:IntKind):List Sp→List Value
 | []=>[]
 | x::r=>.int k x.1::.int k x.2::dgA k r
variable {k:IntKind}
theorem fyA:∀ a b,dgA k (a++b)=dgA k a++dgA k b
 | [],b=>rfl
 | x::a,b=>by simp only [List.cons_append,dgA,fyA a b]
theorem fxA:∀ a,(dgA k a).length=a.length*2
 | []=>rfl
 | x::a=>by simp only [dgA,List.length_cons,fxA a];omega
theorem irA:∀ (a:List Sp) (j:Nat),j<a.length→((dgA k a).drop (j*2)).take 2=[.int k (a.getD j (0,0)).1,.int k (a.getD j (0,0)).2]
 | [],j,h=>by simp at h
 | x::a,0,_=>rfl
 | x::a,j+1,h=>by
   have ih:=irA a j (by simpa using h);rw [show (j+1)*2=j*2+1+1 by omega];exact ih
theorem iqA:∀ (a:List Sp) (j:Nat) (c:Int),(dgA k a).set (j*2+1) (.int k c)=dgA k (a.set j ((a.getD j (0,0)).1,c))
 | [],j,c=>by simp [dgA]
 | x::a,0,c=>rfl
 | x::a,j+1,c=>by
   rw [show (j+1)*2+1=j*2+1+1+1 by omega];simp only [dgA,List.set_cons_succ,iqA a j c,List.getD_cons_succ]
def SlP (k:IntKind) (w:World) (v:Value) (rs:List Sp):Prop:=SlC w v rs.length 2 (dgA k rs)
theorem SlP.ext {w w':World} {v:Value} {rs:List Sp} (h:SlP k w v rs) (e:Ext w w'):SlP k w' v rs:=SlC.ext h e
theorem SlP.len {w:World} {v:Value} {rs:List Sp} (h:SlP k w v rs):rs.length≤9223372036854775807:=SlC.len h
def OwnP (base e:Nat) (k:IntKind) (w:World) (v:Value) (rs:List Sp):Prop:=Own base e 2 w v rs.length (dgA k rs)
theorem OwnP.ext {base e:Nat} {w w':World} {v:Value} {rs:List Sp} (h:OwnP base e k w v rs) (x:Ext w w'):OwnP base e k w' v rs:=Own.ext h x
theorem OwnP.slP {base e:Nat} {w:World} {v:Value} {rs:List Sp} (h:OwnP base e k w v rs):SlP k w v rs:=Own.slC h
theorem OwnP.nil {base e:Nat} {w:World}:OwnP base e k w (.slice none 0 0) []:=Own.nil
def l7A (base e:Nat) (k:IntKind) (rs:List Sp):AV:=⟨λ v w=>OwnP base e k w v rs,λ _ _ _ x h=>h.ext x⟩
theorem eeA {w:World} {base base' e:Nat} {rs rs':List Sp} (hb:base'≤base) (hr:rs=rs') (en:Ending) (w':World) (h:Ret w (.pred (l7A base e k rs)) en w'):Ret w (.pred (l7A base' e k rs')) en w':=by
 obtain ⟨v,h1,h2,h3⟩:=h;exact ⟨v,h1,h2,hr▸Own.base h3 hb⟩
def HasP (wb:World) (r:AD) (k:IntKind) (rs:List Sp):Prop:=HasC wb r rs.length 2 (dgA k rs)
theorem HasP.val {wb:World} {u:Value} {rs:List Sp} (h:SlP k wb u rs):HasP wb (.val u) k rs:=HasC.val h
theorem HasP.ownV {wb:World} {base e:Nat} {u:Value} {rs:List Sp} (h:OwnP base e k wb u rs):HasP wb (.val u) k rs:=HasC.ownV h
theorem HasP.own {wb:World} {base e:Nat} {rs:List Sp}:HasP wb (.pred (l7A base e k rs)) k rs:=HasC.own
section
variable {P:Program} {l:List Oper} {N:Nn} {wb:World} {K:List Oper→Env→Prop} {rest:List Oper} {E:Env} {Q:Exit→Act→World→Prop}
variable {d:Tmp} {ty t t':TypeId} {pos:String} {after:Array Edge} {g:Option (Nat × Bool)} {x y z:Operand} {k':IntKind}
theorem bjA {rs:List Sp} (hg:b8A l E g=some true) (e:TypeId) (ht:P.underlying t=some (.slice e)) {r:AD} (hr:opE E x=r) (hx:HasP wb r k rs)
 (h:LA P l wb K rest ((d,.val (.int .i64 (rs.length:Int)))::E)):LA P l wb K (⟨some d,.call ⟨.builtin .len,#[x],#[t]⟩,ty,pos,after,g⟩::rest) E:=azA hg e ht hr hx h
theorem baA {rs:List Sp} {j:Nat} (hg:b8A l E g=some true) (e:TypeId) (ht:P.underlying t=some (.slice e)) (hs:∀ w,(sizeOf e).run P w=.ok 2 w)
 {r:AD} (hr:opE E x=r) (hx:HasP wb r k rs) (hi:opE E y=.val (.int k' ((j:Nat):Int))) (hn:j<rs.length)
 (h:LA P l wb K rest ((d,.pred (jkA [.int k (rs.getD j (0,0)).1,.int k (rs.getD j (0,0)).2]))::E)):LA P l wb K (⟨some d,.indexAddr t x y,ty,pos,after,g⟩::rest) E :=
 c9A hg e ht hs hr hx hi j rfl hn (by rw [irA rs j hn];exact h)
theorem jsA {w0:World} {e b r0:Nat} {v z:Value} {f m:Int} {cs:List Sp} (hg:g=none) (hd:d<N.n) (hel:El P t e z 2 b) (hx:opE E x=.val v) (hown:OwnP w0.heap.size e k wb v cs) (hy:opE E y=.pred (j6A r0 e 2 1 (spV k (f,m)).cells.toList))
 (h63:cs.length+1≤9223372036854775807) (hbytes:(cs.length+1)*b≤140737488355328) (hbase:Ext w0 wb)
 (h:∀ v' w',Ext w0 w'→OwnP w0.heap.size e k w' v' (cs++[(f,m)])→LX P N w' l Q rest ((d,.val v')::vals E)) :
 LX P N wb l Q (⟨some d,.call ⟨.builtin .append,#[x,y],#[t,t]⟩,ty,pos,after,g⟩::rest) E :=
 d4A hg hd hel hx hown hy HasC.own (by intro u hu;simp [spV,Value.cells] at hu;rcases hu with rfl|rfl <;> rfl) h63 hbytes hbase.size (λ v' w w' e1 ho hg'=>h v' w' ((hbase.trans e1).grown hg' (λ q hq=>(Own.lt hown q hq).1))
  (by unfold OwnP;rw [fyA,List.length_append,List.length_singleton];exact ho))
end
theorem OwnP.row {base e:Nat} {w:World} {v:Value} {rs:List Sp} (h:OwnP base e k w v rs) (hp:0<rs.length) :
 ∃ b cap cur,v=.slice (some ⟨b,0,none⟩) rs.length cap∧base≤b∧w.heap[b]?=some (.cells cur e (0,0))∧rs.length≤cap∧cap≤maxLen∧cur.size=cap*2∧cur.toList.take (rs.length*2)=dgA k rs:=by
 rcases h.2 with ⟨_,h0⟩|⟨b,cap,cur,rfl,h1,h2,h3,h4,h5,h6⟩
 ·omega
 ·exact ⟨b,cap,cur,rfl,h1,h2,h3,h4,h5,h6⟩
theorem OwnP.set2 {base e b cap:Nat} {w:World} {cur:Array Value} {rs:List Sp} (hb:base≤b) (hg:w.heap[b]?=some (.cells cur e (0,0))) (hnc:rs.length≤cap) (hm:cap≤maxLen) (hsz:cur.size=cap*2) (ht:cur.toList.take (rs.length*2)=dgA k rs) (i:Nat) (c:Int) :
 OwnP base e k (w.setRow b (cur.setIfInBounds (i*2+1) (.int k c))) (.slice (some ⟨b,0,none⟩) rs.length cap) (rs.set i ((rs.getD i (0,0)).1,c)):=by
 refine ⟨by rw [fxA],.inr ⟨b,cap,cur.setIfInBounds (i*2+1) (.int k c),by rw [List.length_set],hb,setRow_heap w b cur _ e _ hg,by rw [List.length_set];exact hnc,hm,by simpa using hsz,?_⟩⟩;rw [Array.toList_setIfInBounds,List.length_set,List.take_set,ht,iqA]
end Go.LA
end
section
namespace Go.LA
open Go.RowKit Go.ArrP
def itv (lo hi y:Nat):Bool:=decide (lo≤y) && decide (y<hi)
theorem qrA {lo hi y:Nat} (h1:lo≤y) (h2:y<hi):itv lo hi y=true:=by unfold itv;rw [decide_eq_true h1,decide_eq_true h2];rfl
theorem foA {lo hi y:Nat} (h:y<lo∨hi≤y):itv lo hi y=false:=by
 unfold itv
 rcases h with h|h
 ·rw [decide_eq_false (Nat.not_le.2 h),Bool.false_and]
 ·rw [decide_eq_false (Nat.not_lt.2 h),Bool.and_false]
theorem itv_iff {lo hi y:Nat}:itv lo hi y=true↔lo≤y∧y<hi:=by
 unfold itv;rw [Bool.and_eq_true,decide_eq_true_iff,decide_eq_true_iff]
theorem imA (lo hi:Nat):∀ T,cnt (itv lo hi) T=min hi T-min lo T
 | 0=>by simp [cnt]
 | T+1=>by
   have ih:=imA lo hi T
   by_cases h1:lo≤T∧T<hi
   ·have:=qrA h1.1 h1.2
    simp only [cnt,ih,this,if_true];omega
   ·have:=foA (lo:=lo) (hi:=hi) (y:=T) oZ
    simp only [cnt,ih,this,Bool.false_eq_true,if_false];omega
theorem noA {e:Nat→Bool} {n:Nat} {l:List Int} (hi:Inc l) (hm:∀ z,z ∈ l↔∃ i:Nat,i<n∧e i=true∧z=i):aeA e n=l :=
 h1A (bzA _ _) hi (λ z=>by rw [byA,hm])
theorem w8A {p:Nat→Bool} {a:Nat} (h:∀ x,x<a→p x=false):spL p a=[]:=by
 rw [edA (p:=p) (Nat.zero_le a) (λ x _ hx=>h x hx),gwA]
theorem xvA {p:Nat→Bool} {a:Nat} (h:∀ x,x<a→a≤x+1→p x=false):bel p a=false:=by
 cases a with
 | zero=>rfl
 | succ a=>exact h a (Nat.lt_succ_self a) (Nat.le_refl _)
theorem w9A {p:Nat→Bool} {a lo hi b:Nat} {l:List Sp} (h:spL p a=l) (h1:a<lo∨(a=lo∧a=0)) (h2:lo<hi) (h3:hi≤b) (g1:∀ x,a≤x→x<lo→p x=false) (g2:∀ x,lo≤x→x<hi→p x=true) (g3:∀ x,hi≤x→x<b→p x=false) :
 spL p b=l++[((lo:Int),(hi:Int))]:=by
 have hb:bel p lo=false:=xvA (λ x hx1 hx2=>g1 x oZ hx1);rw [edA h3 g3,ppA h2 g2 hb,edA (a:=a) oZ g1,h]
theorem vdA (lo hi T:Nat) (h:hi≤T):spL (itv lo hi) T=if lo<hi then [((lo:Int),(hi:Int))] else []:=by
 by_cases h1:lo<hi
 ·rw [if_pos h1]
  exact w9A (a:=0) (l:=[]) (gwA _) oZ h1 h (λ x _ h3=>foA (.inl h3)) (λ x h2 h3=>qrA h2 h3) (λ x h2 _=>foA (.inr h2))
 ·rw [if_neg h1];exact w8A (λ x _=>foA oZ)
end Go.LA
end
