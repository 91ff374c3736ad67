import Derived.Test.YtbokphkfojijoaaGreatDoorJ13
import Derived.Test.YtbokphkfojijoaaGreatDoorJ18
set_option linter.unusedSimpArgs false
set_option linter.unusedVariables false
set_option maxRecDepth 3000
set_option maxHeartbeats 16000000
section
namespace Go.LA
open Go.RowKit
section
variable {P:Program} {l:List Oper} {N:Nn} {wb:World} {K:List Oper→Env→Prop} {rest:List Oper} {E:Env} {Q:Exit→Act→World→Prop}
variable {d:Tmp} {ty t t':TypeId} {pos:String} {after:Array Edge} {g:Option (Nat × Bool)} {x y z:Operand} {k k':IntKind}
theorem u5A {cs:List Value} {j:Nat} (h:j<cs.length):(cs.drop (j*1)).take 1=[cs.getD j undef]:=by
 rw [Nat.mul_one,List.drop_eq_getElem_cons h,List.take_succ_cons,List.take_zero,List.getD_eq_getElem?_getD,List.getElem?_eq_getElem h];rfl
theorem dlA {n:Nat} {cs:List Value} {i:Int} (hg:b8A l E g=some true) (e:TypeId) (ht:P.underlying t=some (.slice e)) (hs:∀ w,(sizeOf e).run P w=.ok 1 w)
 {r:AD} (hr:opE E x=r) (hx:HasC wb r n 1 cs) (hi:opE E y=.val (.int k i)) (j:Nat) (hj:i=j) (hn:j<n) (hl:cs.length=n)
 (h:LA P l wb K rest ((d,.pred (jkA [cs.getD j undef]))::E)):LA P l wb K (⟨some d,.indexAddr t x y,ty,pos,after,g⟩::rest) E:=by
 refine c9A hg e ht hs hr hx hi j hj hn ?_
 rw [u5A oZ];exact h
def oneP (base e:Nat) (φ:AV):AV:=⟨λ v w=>∃ u,φ.p u w∧u.cells=#[u]∧u.oneCell'=true∧Own base e 1 w v 1 [u],λ _ _ _ x ⟨u,h1,h2,h3,h4⟩=>⟨u,φ.mono _ _ _ x h1,h2,h3,h4.ext x⟩⟩
theorem s3A {zv:Value} {b base:Nat} {e:TypeId} {φ:AV} (hbase:base≤wb.heap.size) (hg:b8A l E g=some true) (hel:El P t e zv 1 b) (hx:opE E x=.pred φ) (hφ:∀ u w,φ.p u w→u.cells=#[u]∧u.oneCell'=true) (h:LA P l wb K rest ((d,.pred (oneP base e φ))::E)) :
 LA P l wb K (⟨some d,.buildSlice t 1 #[(0,x)],ty,pos,after,g⟩::rest) E:=by
 refine b1A (.pred (oneP base e φ)) hg (λ a w he hh=>?_) h;have h1:=hh x (by simp [Op.operands]);rw [hx] at h1
 generalize hc:a.eval x=c at h1
 obtain ⟨h2,h3⟩:=hφ _ _ h1;have hrun:(Instr.buildSlice t 1 #[(0,c)]).run P w=.ok (.slice (some ⟨w.heap.size,0,none⟩) 1 1) (w.alloc (.cells #[c] e)):=by
  simp only [Instr.buildSlice,Sem.run_bind,run_underlying hel.ht,Result.andThen_ok,hel.sizeOf,Nat.reduceMul,Nat.reducePow,gt_iff_lt,Nat.reduceLT,if_false,Sem.run_pure,Nat.reduceEqDiff,hel.zero,kfA h2 hel.zs];rfl
 simp only [execOp,List.map_toArray,List.map_cons,List.map_nil,hc,Sem.run_bind,hrun,Result.andThen_ok,Sem.run_pure];exact ⟨Ext.alloc _ _,c,φ.mono _ _ _ (Ext.alloc _ _) h1,h2,h3,by simp,.inr ⟨w.heap.size,1,#[c],rfl,Nat.le_trans hbase he.size,heap_alloc_new w _,Nat.le_refl _,by decide,rfl,rfl⟩⟩
end
theorem Own.lenV {base e n:Nat} {w:World} {v:Value} {cs:List Value} (h:Own base e 1 w v n cs):cs.length=n:=by have:=h.1;omega
theorem glA {cs:List Value} {j n:Nat} {c:Value} (hl:cs.length=n):(cs++[c]).getD j undef=if j<n then cs.getD j undef else if j=n then c else undef:=by
 simp only [List.getD_eq_getElem?_getD]
 by_cases h1:j<n
 ·rw [if_pos h1,List.getElem?_append_left oZ]
 ·rw [if_neg h1]
  by_cases h2:j=n
  ·rw [if_pos h2,List.getElem?_append_right oZ,show j-cs.length=0 by omega];rfl
  ·rw [if_neg h2,List.getElem?_append_right oZ,List.getElem?_eq_none (by simp;omega)];rfl
end Go.LA
end
section
namespace Go.LA
open Go.RowKit Go.ArrP
theorem r0A {p q:Nat→Bool} (h:∀ x,p x=true↔q x=true):p=q:=funext λ x=>Bool.eq_iff_iff.2 (h x)
end Go.LA
end
section
namespace Go.Proofs.YtbokphkfojijoaaGreatDoor
open Go.LA Go.ArrP Go.RowKit
abbrev tPs:Nat:=37
abbrev tRw:Nat:=72
abbrev tU3:Nat:=71
structure Sets (w:World) (base:Nat) (sv:Value) (ptrs:List Value) (n:Nat) (ps:Nat→Nat→Bool):Prop where
 own:LA.Own base tPs 1 w sv n ptrs
 at_:∀ i,i<n→RSet TT TT w (ptrs.getD i undef) (ps i)
structure RowsV (w:World) (base:Nat) (v:Value) (vs:List Value) (n:Nat) (xs:Nat→List Int):Prop where
 own:LA.Own base tRw 1 w v n vs
 at_:∀ i,i<n→OwnI base tU3 .u32 w (vs.getD i undef) (xs i)
 apart:∀ i j,i<n→j<n→i≠j→∀ b,(vs.getD i undef).ownBlock=some b→(vs.getD j undef).ownBlock≠some b
end Go.Proofs.YtbokphkfojijoaaGreatDoor
end
