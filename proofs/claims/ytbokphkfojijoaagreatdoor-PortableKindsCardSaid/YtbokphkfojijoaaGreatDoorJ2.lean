import Derived.Laws.AppendOwnNone
import Derived.Test.YtbokphkfojijoaaGreatDoorJ1
set_option linter.unusedSimpArgs false
set_option linter.unusedVariables false
set_option maxRecDepth 3000
set_option maxHeartbeats 16000000
section
namespace Go.LA
open Go.RowKit
def jkA (cs:List Value):AV:=⟨λ v w=>∃ p:Addr,v=.pointer (some p)∧∀ (j:Nat) (c:Value),cs[j]?=some c→w.cell? (p.add j)=some c,
 λ _ _ _ e ⟨p,h1,h2⟩=>⟨p,h1,λ j c h=>e.cell (h2 j c h)⟩⟩
def SlC (w:World) (v:Value) (n s:Nat) (cs:List Value):Prop :=
 cs.length=n*s∧∃ (a:Option Addr) (cap:Nat),v=.slice a n cap∧n≤cap∧cap≤maxLen∧(a=none→cap=0)∧(n=0∨∃ b off,a=some ⟨b,off,none⟩∧∀ (j:Nat) (c:Value),cs[j]?=some c→w.cell? ⟨b,off+j,none⟩=some c)
theorem SlC.ext {w w':World} {v:Value} {n s:Nat} {cs:List Value} (h:SlC w v n s cs) (e:Ext w w'):SlC w' v n s cs:=by
 obtain ⟨h0,a,cap,h1,h2,h3,h4,h5⟩:=h;refine ⟨h0,a,cap,h1,h2,h3,h4,?_⟩
 rcases h5 with h5|⟨b,off,h5,h6⟩
 ·exact .inl h5
 ·exact .inr ⟨b,off,h5,λ j c hj=>e.cell (h6 j c hj)⟩
def slC (n s:Nat) (cs:List Value):AV:=⟨λ v w=>SlC w v n s cs,λ _ _ _ e h=>h.ext e⟩
def SlI (k:IntKind) (w:World) (v:Value) (xs:List Int):Prop:=SlC w v xs.length 1 (xs.map (Value.int k))
theorem SlI.ext {k:IntKind} {w w':World} {v:Value} {xs:List Int} (h:SlI k w v xs) (e:Ext w w'):SlI k w' v xs:=SlC.ext h e
def slI (k:IntKind) (xs:List Int):AV:=⟨λ v w=>SlI k w v xs,λ _ _ _ e h=>h.ext e⟩
theorem SlI.len {k:IntKind} {w:World} {v:Value} {xs:List Int} (h:SlI k w v xs):xs.length≤9223372036854775807:=by
 obtain ⟨_,a,cap,_,h2,h3,_⟩:=h;unfold maxLen at h3;omega
theorem SlC.len {w:World} {v:Value} {n s:Nat} {cs:List Value} (h:SlC w v n s cs):n≤9223372036854775807:=by
 obtain ⟨_,a,cap,_,h2,h3,_⟩:=h;unfold maxLen at h3;omega
theorem SlC.isSlice {w:World} {v:Value} {n s:Nat} {cs:List Value} (h:SlC w v n s cs):∃ a c,v=.slice a n c:=let ⟨_,a,c,h,_⟩:=h;⟨a,c,h⟩
theorem SlI.isSlice {k:IntKind} {w:World} {v:Value} {xs:List Int} (h:SlI k w v xs):∃ a c,v=.slice a xs.length c:=SlC.isSlice h
def HasC (wb:World) (r:AD) (n s:Nat) (cs:List Value):Prop:=∀ v w,Ext wb w→r.ok v w→SlC w v n s cs
def HasI (wb:World) (r:AD) (k:IntKind) (xs:List Int):Prop:=∀ v w,Ext wb w→r.ok v w→SlI k w v xs
theorem HasC.val {wb:World} {u:Value} {n s:Nat} {cs:List Value} (h:SlC wb u n s cs):HasC wb (.val u) n s cs:=λ v w e hv=>by
 have hv:v=u:=hv;subst hv;exact h.ext e
theorem HasC.pred {wb:World} {n s:Nat} {cs:List Value}:HasC wb (.pred (slC n s cs)) n s cs:=λ _ _ _ hv=>hv
theorem HasI.val {wb:World} {u:Value} {k:IntKind} {xs:List Int} (h:SlI k wb u xs):HasI wb (.val u) k xs:=λ v w e hv=>by
 have hv:v=u:=hv;subst hv;exact h.ext e
theorem HasI.c {wb:World} {r:AD} {k:IntKind} {xs:List Int} (h:HasI wb r k xs):HasC wb r xs.length 1 (xs.map (Value.int k)):=h
section
variable {P:Program} {l:List Oper} {N:Nat} {wb:World} {K:List Oper→Env→Prop} {rest:List Oper} {E:Env}
theorem beA {o:Oper} {v:Value} (h:∀ (a:Act) (w:World),Ext wb w→(∀ x ∈ o.op.operands,(opE E x).ok (a.eval x) w)→(execOp a.eval o).run P w=.ok (.value v) w):OB P wb E o (.val v):=λ a w he hx=>by
 rw [h a w he hx];exact ⟨Ext.refl _,rfl⟩
variable {d:Tmp} {ty t t':TypeId} {pos:String} {after:Array Edge} {g:Option (Nat × Bool)} {x y z:Operand} {k k':IntKind}
theorem rvA {r:AD} {o:Oper} (ho:o.op=.move x∨o.op=.assign x) (hx:opE E x=r):OB P wb E o r:=λ a w he h=>by
 obtain ⟨dst,op,ty,pos,after,guard⟩:=o;simp only at ho h
 rcases ho with rfl|rfl
 ·have h1:=h x (by simp [Op.operands])
  rw [hx] at h1;simp only [execOp,Sem.run_pure];exact ⟨Ext.refl _,h1⟩
 ·have h1:=h x (by simp [Op.operands])
  rw [hx] at h1;simp only [execOp,Sem.run_pure];exact ⟨Ext.refl _,h1⟩
theorem krA {r:AD} (hg:b8A l E g=some true) (hx:opE E x=r) (h:LA P l wb K rest ((d,r)::E)):LA P l wb K (⟨some d,.move x,ty,pos,after,g⟩::rest) E :=
 b1A r hg (rvA (.inl rfl) hx) h
theorem lsA {r:AD} (hg:b8A l E g=some true) (hx:opE E x=r) (h:LA P l wb K rest ((d,r)::E)):LA P l wb K (⟨some d,.assign x,ty,pos,after,g⟩::rest) E :=
 b1A r hg (rvA (.inr rfl) hx) h
theorem dzA {c:Value} (hg:b8A l E g=some true) (hx:opE E x=.val c) (h:LA P l wb K rest ((d,.val c)::E)):LA P l wb K (⟨some d,.move x,ty,pos,after,g⟩::rest) E:=krA hg hx h
theorem utA {φ:AV} (hg:b8A l E g=some true) (hx:opE E x=.pred φ) (h:LA P l wb K rest ((d,.pred φ)::E)):LA P l wb K (⟨some d,.move x,ty,pos,after,g⟩::rest) E:=krA hg hx h
theorem usA {a b:AD} (hg:b8A l E g=some true) (hx:opE E x=.tup2 a b) (h:LA P l wb K rest ((d,.tup2 a b)::E)):LA P l wb K (⟨some d,.move x,ty,pos,after,g⟩::rest) E:=krA hg hx h
theorem urA {a b c:AD} (hg:b8A l E g=some true) (hx:opE E x=.tup3 a b c) (h:LA P l wb K rest ((d,.tup3 a b c)::E)):LA P l wb K (⟨some d,.move x,ty,pos,after,g⟩::rest) E:=krA hg hx h
theorem jtA {c:Value} (hg:b8A l E g=some true) (hx:opE E x=.val c) (h:LA P l wb K rest ((d,.val c)::E)):LA P l wb K (⟨some d,.assign x,ty,pos,after,g⟩::rest) E:=lsA hg hx h
theorem p9A {φ:AV} (hg:b8A l E g=some true) (hx:opE E x=.pred φ) (h:LA P l wb K rest ((d,.pred φ)::E)):LA P l wb K (⟨some d,.assign x,ty,pos,after,g⟩::rest) E:=lsA hg hx h
theorem a0A {op:Op} (hg:b8A l E g=some false) (h:LA P l wb K rest ((d,.val undef)::E)):LA P l wb K (⟨some d,op,ty,pos,after,g⟩::rest) E:=y3A hg h
theorem upA {r:AD} (hg:b8A l E g=some true) (hc:opE E x=.val (.bool true)) (hx:opE E y=r) (h:LA P l wb K rest ((d,r)::E)):LA P l wb K (⟨some d,.pick x y z,ty,pos,after,g⟩::rest) E :=
 b1A r hg (λ a w he hh=>by
  have h0:=hh x (by simp [Op.operands]);have h1:=hh y (by simp [Op.operands]);rw [hc] at h0;rw [hx] at h1;simp only [AD.ok] at h0;simp only [execOp,h0,asBool,Sem.run_bind,Sem.run_pure,Result.andThen_ok,if_true];exact ⟨Ext.refl _,h1⟩) h
theorem uqA {r:AD} (hg:b8A l E g=some true) (hc:opE E x=.val (.bool false)) (hx:opE E z=r) (h:LA P l wb K rest ((d,r)::E)):LA P l wb K (⟨some d,.pick x y z,ty,pos,after,g⟩::rest) E :=
 b1A r hg (λ a w he hh=>by
  have h0:=hh x (by simp [Op.operands]);have h1:=hh z (by simp [Op.operands]);rw [hc] at h0;rw [hx] at h1;simp only [AD.ok] at h0;simp only [execOp,h0,asBool,Sem.run_bind,Sem.run_pure,Result.andThen_ok,Bool.false_eq_true,if_false];exact ⟨Ext.refl _,h1⟩) h
theorem s1A {c:Value} (hg:b8A l E g=some true) (hc:opE E x=.val (.bool true)) (hx:opE E y=.val c) (h:LA P l wb K rest ((d,.val c)::E)):LA P l wb K (⟨some d,.pick x y z,ty,pos,after,g⟩::rest) E:=upA hg hc hx h
theorem s2A {c:Value} (hg:b8A l E g=some true) (hc:opE E x=.val (.bool false)) (hx:opE E z=.val c) (h:LA P l wb K rest ((d,.val c)::E)):LA P l wb K (⟨some d,.pick x y z,ty,pos,after,g⟩::rest) E:=uqA hg hc hx h
theorem s4A {b:Bool} (hg:b8A l E g=some true) (hc:opE E x=.val (.bool b)) (h:LA P l wb K rest ((d,.val (.bool (!b)))::E)):LA P l wb K (⟨some d,.unOp .not t x,ty,pos,after,g⟩::rest) E :=
 b1A _ hg (beA λ a w he hh=>by
  have h0:=hh x (by simp [Op.operands]);rw [hc] at h0;simp only [AD.ok] at h0;simp only [execOp,h0,Op.unary,Sem.run_bind,Sem.run_pure,Result.andThen_ok]) h
theorem y5A (hg:b8A l E g=some true) (hc:opE E x=.val (.bool true)) (h:LA P l wb K rest ((d,.val (.bool false))::E)):LA P l wb K (⟨some d,.unOp .not t x,ty,pos,after,g⟩::rest) E:=s4A hg hc h
theorem y6A (hg:b8A l E g=some true) (hc:opE E x=.val (.bool false)) (h:LA P l wb K rest ((d,.val (.bool true))::E)):LA P l wb K (⟨some d,.unOp .not t x,ty,pos,after,g⟩::rest) E:=s4A hg hc h
theorem yaA {r r':AD} (hg:b8A l E g=some true) (hx:opE E x=.tup2 r r') (h:LA P l wb K rest ((d,r)::E)):LA P l wb K (⟨some d,.extract x 0,ty,pos,after,g⟩::rest) E :=
 b1A _ hg (λ a w he hh=>by
  have h0:=hh x (by simp [Op.operands]);rw [hx] at h0;obtain ⟨u,v,h1,h2,h3⟩:=h0;simp only [execOp,h1,Instr.extract,Sem.run_bind];exact ⟨Ext.refl _,h2⟩) h
theorem y9A {r r':AD} (hg:b8A l E g=some true) (hx:opE E x=.tup2 r r') (h:LA P l wb K rest ((d,r')::E)):LA P l wb K (⟨some d,.extract x 1,ty,pos,after,g⟩::rest) E :=
 b1A _ hg (λ a w he hh=>by
  have h0:=hh x (by simp [Op.operands]);rw [hx] at h0;obtain ⟨u,v,h1,h2,h3⟩:=h0;simp only [execOp,h1,Instr.extract,Sem.run_bind];exact ⟨Ext.refl _,h3⟩) h
theorem v0A {r r' r'':AD} (hg:b8A l E g=some true) (hx:opE E x=.tup3 r r' r'') (h:LA P l wb K rest ((d,r)::E)):LA P l wb K (⟨some d,.extract x 0,ty,pos,after,g⟩::rest) E :=
 b1A _ hg (λ a w he hh=>by
  have h0:=hh x (by simp [Op.operands]);rw [hx] at h0;obtain ⟨u,v,z,h1,h2,h3,h4⟩:=h0;simp only [execOp,h1,Instr.extract,Sem.run_bind];exact ⟨Ext.refl _,h2⟩) h
theorem uzA {r r' r'':AD} (hg:b8A l E g=some true) (hx:opE E x=.tup3 r r' r'') (h:LA P l wb K rest ((d,r')::E)):LA P l wb K (⟨some d,.extract x 1,ty,pos,after,g⟩::rest) E :=
 b1A _ hg (λ a w he hh=>by
  have h0:=hh x (by simp [Op.operands]);rw [hx] at h0;obtain ⟨u,v,z,h1,h2,h3,h4⟩:=h0;simp only [execOp,h1,Instr.extract,Sem.run_bind];exact ⟨Ext.refl _,h3⟩) h
theorem uyA {r r' r'':AD} (hg:b8A l E g=some true) (hx:opE E x=.tup3 r r' r'') (h:LA P l wb K rest ((d,r'')::E)):LA P l wb K (⟨some d,.extract x 2,ty,pos,after,g⟩::rest) E :=
 b1A _ hg (λ a w he hh=>by
  have h0:=hh x (by simp [Op.operands]);rw [hx] at h0;obtain ⟨u,v,z,h1,h2,h3,h4⟩:=h0;simp only [execOp,h1,Instr.extract,Sem.run_bind];exact ⟨Ext.refl _,h4⟩) h
def kdA:BinOp→Bool
 | .lss|.leq|.gtr|.geq|.eql|.neq=>true
 | _=>false
def kwA:BinOp→Int→Int→Prop
 | .lss,a,b=>a<b
 | .leq,a,b=>a≤b
 | .gtr,a,b=>b<a
 | .geq,a,b=>b≤a
 | .eql,a,b=>a=b
 | .neq,a,b=>a≠b
 | _,_,_=>False
theorem wgA {op:BinOp} {a b:Int} {v:Bool} (hc:kdA op=true) (hv:kwA op a b↔v=true) (w:World):(binOp op t (.int k a) (.int k b)).run P w=.ok (.bool v) w:=by
 cases op <;> simp only [kdA,Bool.false_eq_true] at hc <;> simp only [binOp_lss,binOp_leq,binOp_gtr,binOp_geq,binOp_eql,binOp_neq,Sem.run_pure,kwA] at hv ⊢ <;>
  (congr 2;rw [Bool.eq_iff_iff,← hv];simp)
theorem rwA {op:BinOp} {a b:Int} {v:Bool} (hx:opE E x=.val (.int k a)) (hy:opE E y=.val (.int k b)) (hc:kdA op=true) (hv:kwA op a b↔v=true) :
 OB P wb E ⟨some d,.binOp op t x y t',ty,pos,after,g⟩ (.val (.bool v)):=beA λ a w he h=>by
 have h1:=h x (by simp [Op.operands]);have h2:=h y (by simp [Op.operands]);rw [hx] at h1;rw [hy] at h2;simp only [AD.ok] at h1 h2;simp only [execOp,h1,h2,Sem.run_bind,eqGuard_at_int,Sem.run_pure,Result.andThen_ok,wgA hc hv]
theorem saA {op:BinOp} {a b:Int} (hg:b8A l E g=some true) (hx:opE E x=.val (.int k a)) (hy:opE E y=.val (.int k b)) (hc:kdA op=true) (hp:kwA op a b)
 (h:LA P l wb K rest ((d,.val (.bool true))::E)):LA P l wb K (⟨some d,.binOp op t x y t',ty,pos,after,g⟩::rest) E :=
 b1A _ hg (rwA hx hy hc ⟨λ _=>rfl,λ _=>hp⟩) h
theorem ktA {op:BinOp} {a b:Int} (hg:b8A l E g=some true) (hx:opE E x=.val (.int k a)) (hy:opE E y=.val (.int k b)) (hc:kdA op=true) (hp:¬ kwA op a b)
 (h:LA P l wb K rest ((d,.val (.bool false))::E)):LA P l wb K (⟨some d,.binOp op t x y t',ty,pos,after,g⟩::rest) E :=
 b1A (.val (.bool false)) hg (rwA hx hy hc ⟨λ h=>absurd h hp,λ h=>by cases h⟩) h
theorem a1B {op:BinOp} {a b:Int} (hg:b8A l E g=some true) (hx:opE E x=.val (.int k a)) (hy:opE E y=.val (.int k b)) (hc:kdA op=true)
 (h:kwA op a b→LA P l wb K rest ((d,.val (.bool true))::E)) (h':¬ kwA op a b→LA P l wb K rest ((d,.val (.bool false))::E)) :
 LA P l wb K (⟨some d,.binOp op t x y t',ty,pos,after,g⟩::rest) E:=by
 by_cases hp:kwA op a b
 ·exact saA hg hx hy hc hp (h hp)
 ·exact ktA hg hx hy hc hp (h' hp)
def isAr:BinOp→Bool
 | .add|.sub|.mul=>true
 | _=>false
def arI:BinOp→Int→Int→Int
 | .add,a,b=>a+b
 | .sub,a,b=>a-b
 | .mul,a,b=>a*b
 | _,a,_=>a
theorem OB_ar {op:BinOp} {a b:Int} (hx:opE E x=.val (.int k a)) (hy:opE E y=.val (.int k b)) (hc:isAr op=true) :
 OB P wb E ⟨some d,.binOp op t x y t',ty,pos,after,g⟩ (.val (.int k (k.wrap (arI op a b)))):=beA λ a w he h=>by
 have h1:=h x (by simp [Op.operands]);have h2:=h y (by simp [Op.operands]);rw [hx] at h1;rw [hy] at h2;simp only [AD.ok] at h1 h2
 cases op <;> simp only [isAr,Bool.false_eq_true] at hc <;>
  simp only [execOp,h1,h2,Sem.run_bind,eqGuard_at_int,Sem.run_pure,Result.andThen_ok,binOp_add,binOp_sub,binOp_mul,Op.intArith,arI]
theorem sdA {op:BinOp} {a b:Int} (hg:b8A l E g=some true) (hx:opE E x=.val (.int k a)) (hy:opE E y=.val (.int k b)) (hc:isAr op=true)
 (h:LA P l wb K rest ((d,.val (.int k (k.wrap (arI op a b))))::E)) :
 LA P l wb K (⟨some d,.binOp op t x y t',ty,pos,after,g⟩::rest) E:=b1A _ hg (OB_ar hx hy hc) h
theorem e8A {src dst:TypeId} {n:Int} {kd:IntKind} (hg:b8A l E g=some true) (hs:(P.underlying src).isSome=true) (hd:P.underlying dst=some (.int kd)) (hx:opE E x=.val (.int k n))
 (h:LA P l wb K rest ((d,.val (.int kd (kd.wrap n)))::E)):LA P l wb K (⟨some d,.convert src dst x,ty,pos,after,g⟩::rest) E :=
 b1A _ hg (beA λ a w he hh=>by
  have h1:=hh x (by simp [Op.operands]);rw [hx] at h1;simp only [AD.ok] at h1;obtain ⟨u,hu⟩:=Option.isSome_iff_exists.mp hs;simp only [execOp,h1,convert,Sem.run_bind,run_underlying hd,run_underlying hu,Conv.intToInt,Sem.run_pure,Result.andThen_ok]) h
def fits:IntKind→Int→Prop
 | .i64,n=>-9223372036854775808≤n∧n≤9223372036854775807
 | .u64,n=>0≤n∧n≤18446744073709551615
 | .i32,n=>-2147483648≤n∧n≤2147483647
 | .u32,n=>0≤n∧n≤4294967295
 | .i16,n=>-32768≤n∧n≤32767
 | .u16,n=>0≤n∧n≤65535
 | .i8,n=>-128≤n∧n≤127
 | .u8,n=>0≤n∧n≤255
theorem ctA (k:IntKind) (n:Int) (h:fits k n):k.wrap n=n:=by
 cases k <;> simp only [fits] at h
 ·exact IntWalk.i8_in n h
 ·exact IntWalk.i16_in n h
 ·exact IntWalk.i32_in n h
 ·exact IntWalk.i64_in n h
 ·exact IntWalk.u8_in n h
 ·exact IntWalk.u16_in n h
 ·exact IntWalk.u32_in n h
 ·exact IntWalk.u64_in n h
theorem ogA {src dst:TypeId} {n:Int} {kd:IntKind} (hg:b8A l E g=some true) (hs:(P.underlying src).isSome=true) (hd:P.underlying dst=some (.int kd)) (hx:opE E x=.val (.int k n)) (hf:fits kd n)
 (h:LA P l wb K rest ((d,.val (.int kd n))::E)):LA P l wb K (⟨some d,.convert src dst x,ty,pos,after,g⟩::rest) E :=
 e8A hg hs hd hx (by rw [ctA kd n hf];exact h)
theorem j0A {n m:Int} {km:IntKind} (hg:b8A l E g=some true) (hx:opE E x=.val (.int k n)) (hy:opE E y=.val (.int km m)) (h0:0≤m) (h1:m≤k.bits)
 (h:LA P l wb K rest ((d,.val (.int k (n / 2 ^ m.toNat)))::E)):LA P l wb K (⟨some d,.binOp .shr t x y t',ty,pos,after,g⟩::rest) E :=
 b1A _ hg (beA λ a w he hh=>by
  have e1:=hh x (by simp [Op.operands]);have e2:=hh y (by simp [Op.operands]);rw [hx] at e1;rw [hy] at e2;simp only [AD.ok] at e1 e2;simp only [execOp,e1,e2,Sem.run_bind,eqGuard_at_int,Sem.run_pure,Result.andThen_ok,binOp_shr,shift_shr k km n m h0 h1]) h
theorem gqA {n m:Int} {km:IntKind} (hg:b8A l E g=some true) (hx:opE E x=.val (.int k n)) (hy:opE E y=.val (.int km m)) (h0:0≤m) (h1:m≤k.bits)
 (h:LA P l wb K rest ((d,.val (.int k (k.wrap (n*2 ^ m.toNat))))::E)):LA P l wb K (⟨some d,.binOp .shl t x y t',ty,pos,after,g⟩::rest) E :=
 b1A _ hg (beA λ a w he hh=>by
  have e1:=hh x (by simp [Op.operands]);have e2:=hh y (by simp [Op.operands]);rw [hx] at e1;rw [hy] at e2;simp only [AD.ok] at e1 e2;simp only [execOp,e1,e2,Sem.run_bind,eqGuard_at_int,Sem.run_pure,Result.andThen_ok,binOp_shl,shift_shl k km n m h0 h1]) h
theorem chA {op:BinOp} {n m:Int} (hop:op=.and∨op=.or∨op=.xor∨op=.andNot) (hg:b8A l E g=some true) (hx:opE E x=.val (.int k n)) (hy:opE E y=.val (.int k m))
 (h:LA P l wb K rest ((d,.val (.int k (bits op k n m)))::E)):LA P l wb K (⟨some d,.binOp op t x y t',ty,pos,after,g⟩::rest) E :=
 b1A _ hg (beA λ a w he hh=>by
  have e1:=hh x (by simp [Op.operands]);have e2:=hh y (by simp [Op.operands]);rw [hx] at e1;rw [hy] at e2;simp only [AD.ok] at e1 e2
  rcases hop with rfl|rfl|rfl|rfl <;>
   simp only [execOp,e1,e2,Sem.run_bind,eqGuard_at_int,Sem.run_pure,Result.andThen_ok,binOp_and,binOp_or,binOp_xor,binOp_andNot,intBits_and,intBits_or,intBits_xor,intBits_andNot]) h
theorem jjA {tb:TypeId} {a b:Bool} {w:World} (ht:P.underlying tb=some .bool):(Op.equal tb (.bool a) (.bool b)).run P w=.ok (a == b) w:=by
 unfold Op.equal;have:∀ n,n≠0→(Op.equalIn n tb (.bool a) (.bool b)).run P w=.ok (a == b) w:=λ n hn=>by
  cases n with
  | zero=>exact absurd rfl hn
  | succ n=>simp [Op.equalIn,run_underlying ht]
 exact this _ (by decide)
theorem wfA {tb:TypeId} {a b:Bool} {w:World} (ht:P.underlying tb=some .bool):(binOp .eql tb (.bool a) (.bool b)).run P w=.ok (.bool (a == b)) w:=by
 show ((do pure (.bool (← Op.equal tb (.bool a) (.bool b))):Sem Value)).run P w=_
 simp only [Sem.run_bind,jjA ht,Result.andThen_ok,Sem.run_pure]
theorem wdA {tb:TypeId} {a b:Bool} {w:World} (ht:P.underlying tb=some .bool):(binOp .neq tb (.bool a) (.bool b)).run P w=.ok (.bool (!(a == b))) w:=by
 show ((do pure (.bool (!(← Op.equal tb (.bool a) (.bool b)))):Sem Value)).run P w=_
 simp only [Sem.run_bind,jjA ht,Result.andThen_ok,Sem.run_pure]
theorem j5A {tb:TypeId} {a b:Bool} (hg:b8A l E g=some true) (ht:P.underlying tb=some .bool) (hx:opE E x=.val (.bool a)) (hy:opE E y=.val (.bool b))
 (h:LA P l wb K rest ((d,.val (.bool (a == b)))::E)):LA P l wb K (⟨some d,.binOp .eql tb x y t',ty,pos,after,g⟩::rest) E :=
 b1A _ hg (beA λ ac w he hh=>by
  have e1:=hh x (by simp [Op.operands]);have e2:=hh y (by simp [Op.operands]);rw [hx] at e1;rw [hy] at e2;simp only [AD.ok] at e1 e2;have:(binOp .eql tb (.bool a) (.bool b)).run P w=.ok (.bool (a == b)) w:=wfA ht;simp only [execOp,e1,e2,Sem.run_bind,eqGuard_at_bool,Sem.run_pure,Result.andThen_ok,this]) h
theorem p7A {tb:TypeId} {a b:Bool} (hg:b8A l E g=some true) (ht:P.underlying tb=some .bool) (hx:opE E x=.val (.bool a)) (hy:opE E y=.val (.bool b)) (hab:a=b)
 (h:LA P l wb K rest ((d,.val (.bool true))::E)):LA P l wb K (⟨some d,.binOp .eql tb x y t',ty,pos,after,g⟩::rest) E:=j5A hg ht hx hy (by rw [show (a == b)=true by simp [hab]];exact h)
theorem p8A {tb:TypeId} {a b:Bool} (hg:b8A l E g=some true) (ht:P.underlying tb=some .bool) (hx:opE E x=.val (.bool a)) (hy:opE E y=.val (.bool b)) (hab:a≠b)
 (h:LA P l wb K rest ((d,.val (.bool false))::E)):LA P l wb K (⟨some d,.binOp .eql tb x y t',ty,pos,after,g⟩::rest) E:=j5A hg ht hx hy (by rw [show (a == b)=false by simp [hab]];exact h)
theorem j4A {tb:TypeId} {a b:Bool} (hg:b8A l E g=some true) (ht:P.underlying tb=some .bool) (hx:opE E x=.val (.bool a)) (hy:opE E y=.val (.bool b))
 (h:LA P l wb K rest ((d,.val (.bool (!(a == b))))::E)):LA P l wb K (⟨some d,.binOp .neq tb x y t',ty,pos,after,g⟩::rest) E :=
 b1A _ hg (beA λ ac w he hh=>by
  have e1:=hh x (by simp [Op.operands]);have e2:=hh y (by simp [Op.operands]);rw [hx] at e1;rw [hy] at e2;simp only [AD.ok] at e1 e2;have:(binOp .neq tb (.bool a) (.bool b)).run P w=.ok (.bool (!(a == b))) w:=wdA ht;simp only [execOp,e1,e2,Sem.run_bind,eqGuard_at_bool,Sem.run_pure,Result.andThen_ok,this]) h
theorem seA {op:BinOp} {a b:Int} (hg:b8A l E g=some true) (hx:opE E x=.val (.int k a)) (hy:opE E y=.val (.int k b)) (hc:isAr op=true) (hf:fits k (arI op a b))
 (h:LA P l wb K rest ((d,.val (.int k (arI op a b)))::E)):LA P l wb K (⟨some d,.binOp op t x y t',ty,pos,after,g⟩::rest) E :=
 sdA hg hx hy hc (by rw [ctA k _ hf];exact h)
theorem p5A {tb:TypeId} {a b:Bool} (hg:b8A l E g=some true) (ht:P.underlying tb=some .bool) (hx:opE E x=.val (.bool a)) (hy:opE E y=.val (.bool b)) (hab:a≠b)
 (h:LA P l wb K rest ((d,.val (.bool true))::E)):LA P l wb K (⟨some d,.binOp .neq tb x y t',ty,pos,after,g⟩::rest) E:=j4A hg ht hx hy (by rw [show (!(a == b))=true by simp [hab]];exact h)
theorem p6A {tb:TypeId} {a b:Bool} (hg:b8A l E g=some true) (ht:P.underlying tb=some .bool) (hx:opE E x=.val (.bool a)) (hy:opE E y=.val (.bool b)) (hab:a=b)
 (h:LA P l wb K rest ((d,.val (.bool false))::E)):LA P l wb K (⟨some d,.binOp .neq tb x y t',ty,pos,after,g⟩::rest) E:=j4A hg ht hx hy (by rw [show (!(a == b))=false by simp [hab]];exact h)
theorem btA {a b:Int} (hg:b8A l E g=some true) (hx:opE E x=.val (.int k a)) (hy:opE E y=.val (.int k b)) (hf:fits k (a+b))
 (h:LA P l wb K rest ((d,.val (.int k (a+b)))::E)):LA P l wb K (⟨some d,.binOp .add t x y t',ty,pos,after,g⟩::rest) E:=seA hg hx hy rfl hf h
theorem afA {a b:Int} (hg:b8A l E g=some true) (hx:opE E x=.val (.int k a)) (hy:opE E y=.val (.int k b)) (hf:fits k (a-b))
 (h:LA P l wb K rest ((d,.val (.int k (a-b)))::E)):LA P l wb K (⟨some d,.binOp .sub t x y t',ty,pos,after,g⟩::rest) E:=seA hg hx hy rfl hf h
theorem ejA {a b:Int} (hg:b8A l E g=some true) (hx:opE E x=.val (.int k a)) (hy:opE E y=.val (.int k b)) (hf:fits k (a*b))
 (h:LA P l wb K rest ((d,.val (.int k (a*b)))::E)):LA P l wb K (⟨some d,.binOp .mul t x y t',ty,pos,after,g⟩::rest) E:=seA hg hx hy rfl hf h
theorem kvA {a b:Int} (hg:b8A l E g=some true) (hx:opE E x=.val (.int k a)) (hy:opE E y=.val (.int k b))
 (h:LA P l wb K rest ((d,.val (.int k (k.wrap (a+b))))::E)):LA P l wb K (⟨some d,.binOp .add t x y t',ty,pos,after,g⟩::rest) E:=sdA hg hx hy rfl h
theorem s6A {a b:Int} (hg:b8A l E g=some true) (hx:opE E x=.val (.int k a)) (hy:opE E y=.val (.int k b))
 (h:LA P l wb K rest ((d,.val (.int k (k.wrap (a*b))))::E)):LA P l wb K (⟨some d,.binOp .mul t x y t',ty,pos,after,g⟩::rest) E:=sdA hg hx hy rfl h
theorem azA {n:Nat} (hg:b8A l E g=some true) (e:TypeId) (ht:P.underlying t=some (.slice e)) {r:AD} {s:Nat} {cs:List Value} (hr:opE E x=r) (hx:HasC wb r n s cs)
 (h:LA P l wb K rest ((d,.val (.int .i64 n))::E)):LA P l wb K (⟨some d,.call ⟨.builtin .len,#[x],#[t]⟩,ty,pos,after,g⟩::rest) E :=
 b1A _ hg (beA λ a w he hh=>by
  obtain ⟨u,c,hv⟩:=(hx _ _ he (hr▸hh x (by simp [Op.operands,Call.operands]))).isSlice;have:(Builtin.len_ #[t] ty #[.slice u n c]).run P w=.ok (goInt n) w:=by simp [Builtin.len_,run_underlying ht]
  simp only [execOp,resolve,Sem.run_bind,Sem.run_pure,Result.andThen_ok,List.map_toArray,List.map_cons,List.map_nil,hv,invoke,builtin,this];rfl) h
theorem c9A {n s:Nat} {cs:List Value} {i:Int} (hg:b8A l E g=some true) (e:TypeId) (ht:P.underlying t=some (.slice e)) (hs:∀ w,(sizeOf e).run P w=.ok s w)
 {r:AD} (hr:opE E x=r) (hx:HasC wb r n s cs) (hi:opE E y=.val (.int k i)) (j:Nat) (hj:i=j) (hn:j<n)
 (h:LA P l wb K rest ((d,.pred (jkA ((cs.drop (j*s)).take s)))::E)):LA P l wb K (⟨some d,.indexAddr t x y,ty,pos,after,g⟩::rest) E:=by
 refine b1A (.pred (jkA ((cs.drop (j*s)).take s))) hg (λ a w he hh=>?_) h;obtain ⟨h0,ad,cap,hv,hnc,hm,-,hcs⟩:=hx _ _ he (hr▸hh x (by simp [Op.operands]));have h2:=hh y (by simp [Op.operands]);rw [hi] at h2;simp only [AD.ok] at h2;subst hj
 rcases hcs with rfl|⟨b,off,rfl,hc⟩
 ·omega
 ·have hrun:(Instr.indexAt t (.slice (some ⟨b,off,none⟩) n cap) (.int k (j:Int))).run P w=.ok (.pointer (some (Addr.add ⟨b,off,none⟩ (j*s)))) w:=by
   simp [Instr.indexAt,run_underlying ht,asIntOf,hs,hn]
  simp only [execOp,hv,h2,Sem.run_bind,hrun,Result.andThen_ok,Sem.run_pure];refine ⟨Ext.refl _,_,rfl,λ i c hc'=>?_⟩;rw [List.getElem?_take] at hc'
  split at hc'
  ·rw [List.getElem?_drop] at hc'
   have:=hc _ _ hc';rw [Addr.add_lit,Addr.add_lit,Nat.add_assoc];exact this
  ·cases hc'
theorem oeA {k':IntKind} {xs:List Int} {i:Int} (hg:b8A l E g=some true) (e:TypeId) (ht:P.underlying t=some (.slice e)) (hs:∀ w,(sizeOf e).run P w=.ok 1 w)
 {r:AD} (hr:opE E x=r) (hx:HasI wb r k' xs) (hi:opE E y=.val (.int k i)) (h0:0≤i) (hn:i<xs.length)
 (h:LA P l wb K rest ((d,.pred (jkA [.int k' (xs.getD i.toNat 0)]))::E)):LA P l wb K (⟨some d,.indexAddr t x y,ty,pos,after,g⟩::rest) E:=by
 refine c9A hg e ht hs hr hx.c hi i.toNat (by omega) (by omega) ?_
 have:((xs.map (Value.int k')).drop (i.toNat*1)).take 1=[.int k' (xs.getD i.toNat 0)]:=by
  rw [Nat.mul_one,List.drop_eq_getElem_cons (by simp;omega)];simp [List.getD,List.getElem?_eq_getElem (by omega:i.toNat<xs.length)]
 rw [this];exact h
theorem agA {k':IntKind} {xs:List Int} {j:Nat} (hg:b8A l E g=some true) (e:TypeId) (ht:P.underlying t=some (.slice e)) (hs:∀ w,(sizeOf e).run P w=.ok 1 w)
 {r:AD} (hr:opE E x=r) (hx:HasI wb r k' xs) (hi:opE E y=.val (.int k ((j:Nat):Int))) (hn:j<xs.length)
 (h:LA P l wb K rest ((d,.pred (jkA [.int k' (xs.getD j 0)]))::E)):LA P l wb K (⟨some d,.indexAddr t x y,ty,pos,after,g⟩::rest) E :=
 oeA hg e ht hs hr hx hi (by omega) (by omega) h
theorem j1A {c:Value} (hg:b8A l E g=some true) (ht:∀ w,(isAgg t).run P w=.ok false w) (hx:opE E x=.pred (jkA [c])) (h:LA P l wb K rest ((d,.val c)::E)) :
 LA P l wb K (⟨some d,.load t x,ty,pos,after,g⟩::rest) E :=
 b1A _ hg (beA λ a w he hh=>by
  have h1:=hh x (by simp [Op.operands]);rw [hx] at h1;obtain ⟨p,hv,hc⟩:=h1;have hc:=hc 0 c rfl;have e0:p.add 0=p:=Addr.add_zero' p;rw [e0] at hc;simp only [execOp,hv,Instr.loadAt,Instr.sureAddr,loadVar,Sem.run_bind,Sem.run_pure,Result.andThen_ok,ht,Bool.false_eq_true,if_false,run_load,hc]) h
theorem ocA {c:Value} {p:Addr} (hg:b8A l E g=some true) (ht:∀ w,(isAgg t).run P w=.ok false w) (hx:opE E x=.val (.pointer (some p))) (hc:wb.cell? p=some c) (h:LA P l wb K rest ((d,.val c)::E)) :
 LA P l wb K (⟨some d,.load t x,ty,pos,after,g⟩::rest) E :=
 b1A _ hg (beA λ a w he hh=>by
  have h1:=hh x (by simp [Op.operands]);rw [hx] at h1;simp only [AD.ok] at h1;have hc:=he.cell hc;simp only [execOp,h1,Instr.loadAt,Instr.sureAddr,loadVar,Sem.run_bind,Sem.run_pure,Result.andThen_ok,ht,Bool.false_eq_true,if_false,run_load,hc]) h
def Fc (P:Program) (f:FuncId) (args:Array Value) (w:World) (R:Ending→World→Prop):Prop :=
 (∀ (args:Array Value) (w:World),(callFunc f args).run P w=.ok (.enter f args) w)∧Calls P f args w R
theorem k0A {f:FuncId} {fn:Func} {c:Code} (hf:P.funcs[f]?=some fn) (hb:fn.body=some c) (hn:(fn.name == "runtime.NumGoroutine")=false) (args:Array Value) (w:World) :
 (callFunc f args).run P w=.ok (.enter f args) w:=by
 unfold callFunc;simp only [Sem.run_bind,run_program,Result.andThen_ok,hf,hn,hb,Option.isNone_some,Bool.false_eq_true,if_false];rfl
theorem Fc.of {f:FuncId} {fn:Func} {c:Code} {args:List Value} {w:World} {R:Ending→World→Prop} (hf:P.funcs[f]?=some fn) (hb:fn.body=some c) (hname:(fn.name == "runtime.NumGoroutine")=false) (hn:fn.ntmps=N) (hle:args.length≤N)
 (h:CX P ⟨N,[]⟩ w c (lpA args 0) (bodyPost P fn R)):Fc P f args.toArray w R:=⟨k0A hf hb hname,uaA hf hb hn hle h⟩
theorem Fc.mono {f:FuncId} {args:Array Value} {w:World} {R R':Ending→World→Prop} (h:Fc P f args w R) (hr:∀ e w',R e w'→R' e w'):Fc P f args w R':=⟨h.1,h.2.mono hr⟩
theorem cgA {f:FuncId} {args:Array Operand} {ats:Array TypeId} {w:World} {ρ:Operand→Value} {fv:Operand} (hfv:ρ fv=.func (.func f) #[] #[]) (hf:(callFunc f (args.map ρ)).run P w=.ok (.enter f (args.map ρ)) w) :
 (execOp ρ ⟨some d,.call ⟨.value fv,args,ats⟩,ty,pos,after,g⟩).run P w=.ok (.enter f (args.map ρ)) w:=by
 simp only [execOp,resolve,Deferred.ofValue,hfv,Sem.run_bind,Sem.run_pure,Result.andThen_ok,invoke]
 simpa using hf
theorem faA {f:FuncId} {ats:Array TypeId} {fv:Operand} (hg:b8A l E g=some true) (hfv:opE E fv=.val (.func (.func f) #[] #[])) (r:AD) (hc:∀ w,Ext wb w→Fc P f #[] w (Ret w r))
 (h:LA P l wb K rest ((d,r)::E)):LA P l wb K (⟨some d,.call ⟨.value fv,#[],ats⟩,ty,pos,after,g⟩::rest) E :=
 b1A r hg (λ a w he hh=>by
  have h1:=hh fv (by simp [Op.operands,Call.operands]);rw [hfv] at h1;rw [cgA h1 ((hc w he).1 _ _)];refine ⟨rfl,?_⟩;simp only [List.map_toArray,List.map_nil];exact (hc w he).2) h
theorem a1A {f:FuncId} {ats:Array TypeId} {fv:Operand} {r1:AD} (hg:b8A l E g=some true) (hfv:opE E fv=.val (.func (.func f) #[] #[])) (hu1:opE E x=r1) (r:AD)
 (hc:∀ u1 w,Ext wb w→r1.ok u1 w→Fc P f #[u1] w (Ret w r))
 (h:LA P l wb K rest ((d,r)::E)):LA P l wb K (⟨some d,.call ⟨.value fv,#[x],ats⟩,ty,pos,after,g⟩::rest) E :=
 b1A r hg (λ a w he hh=>by
  have h1:=hh fv (by simp [Op.operands,Call.operands]);rw [hfv] at h1;have eu1:=hh x (by simp [Op.operands,Call.operands]);rw [hu1] at eu1;have:=hc _ w he eu1;rw [cgA h1 (this.1 _ _)];refine ⟨rfl,?_⟩;simp only [List.map_toArray,List.map_cons,List.map_nil];exact this.2) h
theorem a5A {f:FuncId} {ats:Array TypeId} {fv:Operand} {r1 r2:AD} (hg:b8A l E g=some true) (hfv:opE E fv=.val (.func (.func f) #[] #[])) (hu1:opE E x=r1) (hu2:opE E y=r2) (r:AD)
 (hc:∀ u1 u2 w,Ext wb w→r1.ok u1 w→r2.ok u2 w→Fc P f #[u1,u2] w (Ret w r))
 (h:LA P l wb K rest ((d,r)::E)):LA P l wb K (⟨some d,.call ⟨.value fv,#[x,y],ats⟩,ty,pos,after,g⟩::rest) E :=
 b1A r hg (λ a w he hh=>by
  have h1:=hh fv (by simp [Op.operands,Call.operands]);rw [hfv] at h1;have eu1:=hh x (by simp [Op.operands,Call.operands]);rw [hu1] at eu1;have eu2:=hh y (by simp [Op.operands,Call.operands]);rw [hu2] at eu2;have:=hc _ _ w he eu1 eu2;rw [cgA h1 (this.1 _ _)];refine ⟨rfl,?_⟩;simp only [List.map_toArray,List.map_cons,List.map_nil];exact this.2) h
theorem bcA {f:FuncId} {ats:Array TypeId} {fv:Operand} {r1 r2 r3:AD} (hg:b8A l E g=some true) (hfv:opE E fv=.val (.func (.func f) #[] #[])) (hu1:opE E x=r1) (hu2:opE E y=r2) (hu3:opE E z=r3) (r:AD)
 (hc:∀ u1 u2 u3 w,Ext wb w→r1.ok u1 w→r2.ok u2 w→r3.ok u3 w→Fc P f #[u1,u2,u3] w (Ret w r))
 (h:LA P l wb K rest ((d,r)::E)):LA P l wb K (⟨some d,.call ⟨.value fv,#[x,y,z],ats⟩,ty,pos,after,g⟩::rest) E :=
 b1A r hg (λ a w he hh=>by
  have h1:=hh fv (by simp [Op.operands,Call.operands]);rw [hfv] at h1;have eu1:=hh x (by simp [Op.operands,Call.operands]);rw [hu1] at eu1;have eu2:=hh y (by simp [Op.operands,Call.operands]);rw [hu2] at eu2;have eu3:=hh z (by simp [Op.operands,Call.operands]);rw [hu3] at eu3;have:=hc _ _ _ w he eu1 eu2 eu3;rw [cgA h1 (this.1 _ _)];refine ⟨rfl,?_⟩;simp only [List.map_toArray,List.map_cons,List.map_nil];exact this.2) h
theorem bqA {f:FuncId} {args:Array Value} {w:World} {b b':Value} (hb:b=b') (h:Fc P f args w (Ret w (.val b))):Fc P f args w (Ret w (.val b')):=hb▸h
theorem nbA {f:FuncId} {args:Array Value} {w:World} {b:Bool} (h:Fc P f args w (Ret w (.val (.bool b)))) (hb:b=true):Fc P f args w (Ret w (.val (.bool true))):=hb▸h
theorem Fc.run {f:FuncId} {args:Array Value} {w:World} {R:Ending→World→Prop} (h:Fc P f args w R) (args':Array Value) (w':World):(callFunc f args').run P w'=.ok (.enter f args') w':=h.1 _ _
theorem Fc.calls {f:FuncId} {args:Array Value} {w:World} {R:Ending→World→Prop} (h:Fc P f args w R):Calls P f args w R:=h.2
end
attribute [irreducible] Fc
end Go.LA
namespace Go
open Go.LA
theorem oZ {p:Prop} (h:p:=by omega):p:=h
theorem dZ {p:Prop} (h:p:=by decide):p:=h
theorem kZ {p:Prop} (h:p:=by kernel_rfl):p:=h
theorem eZ {p:Prop} (h:p:=by dsimp only;omega):p:=h
theorem fZ {p:Prop} (h:p:=by dsimp only [fits];omega):p:=h
theorem nZ {a b:Nat} (h:Nat.ble a b=true:=by exact rfl):a≤b:=Nat.le_of_ble_eq_true h
theorem sZ {p:Prop} (h:p:=by repeat' (first|exact Sub.nil|refine Sub.val rfl (by first|with_reducible rfl|(congr 1;omega)) ?_|refine Sub.same rfl ?_)):p:=h
end Go
end
section
namespace Go.LA
open Go.RowKit
structure El (P:Program) (t e:TypeId) (z:Value) (s b:Nat):Prop where
 ht:P.underlying t=some (.slice e)
 info:(P.info? e).map (λ i=>(i.zero,i.size,i.bytes))=some (some z,s,b)
 zs:z.cells.size=s
 pos:0<s
theorem El.parts {P:Program} {t e:TypeId} {z:Value} {s b:Nat} (h:El P t e z s b):∃ i,P.info? e=some i∧i.zero=some z∧i.size=s∧i.bytes=b:=by
 have h1:=h.info;cases hi:P.info? e with
 | none=>rw [hi] at h1;cases h1
 | some i =>
   rw [hi] at h1;simp only [Option.map_some,Option.some.injEq,Prod.mk.injEq] at h1;exact ⟨i,rfl,h1.1,h1.2.1,h1.2.2⟩
theorem El.sizeOf {P:Program} {t e:TypeId} {z:Value} {s b:Nat} (h:El P t e z s b) (w:World):(sizeOf e).run P w=.ok s w:=by
 obtain ⟨i,h1,h2,h3,h4⟩:=h.parts;simp [Go.sizeOf,typeInfo,h1,h3]
theorem El.zero {P:Program} {t e:TypeId} {z:Value} {s b:Nat} (h:El P t e z s b) (w:World):(zeroValue e).run P w=.ok z w:=by
 obtain ⟨i,h1,h2,h3,h4⟩:=h.parts;simp [zeroValue,typeInfo,h1,h2]
def Own (base:Nat) (e s:Nat) (w:World) (v:Value) (n:Nat) (cs:List Value):Prop:=w.ownsRow base e s v n cs
theorem Own.nil {base e s:Nat} {w:World}:Own base e s w (.slice none 0 0) 0 []:=World.ownsRow_nil w base e s
theorem Own.slC {base e s:Nat} {w:World} {v:Value} {n:Nat} {cs:List Value} (h:Own base e s w v n cs):SlC w v n s cs:=by
 refine ⟨h.1,?_⟩
 rcases h.2 with ⟨rfl,rfl⟩|⟨g,cap,cur,rfl,hb,hg,hnc,hm,hsz,htake⟩
 ·exact ⟨none,0,rfl,Nat.le_refl _,Nat.zero_le _,λ _=>rfl,.inl rfl⟩
 ·refine ⟨_,cap,rfl,hnc,hm,(λ h=>by cases h),.inr ⟨g,0,rfl,λ j c hj=>?_⟩⟩
  have:=World.ownsRow.cells (w:=w) (v:=.slice (some ⟨g,0,none⟩) n cap) h (g:=g) rfl j c hj;rwa [Addr.add_lit] at this
theorem Own.ext {base e s:Nat} {w w':World} {v:Value} {n:Nat} {cs:List Value} (h:Own base e s w v n cs) (x:Ext w w'):Own base e s w' v n cs:=by
 refine ⟨h.1,?_⟩
 rcases h.2 with hn|⟨g,cap,cur,hv,hb,hg,r⟩
 ·exact .inl hn
 ·exact .inr ⟨g,cap,cur,hv,hb,x.block hg,r⟩
theorem Own.base {base base' e s:Nat} {w:World} {v:Value} {n:Nat} {cs:List Value} (h:Own base e s w v n cs) (hb:base'≤base):Own base' e s w v n cs:=by
 refine ⟨h.1,?_⟩
 rcases h.2 with hn|⟨g,cap,cur,hv,hb',r⟩
 ·exact .inl hn
 ·exact .inr ⟨g,cap,cur,hv,Nat.le_trans hb hb',r⟩
theorem Own.lt {base e s:Nat} {w:World} {v:Value} {n:Nat} {cs:List Value} (h:Own base e s w v n cs):∀ k,v.ownBlock=some k→base≤k∧k<w.heap.size:=World.ownsRow.lt h
theorem Own.kept {base e s:Nat} {w w':World} {v:Value} {n:Nat} {cs:List Value} {row:Option Nat} (h:Own base e s w v n cs) (hg:w.grownBy w' row) (hne:v.ownBlock=none∨v.ownBlock≠row):Own base e s w' v n cs:=World.ownsRow.kept h hg hne
theorem Ext.grown {w0 w w':World} {row:Option Nat} (h:Ext w0 w) (hg:w.grownBy w' row) (hr:∀ k,row=some k→w0.heap.size≤k):Ext w0 w':=Below.grown h hg h.size hr
def j6A (base e s:Nat) (n:Nat) (cs:List Value):AV:=⟨λ v w=>Own base e s w v n cs,λ _ _ _ x h=>h.ext x⟩
def OwnI (base e:Nat) (k:IntKind) (w:World) (v:Value) (xs:List Int):Prop:=Own base e 1 w v xs.length (xs.map (Value.int k))
theorem OwnI.slI {base e:Nat} {k:IntKind} {w:World} {v:Value} {xs:List Int} (h:OwnI base e k w v xs):SlI k w v xs:=Own.slC h
theorem OwnI.ext {base e:Nat} {k:IntKind} {w w':World} {v:Value} {xs:List Int} (h:OwnI base e k w v xs) (x:Ext w w'):OwnI base e k w' v xs:=Own.ext h x
theorem OwnI.nil {base e:Nat} {k:IntKind} {w:World}:OwnI base e k w (.slice none 0 0) []:=Own.nil
def axA (base e:Nat) (k:IntKind) (xs:List Int):AV:=⟨λ v w=>OwnI base e k w v xs,λ _ _ _ x h=>h.ext x⟩
theorem HasI.own {wb:World} {base e:Nat} {k:IntKind} {xs:List Int}:HasI wb (.pred (axA base e k xs)) k xs:=λ _ _ _ hv=>OwnI.slI hv
theorem HasC.own {wb:World} {base e s n:Nat} {cs:List Value}:HasC wb (.pred (j6A base e s n cs)) n s cs:=λ _ _ _ hv=>Own.slC hv
theorem HasI.ownV {wb:World} {base e:Nat} {k:IntKind} {xs:List Int} {v:Value} (h:OwnI base e k wb v xs):HasI wb (.val v) k xs:=HasI.val h.slI
theorem HasC.ownV {wb:World} {base e s n:Nat} {cs:List Value} {v:Value} (h:Own base e s wb v n cs):HasC wb (.val v) n s cs:=HasC.val h.slC
theorem OwnI.cells {base e:Nat} {k:IntKind} {w:World} {v:Value} {xs:List Int} (h:OwnI base e k w v xs):v.cells=#[v]:=by
 obtain ⟨a,c,rfl⟩:=h.slI.isSlice;rfl
theorem OwnI.one {base e:Nat} {k:IntKind} {w:World} {v:Value} {xs:List Int} (h:OwnI base e k w v xs):v.oneCell'=true:=by
 obtain ⟨a,c,rfl⟩:=h.slI.isSlice;rfl
theorem a6A {w:World} {base base' e:Nat} {k:IntKind} {xs:List Int} (hb:base'≤base) (en:Ending) (w':World) (h:Ret w (.pred (axA base e k xs)) en w'):Ret w (.pred (axA base' e k xs)) en w':=by
 obtain ⟨v,h1,h2,h3⟩:=h;exact ⟨v,h1,h2,Own.base h3 hb⟩
def fbA (v:Value) (l h s:Nat):Value:=match v with
 | .slice a _ cap=>sliced a l h cap s
 | _=>v
theorem SlC.sub {w:World} {v:Value} {n s:Nat} {cs:List Value} (hs:SlC w v n s cs) {l h:Nat} (h1:l≤h) (h2:h≤n):SlC w (fbA v l h s) (h-l) s ((cs.take (h*s)).drop (l*s)):=by
 obtain ⟨h0,a,cap,rfl,hc,hm,hn,hcs⟩:=hs;have hh:h*s≤n*s:=Nat.mul_le_mul_right _ h2;refine ⟨by rw [List.length_drop,List.length_take,h0,Nat.min_eq_left hh,Nat.sub_mul],?_⟩;simp only [fbA,sliced];refine ⟨_,cap-l,rfl,by omega,by omega,λ ha=>?_,?_⟩
 ·split at ha
  ·omega
  ·cases a with
   | none=>have:=hn rfl;omega
   | some a=>simp at ha
 ·by_cases hz:h-l=0
  ·exact .inl hz
  ·rcases hcs with rfl|⟨b,off,rfl,hc'⟩
   ·omega
   ·refine .inr ⟨b,off+l*s,?_,λ j c hj=>?_⟩
    ·rw [if_neg oZ];simp [Addr.add_lit]
    ·rw [List.getElem?_drop,List.getElem?_take] at hj
     split at hj
     ·have:=hc' _ _ hj;rw [Nat.add_assoc];exact this
     ·cases hj
theorem SlI.sub {k:IntKind} {w:World} {v:Value} {xs:List Int} (hs:SlI k w v xs) {l h:Nat} (h1:l≤h) (h2:h≤xs.length):SlI k w (fbA v l h 1) ((xs.take h).drop l):=by
 have:=SlC.sub hs h1 h2;unfold SlI;have e:((xs.take h).drop l).length=h-l:=by simp;omega
 rw [e]
 simpa [List.map_take,List.map_drop] using this
theorem SlI.drop {k:IntKind} {w:World} {v:Value} {xs:List Int} (hs:SlI k w v xs) {l:Nat} (h1:l≤xs.length):SlI k w (fbA v l xs.length 1) (xs.drop l):=by
 have:=SlI.sub hs h1 (Nat.le_refl _);rwa [List.take_length] at this
def vals:Env→Env
 | []=>[]
 | (d,r)::E=>(d,match r with|.val v=>.val v|_=>.any)::vals E
theorem piA (E:Env) (t:Nat):lkE (vals E) t=(match lkE E t with|.val v=>.val v|_=>.any):=by
 induction E with
 | nil=>rfl
 | cons p E ih =>
   obtain ⟨d,r⟩:=p;simp only [vals,ceA]
   split
   ·rfl
   ·exact ih
section
variable {P:Program} {l:List Oper} {N:Nn} {wb:World} {K:List Oper→Env→Prop} {rest:List Oper} {E:Env} {Q:Exit→Act→World→Prop}
variable {d:Tmp} {ty t t':TypeId} {pos:String} {after:Array Edge} {g:Option (Nat × Bool)} {x y z:Operand} {k k':IntKind}
theorem St.vals {a:Act} {w w':World} (s:St N wb E a w):St N w' (LA.vals E) a w':=by
 refine ⟨s.sz,s.df,Ext.refl _,λ t=>?_⟩;rw [piA];have:=s.sat t
 split
 ·rename_i v hv;rw [hv] at this;exact this
 ·trivial
theorem ptA {n s:Nat} {cs:List Value} {v:Value} {w:World} {e:TypeId} (ht:P.underlying t=some (.slice e)) (hs:∀ w,(sizeOf e).run P w=.ok s w) (h:SlC w v n s cs) (lo hi:Option Value) (l h':Nat)
 (hb:∀ cap,n≤cap→(Instr.sliceBounds true n cap lo hi none).run P w=.ok (l,h',cap) w):(Instr.sliceAt t v lo hi none).run P w=.ok (fbA v l h' s) w:=by
 have fin:∀ (a:Option Addr) (cap:Nat),n≤cap→(Instr.sliceAt t (.slice a n cap) lo hi none).run P w=.ok (fbA (.slice a n cap) l h' s) w:=λ a cap hc=>by
  simp only [Instr.sliceAt,Instr.slice,Sem.run_bind,run_underlying ht,Result.andThen_ok,hb cap hc,hs,fbA];simp [sliced]
 obtain ⟨h0,a,cap,rfl,hc,-⟩:=h;exact fin _ _ hc
theorem udA {n cap l:Nat} {w:World} (h1:l≤n):(Instr.sliceBounds true n cap (some (.int k (l:Int))) none none).run P w=.ok (l,n,cap) w:=by
 simp only [Instr.sliceBounds,Sem.run_bind,Sem.run_pure,Result.andThen_ok];rw [run_sliceBound w k l n _ oZ oZ];simp
theorem ueA {n cap h:Nat} {w:World} (h1:h≤cap):(Instr.sliceBounds true n cap none (some (.int k (h:Int))) none).run P w=.ok (0,h,cap) w:=by
 simp only [Instr.sliceBounds,Sem.run_bind,Sem.run_pure,Result.andThen_ok];rw [run_sliceBound w k h cap _ oZ oZ];simp
theorem rlA {n cap l h:Nat} {w:World} (h0:l≤h) (h1:h≤cap):(Instr.sliceBounds true n cap (some (.int k (l:Int))) (some (.int k' (h:Int))) none).run P w=.ok (l,h,cap) w:=by
 simp only [Instr.sliceBounds,Sem.run_bind,Sem.run_pure,Result.andThen_ok];rw [run_sliceBound w k' h cap _ oZ oZ];simp only [Result.andThen_ok,Int.toNat_natCast];rw [run_sliceBound w k l h _ oZ oZ];simp
theorem diA {n s:Nat} {cs:List Value} {v:Value} {i:Int} (hg:b8A l E g=some true) (e:TypeId) (ht:P.underlying t=some (.slice e))
 (hx:opE E x=.val v) (hv:HasC wb (.val v) n s cs) (hi:opE E y=.val (.int k i)) (h0:0≤i) (hn:i≤n) (hs:∀ w,(sizeOf e).run P w=.ok s w) (h:LA P l wb K rest ((d,.val (fbA v i.toNat n s))::E)) :
 LA P l wb K (⟨some d,.slice t x (some y) none none,ty,pos,after,g⟩::rest) E :=
 b1A _ hg (beA λ a w he hh=>by
  have h1:=hh x (by simp [Op.operands]);have h2:=hh y (by simp [Op.operands]);rw [hx] at h1;rw [hi] at h2;simp only [AD.ok] at h1 h2;obtain ⟨j,rfl⟩:=Int.eq_ofNat_of_zero_le h0;simp only [execOp,Option.map_some,Option.map_none,h1,h2,Sem.run_bind,ptA ht hs (hv v w he rfl) _ _ j n (λ cap hc=>udA oZ),Result.andThen_ok,Sem.run_pure,Int.toNat_natCast]) h
theorem p4A {n s:Nat} {cs:List Value} {v:Value} {i i':Int} (hg:b8A l E g=some true) (e:TypeId) (ht:P.underlying t=some (.slice e))
 (hx:opE E x=.val v) (hv:HasC wb (.val v) n s cs) (hi:opE E y=.val (.int k i)) (hi':opE E z=.val (.int k' i')) (h0:0≤i) (h1:i≤i') (hn:i'≤n) (hs:∀ w,(sizeOf e).run P w=.ok s w) (h:LA P l wb K rest ((d,.val (fbA v i.toNat i'.toNat s))::E)) :
 LA P l wb K (⟨some d,.slice t x (some y) (some z) none,ty,pos,after,g⟩::rest) E :=
 b1A _ hg (beA λ a w he hh=>by
  have h3:=hh x (by simp [Op.operands]);have h4:=hh y (by simp [Op.operands]);have h5:=hh z (by simp [Op.operands]);rw [hx] at h3;rw [hi] at h4;rw [hi'] at h5;simp only [AD.ok] at h3 h4 h5;obtain ⟨j,rfl⟩:=Int.eq_ofNat_of_zero_le h0;obtain ⟨j',rfl⟩:=Int.eq_ofNat_of_zero_le (by omega:0≤i');simp only [execOp,Option.map_some,Option.map_none,h3,h4,h5,Sem.run_bind,ptA ht hs (hv v w he rfl) _ _ j j' (λ cap hc=>rlA oZ oZ),Result.andThen_ok,Sem.run_pure,Int.toNat_natCast]) h
theorem kfA {c:Value} {z:Array Value} (hc:c.cells=#[c]) (_hz:z.size=1):Instr.fill (λ i=>some (i*1,1)) ((Array.range (1*1)).map (λ j=>z[j % z.size]!)) [(0,c)]=some #[c]:=by
 have e:Array.range (1*1)=#[0]:=rfl;rw [e];simp [Instr.fill,hc]
theorem ftA {c z:Value} {b:Nat} {e:TypeId} (hg:b8A l E g=some true) (hel:El P t e z 1 b) (hx:opE E x=.val c) (hc:c.cells=#[c]) (h:LA P l wb K rest ((d,.pred (slC 1 1 [c]))::E)) :
 LA P l wb K (⟨some d,.buildSlice t 1 #[(0,x)],ty,pos,after,g⟩::rest) E:=by
 refine b1A (.pred (slC 1 1 [c])) hg (λ a w he hh=>?_) h;have h1:=hh x (by simp [Op.operands]);rw [hx] at h1;simp only [AD.ok] at h1;have hrun:(Instr.buildSlice t 1 #[(0,c)]).run P w=.ok (.slice (some ⟨w.heap.size,0,none⟩) 1 1) (w.alloc (.cells #[c] e)):=by
  simp only [Instr.buildSlice,Sem.run_bind,run_underlying hel.ht,Result.andThen_ok,hel.sizeOf,Nat.reduceMul,Nat.reducePow,gt_iff_lt,Nat.reduceLT,if_false,Sem.run_pure,Nat.reduceEqDiff,hel.zero,kfA hc hel.zs];rfl
 simp only [execOp,List.map_toArray,List.map_cons,List.map_nil,h1,Sem.run_bind,hrun,Result.andThen_ok,Sem.run_pure];refine ⟨Ext.alloc _ _,rfl,_,1,rfl,Nat.le_refl _,by decide,(λ h=>by cases h),.inr ⟨w.heap.size,0,rfl,λ j c' hj=>?_⟩⟩;rw [World.cell?_alloc_at _ _ _ _ rfl]
 match j,hj with
 | 0,hj=>simpa using hj
theorem jbA {w:World} {base e s b n m:Nat} {v vy z:Value} {cs news:List Value} (hel:El P t e z s b) (hown:Own base e s w v n cs) (hy:SlC w vy m s news) (h1:∀ u ∈ news,u.oneCell'=true)
 (h63:n+m≤maxLen) (hbytes:(n+m)*b≤140737488355328) (hbase:base≤w.heap.size) :
 ∃ v' w',(Builtin.append_ #[t,t] ty #[v,vy]).run P w=.ok v' w'∧Own base e s w' v' (n+m) (cs++news)∧w.grownBy w' v.ownBlock:=by
 obtain ⟨i,hi1,hi2,hi3,hi4⟩:=hel.parts;obtain ⟨h0,a,cap,rfl,hc,hm,hn,hcs⟩:=hy;cases a with
 | none =>
   obtain rfl:=hn rfl;obtain rfl:m=0:=oZ;have hnews:news=[]:=List.eq_nil_of_length_eq_zero (by simpa using h0);subst hnews;exact ⟨v,w,run_append_owned_none (P:=P) w base t ty e i s hel.ht hi1 v n cs hown,by simpa using hown,⟨rfl,rfl,rfl,Nat.le_refl _,λ _ _ _=>rfl⟩⟩
 | some a =>
   have hcells:∀ (j:Nat) (u:Value),news[j]?=some u→w.cell? (a.add j)=some u:=λ j u hj=>by
    rcases hcs with rfl|⟨b',off,ha,hc'⟩
    ·have:news=[]:=List.eq_nil_of_length_eq_zero (by simpa using h0)
     subst this;cases hj
    ·obtain rfl:=Option.some.inj ha
     rw [Addr.add_lit];exact hc' j u hj
   obtain ⟨v',w',g1,g2,g3,g4⟩:=run_append_own (P:=P) w base t ty e i z s b hel.ht hi1 hi2 hi3 hi4 hel.zs hel.pos v n cs hown a m cap news h0 hcells h1 h63 hbytes hbase;exact ⟨v',w',g1,g2,g3⟩
theorem d4A {base e s b n m:Nat} {v z:Value} {cs news:List Value} {r:AD} (hg:g=none) (hd:d<N.n) (hel:El P t e z s b) (hx:opE E x=.val v) (hown:Own base e s wb v n cs) (hr:opE E y=r) (hy:HasC wb r m s news)
 (h1:∀ u ∈ news,u.oneCell'=true) (h63:n+m≤maxLen) (hbytes:(n+m)*b≤140737488355328) (hbase:base≤wb.heap.size)
 (h:∀ v' w w',Ext wb w→Own base e s w' v' (n+m) (cs++news)→w.grownBy w' v.ownBlock→LX P N w' l Q rest ((d,.val v')::vals E)) :
 LX P N wb l Q (⟨some d,.call ⟨.builtin .append,#[x,y],#[t,t]⟩,ty,pos,after,g⟩::rest) E:=by
 unfold LX;intro a w st;have e1:=st.opd x;rw [hx] at e1;simp only [AD.ok] at e1;have e2:=st.opd y;rw [hr] at e2;obtain ⟨v',w',g1,g2,g3⟩:=jbA (t:=t) (ty:=ty) hel (hown.ext st.ext) (hy _ _ st.ext e2) h1 h63 hbytes (Nat.le_trans hbase st.ext.size);refine wpList_plain hg λ Kc hK=>?_
 unfold Oper.wp;simp only [execOp,resolve,invoke,builtin,Sem.run_bind,Sem.run_pure,Result.andThen_ok,List.map_toArray,List.map_cons,List.map_nil,e1,g1,Oper.upon];refine hK _ _ ?_
 have h2:=h v' w w' st.ext g2 g3;unfold LX at h2;exact h2 _ _ ((st.vals (w':=w')).push (Ext.refl _) (dst:=some d) (r:=.val v') (λ d' hd'=>by cases hd';exact hd) (.inr rfl))
theorem dbA {w0:World} {e b:Nat} {v:Value} {z c:Int} {cs:List Int} {kd:IntKind} (hg:g=none) (hd:d<N.n) (hel:El P t e (.int kd z) 1 b) (hx:opE E x=.val v) (hown:OwnI w0.heap.size e kd wb v cs) (hy:opE E y=.pred (slC 1 1 [.int kd c]))
 (h63:cs.length+1≤9223372036854775807) (hbytes:(cs.length+1)*b≤140737488355328) (hbase:Ext w0 wb)
 (h:∀ v' w',Ext w0 w'→OwnI w0.heap.size e kd w' v' (cs++[c])→LX P N w' l Q rest ((d,.val v')::vals E)) :
 LX P N wb l Q (⟨some d,.call ⟨.builtin .append,#[x,y],#[t,t]⟩,ty,pos,after,g⟩::rest) E :=
 d4A hg hd hel hx hown hy HasC.pred (by simp [Value.oneCell']) (by unfold maxLen;omega) hbytes hbase.size (λ v' w w' he ho hgr=>by
  refine h v' w' ((hbase.trans he).grown hgr (λ k hk=>(Own.lt hown k hk).1)) ?_
  unfold OwnI
  simpa using ho)
def woA (base:Nat) (cs:Array Value) (e:TypeId):AV:=⟨λ v w=>∃ b,base≤b∧v=.pointer (some ⟨b,0,none⟩)∧w.heap[b]?=some (.cells cs e (0,0)),
 λ _ _ _ x ⟨b,h1,h2,h3⟩=>⟨b,h1,h2,x.block h3⟩⟩
theorem bmA {e:TypeId} {z:Value} (hg:b8A l E g=some true) (hz:∀ w,(zeroValue e).run P w=.ok z w) (h:LA P l wb K rest ((d,.pred (woA wb.heap.size z.cells e))::E)) :
 LA P l wb K (⟨some d,.alloc e,ty,pos,after,g⟩::rest) E :=
 b1A _ hg (λ a w he hh=>by
  have hrun:(Instr.alloc e true (.tuple #[])).run P w=.ok (.pointer (some ⟨w.heap.size,0,none⟩)) (w.alloc (.cells z.cells e)):=by
   simp only [Instr.alloc,Sem.run_bind,hz,Result.andThen_ok];rfl
  simp only [execOp,Sem.run_bind,hrun,Result.andThen_ok,Sem.run_pure];exact ⟨Ext.alloc _ _,w.heap.size,he.size,rfl,heap_alloc_new w _⟩) h
theorem j3A {e:TypeId} {c:Value} (hg:b8A l E g=some true) (hx:opE E x=.val c) (h:LA P l wb K rest ((d,.pred (woA wb.heap.size c.cells e))::E)) :
 LA P l wb K (⟨some d,.box e x,ty,pos,after,g⟩::rest) E :=
 b1A _ hg (λ a w he hh=>by
  have h0:=hh x (by simp [Op.operands]);rw [hx] at h0;simp only [AD.ok] at h0;have hrun:(Instr.box e c).run P w=.ok (.pointer (some ⟨w.heap.size,0,none⟩)) (w.alloc (.cells c.cells e)):=rfl;simp only [execOp,h0,Sem.run_bind,hrun,Result.andThen_ok,Sem.run_pure];exact ⟨Ext.alloc _ _,w.heap.size,he.size,rfl,heap_alloc_new w _⟩) h
theorem Ext.setRow {w0 w:World} (h:Ext w0 w) {b:Nat} (hb:w0.heap.size≤b) (cs:Array Value):Ext w0 (w.setRow b cs) :=
 Below.trans h ⟨rfl,rfl,rfl,by simp,λ k hk=>setRow_other w b k cs oZ⟩
theorem Own.setRow {base e s n:Nat} {w:World} {v:Value} {cs:List Value} (h:Own base e s w v n cs) {b:Nat} (cur:Array Value) (hne:v.ownBlock≠some b):Own base e s (w.setRow b cur) v n cs:=by
 refine ⟨h.1,?_⟩
 rcases h.2 with hn|⟨g,cap,cur',rfl,hb',hg,r⟩
 ·exact .inl hn
 ·refine .inr ⟨g,cap,cur',rfl,hb',?_,r⟩
  rw [setRow_other w b g cur (λ e=>hne (by simp [Value.ownBlock,e]))];exact hg
theorem duA {b:Nat} {cur:Array Value} {e:TypeId} {c:Value} (hg:g=none) (hx:opE E x=.val (.pointer (some ⟨b,0,none⟩))) (hy:opE E y=.val c) (hb:wb.heap[b]?=some (.cells cur e (0,0)))
 (hs:∀ w,(sizeOf t).run P w=.ok c.cells.size w) (hfit:c.cells.size=cur.size) (h1:∀ u ∈ c.cells.toList,u.oneCell'=true) (h:∀ w,Ext wb w→LX P N (w.setRow b c.cells) l Q rest (vals E)) :
 LX P N wb l Q (⟨none,.store t x y,ty,pos,after,g⟩::rest) E:=by
 unfold LX;intro a w st;have e1:=st.opd x;rw [hx] at e1;simp only [AD.ok] at e1;have e2:=st.opd y;rw [hy] at e2;simp only [AD.ok] at e2;have hrun:(Instr.storeAt t (.pointer (some ⟨b,0,none⟩)) c).run P w=.ok () (w.setRow b c.cells):=by
  have hst:=run_storeCells_at P b 0 e c.cells.toList 0 cur w (st.ext.block hb) (by simp [hfit]) h1;have e3:(cur.toList.take (0+0)++c.cells.toList++cur.toList.drop (0+0+c.cells.toList.length)).toArray=c.cells:=by
   rw [List.drop_eq_nil_of_le (by simp [hfit])];simp
  rw [e3] at hst;simp only [Instr.storeAt,Instr.sureAddr,storeVar,Sem.run_bind,Sem.run_pure,Result.andThen_ok,hs,ne_eq,not_true_eq_false,if_false,hst]
 refine wpList_plain hg λ Kc hK=>?_
 unfold Oper.wp;simp only [execOp,Sem.run_bind,e1,e2,hrun,Result.andThen_ok,Sem.run_pure,Oper.upon];refine hK _ _ ?_
 have h2:=h w st.ext;unfold LX at h2;exact h2 _ _ (st.vals (w':=w.setRow b c.cells))
theorem blA {b n s o:Nat} {e:TypeId} {i:Int} (hg:b8A l E g=some true) (ht:P.underlying t=some (.array n e)) (hs:∀ w,(sizeOf e).run P w=.ok s w) (hx:opE E x=.val (.pointer (some ⟨b,o,none⟩)))
 (hi:opE E y=.val (.int k i)) (j:Nat) (hj:i=j) (hn:j<n) (h:LA P l wb K rest ((d,.val (.pointer (some ⟨b,o+j*s,none⟩)))::E)):LA P l wb K (⟨some d,.indexAddr t x y,ty,pos,after,g⟩::rest) E :=
 b1A _ hg (beA λ a w he hh=>by
  have h1:=hh x (by simp [Op.operands]);have h2:=hh y (by simp [Op.operands]);rw [hx] at h1;rw [hi] at h2;simp only [AD.ok] at h1 h2;subst hj;have hrun:(Instr.indexAt t (.pointer (some ⟨b,o,none⟩)) (.int k (j:Int))).run P w=.ok (.pointer (some (Addr.add ⟨b,o,none⟩ (j*s)))) w:=by
   simp [Instr.indexAt,run_underlying ht,asIntOf,hs,hn,Instr.sureAddr]
  simp only [execOp,h1,h2,Sem.run_bind,hrun,Result.andThen_ok,Sem.run_pure,Addr.add_lit]) h
theorem a7A {b o:Nat} {cs:Array Value} {e:TypeId} {c:Value} (hg:b8A l E g=some true) (ht:∀ w,(isAgg t).run P w=.ok false w) (hx:opE E x=.val (.pointer (some ⟨b,o,none⟩))) (hb:wb.heap[b]?=some (.cells cs e (0,0))) (hc:cs[o]?=some c)
 (h:LA P l wb K rest ((d,.val c)::E)):LA P l wb K (⟨some d,.load t x,ty,pos,after,g⟩::rest) E :=
 ocA hg ht hx (by rw [cell_of_row wb b o cs e (0,0) hb];exact hc) h
theorem c7A {b:Nat} {cs:Array Value} {e:TypeId} (hg:b8A l E g=some true) (ht:∀ w,(isAgg t).run P w=.ok true w) (hs:∀ w,(sizeOf t).run P w=.ok cs.size w) (hx:opE E x=.val (.pointer (some ⟨b,0,none⟩))) (hb:wb.heap[b]?=some (.cells cs e (0,0)))
 (h:LA P l wb K rest ((d,.val (.agg cs))::E)):LA P l wb K (⟨some d,.load t x,ty,pos,after,g⟩::rest) E :=
 b1A _ hg (beA λ a w he hh=>by
  have h1:=hh x (by simp [Op.operands]);rw [hx] at h1;simp only [AD.ok] at h1;have hl:=run_loadCells_list (P:=P) w ⟨b,0,none⟩ cs.toList (λ j v hj=>by
   rw [Addr.add_lit,cell_of_row w b (0+j) cs e (0,0) (he.block hb)];simpa using hj)
  simp only [Array.length_toList,Array.toArray_toList] at hl;simp only [execOp,h1,Instr.loadAt,Instr.sureAddr,loadVar,Sem.run_bind,Sem.run_pure,Result.andThen_ok,ht,if_true,hs,hl]) h
theorem ezA {x0:Operand} {v0:Value} {j0:Nat} {c:Value} (hg:b8A l E g=some true) (h0:opE E x0=.val v0) (hr:∀ w,(Instr.build t #[(j0,v0)]).run P w=.ok c w) (h:LA P l wb K rest ((d,.val c)::E)) :
 LA P l wb K (⟨some d,.build t #[(j0,x0)],ty,pos,after,g⟩::rest) E :=
 b1A _ hg (beA λ a w he hh=>by
  have e0:=hh x0 (by simp [Op.operands]);rw [h0] at e0;simp only [AD.ok] at e0;simp only [execOp,List.map_toArray,List.map_cons,List.map_nil,Sem.run_bind,e0,hr,Result.andThen_ok,Sem.run_pure]) h
theorem e4A {x0 x1:Operand} {v0 v1:Value} {j0 j1:Nat} {c:Value} (hg:b8A l E g=some true) (h0:opE E x0=.val v0) (h1:opE E x1=.val v1) (hr:∀ w,(Instr.build t #[(j0,v0),(j1,v1)]).run P w=.ok c w) (h:LA P l wb K rest ((d,.val c)::E)) :
 LA P l wb K (⟨some d,.build t #[(j0,x0),(j1,x1)],ty,pos,after,g⟩::rest) E :=
 b1A _ hg (beA λ a w he hh=>by
  have e0:=hh x0 (by simp [Op.operands]);rw [h0] at e0;simp only [AD.ok] at e0;have e1:=hh x1 (by simp [Op.operands]);rw [h1] at e1;simp only [AD.ok] at e1;simp only [execOp,List.map_toArray,List.map_cons,List.map_nil,Sem.run_bind,e0,e1,hr,Result.andThen_ok,Sem.run_pure]) h
theorem gtA {x0 x1 x2:Operand} {v0 v1 v2:Value} {j0 j1 j2:Nat} {c:Value} (hg:b8A l E g=some true) (h0:opE E x0=.val v0) (h1:opE E x1=.val v1) (h2:opE E x2=.val v2) (hr:∀ w,(Instr.build t #[(j0,v0),(j1,v1),(j2,v2)]).run P w=.ok c w) (h:LA P l wb K rest ((d,.val c)::E)) :
 LA P l wb K (⟨some d,.build t #[(j0,x0),(j1,x1),(j2,x2)],ty,pos,after,g⟩::rest) E :=
 b1A _ hg (beA λ a w he hh=>by
  have e0:=hh x0 (by simp [Op.operands]);rw [h0] at e0;simp only [AD.ok] at e0;have e1:=hh x1 (by simp [Op.operands]);rw [h1] at e1;simp only [AD.ok] at e1;have e2:=hh x2 (by simp [Op.operands]);rw [h2] at e2;simp only [AD.ok] at e2;simp only [execOp,List.map_toArray,List.map_cons,List.map_nil,Sem.run_bind,e0,e1,e2,hr,Result.andThen_ok,Sem.run_pure]) h
def litQ (kd:IntKind) (xs:List Int):List (Nat × Value):=xs.zipIdx.map λ (x,i)=>(i,Value.int kd x)
theorem y8A {n:Nat} {ps:List (Nat × Operand)} (e:TypeId) (kd:IntKind) (xs:List Int) (hg:b8A l E g=some true) (hq:∀ a:Act,ps.map (λ (i,x)=>(i,a.eval x))=litQ kd xs)
 (hr:∀ w,(Instr.buildSlice t n (litQ kd xs).toArray).run P w=.ok (.slice (some ⟨w.heap.size,0,none⟩) n n) (w.alloc (.cells (xs.map (Value.int kd)).toArray e))) (hn:xs.length=n) (hm:n≤maxLen)
 (h:LA P l wb K rest ((d,.pred (axA wb.heap.size e kd xs))::E)):LA P l wb K (⟨some d,.buildSlice t n ps.toArray,ty,pos,after,g⟩::rest) E :=
 b1A _ hg (λ a w he hh=>by
  simp only [execOp,List.map_toArray,hq,Sem.run_bind,hr,Result.andThen_ok,Sem.run_pure];refine ⟨Ext.alloc _ _,?_⟩;have:=World.ownsRow_lit (base:=wb.heap.size) (e:=e) (size:=1) w (xs.map (Value.int kd)).toArray n he.size hm (by simp [hn]);show Own _ _ _ _ _ _ _;rw [hn]
  simpa [Own] using this) h
end
theorem wf_k {k:IntKind} {n:Int} (h:(Lit.int k n).wf=true):k.min≤n∧n≤k.max:=by simpa [Lit.wf] using h
theorem wf_u8 {n:Int} (h:(Lit.int .u8 n).wf=true):0≤n∧n<256:=by
 have h1:=wf_k h;have e1:IntKind.u8.min=0:=dZ;have e2:IntKind.u8.max=255:=dZ;omega
theorem wf_u64 {n:Int} (h:(Lit.int .u64 n).wf=true):0≤n∧n<18446744073709551616:=by
 have h1:=wf_k h;have e1:IntKind.u64.min=0:=dZ;have e2:IntKind.u64.max=18446744073709551615:=dZ;omega
theorem ret_said {w:World} (en:Ending) (w':World) (h:Ret w (.val (.bool true)) en w'):en=.returned (.bool true)∧Below w.heap.size w w':=by
 obtain ⟨v,h1,h2,h3⟩:=h;have h3:v=.bool true:=h3;subst h3;exact ⟨h1,h2⟩
end Go.LA
end
