import Derived.Laws.StructEq
import Derived.Test.YtfcioiobhpcngaaGreatDoorM14
import Derived.Test.YtfcioiobhpcngaaGreatDoorM15
import Derived.Test.YtfcioiobhpcngaaGreatDoorM20
section
set_option linter.unusedSimpArgs false
set_option linter.unusedVariables false
set_option maxRecDepth 3000
namespace Go.Proofs.YtfcioiobhpcngaaGreatDoor
open Go.LA Go.ArrP Go.RowKit
variable {A B : Nat → Prop}
theorem rwA {α : Type} {d : α} {l : List α} {i j : Nat} {x : α} (h : i < l.length) : (l.set i x).getD j d = if j = i then x else l.getD j d := by
  rw [List.getD_eq_getElem?_getD, List.getD_eq_getElem?_getD, List.getElem?_set]
  by_cases e : j = i
  · subst e; simp [h]
  · simp [e, Ne.symm e]
theorem rxA {α : Type} {d : α} {l : List α} {i j : Nat} {x : α} (h : i ≤ l.length) : (l.take i ++ [x] ++ l.drop i).getD j d = if j < i then l.getD j d else if j = i then x else l.getD (j - 1) d := by
  have hl : (l.take i).length = i := by rw [List.length_take]; omega
  by_cases h1 : j < i
  · rw [if_pos h1, List.append_assoc, evA (by omega), List.getD_eq_getElem?_getD, List.getD_eq_getElem?_getD, List.getElem?_take_of_lt h1]
  · rw [if_neg h1]
    by_cases h2 : j = i
    · rw [if_pos h2, evA (by rw [List.length_append, List.length_singleton]; omega), dsA (by omega), hl, h2, Nat.sub_self]; rfl
    · rw [if_neg h2, dsA (by rw [List.length_append, List.length_singleton]; omega), List.length_append, List.length_singleton, hl, List.getD_eq_getElem?_getD, List.getD_eq_getElem?_getD, List.getElem?_drop]
      congr 2; omega
theorem kgA {p : Nat → Bool} {k : Nat} {q : Nat → Bool} (h : ∀ x, TOP ≤ x → p x = false) (hk : k < 65536) : ∀ x, TOP ≤ x → upd p k q x = false := fun x hx => by
  unfold upd; rw [if_neg (by rw [e2A] at hx; omega)]; exact h x hx
theorem toA {a b : Qd} (h : qv a = qv b) : a = b := by
  obtain ⟨a1, a2, a3, a4⟩ := a
  obtain ⟨b1, b2, b3, b4⟩ := b
  unfold qv at h
  simpa using h
def Mut (A : Nat → Prop) (w : World) (b : Nat) (kv lv : Value) (p' : Nat → Bool) (w' : World) : Prop := ∃ kv' lv', RS A w' b kv' lv' p' ∧ Fr (onw b kv lv) w w' ∧ LocR w kv kv' ∧ LocR w lv lv'
theorem RS.set {A : Nat → Prop} {w w' : World} {b : Nat} {kv lv : Value} {p : Nat → Bool} (hS : RS A w b kv lv p) {k : Nat} (hk : k < 65536) (hn : ne p k = true) {q : Nat → Bool} (hq : ∀ i, 65536 ≤ i → q i = false) (hq0 : 0 < cnt q 65536) {Q : List Qd} {qc : Qd} (q1 : Q.length = nk p)
    (q3 : ∀ i, i < nk p → Cn (fun k => A k ∧ kv.ownBlock ≠ some k) w (qv (Q.getD i q0)) (blk p (kp p i)) (aqA (blk p (kp p i)))) (hc : Cn (fun j => A j ∧ kv.ownBlock ≠ some j) w (qv qc) q (aqA q))
    (hf : Fr (onw b kv lv) w w') (hb : w'.heap[b]? = some (.cells #[kv, lv] tS (0, 0))) (hkk : OwnI 0 tK .u16 w' kv (b7A p)) (hl : Own 0 tC 4 w' lv (nk p) (bbA (Q.set (cnt (ne p) k) qc))) : Mut A w b kv lv (upd p k q) w' := by
  have hkeys := lhA p hq hq0 hn
  have hnk : nk (upd p k q) = nk p := by rw [← brA, ← brA, hkeys]
  obtain ⟨i1, i2⟩ := viA hk hn
  refine ⟨kv, lv, hS.turned (Q' := Q.set (cnt (ne p) k) qc) hf hb (by rw [hkeys]; exact hkk) (by rw [List.length_set, q1, hnk]) (by rw [hnk]; exact hl) (kgA hS.top hk) LocR.refl (fun j hj => ?_), hf, LocR.refl, LocR.refl⟩
  rw [hnk] at hj
  rw [ufA p hq hq0 hn, rwA (by omega)]
  by_cases e : j = cnt (ne p) k
  · rw [if_pos e, e, i2, ijA p k hq]; exact hc
  · have hne : kp p j ≠ k := fun h => e (by rw [← h]; exact (m4A (by omega)).symm)
    rw [if_neg e, fkA p q hne]; exact q3 j hj
theorem RS.ins {A : Nat → Prop} {w w' : World} {b : Nat} {kv lv kv' lv' : Value} {p : Nat → Bool} (hS : RS A w b kv lv p) {k : Nat} (hk : k < 65536) (hn : ne p k = false) {q : Nat → Bool} (hq : ∀ i, 65536 ≤ i → q i = false) (hq0 : 0 < cnt q 65536) {Q : List Qd} {qc : Qd} (q1 : Q.length = nk p)
    (q3 : ∀ i, i < nk p → Cn (fun k => A k ∧ kv.ownBlock ≠ some k) w (qv (Q.getD i q0)) (blk p (kp p i)) (aqA (blk p (kp p i)))) (hc : Cn (fun j => A j ∧ kv.ownBlock ≠ some j) w (qv qc) q (aqA q))
    (hf : Fr (onw b kv lv) w w') (hb : w'.heap[b]? = some (.cells #[kv', lv'] tS (0, 0))) (hkk : OwnI 0 tK .u16 w' kv' ((b7A p).take (cnt (ne p) k) ++ [(k : Int)] ++ (b7A p).drop (cnt (ne p) k)))
    (hl : Own 0 tC 4 w' lv' (nk p + 1) (bbA (Q.take (cnt (ne p) k) ++ [qc] ++ Q.drop (cnt (ne p) k)))) (hk1 : LocR w kv kv') (hl1 : LocR w lv lv') : Mut A w b kv lv (upd p k q) w' := by
  have hkeys := gsA p hk hq hq0 hn
  have hnk := noA p hk hq hq0 hn
  have hle : cnt (ne p) k ≤ nk p := cnt_mono _ _ (by omega)
  refine ⟨kv', lv', hS.turned (Q' := Q.take (cnt (ne p) k) ++ [qc] ++ Q.drop (cnt (ne p) k)) hf hb (by rw [hkeys]; exact hkk) (by simp only [List.length_append, List.length_take, List.length_drop, List.length_singleton]; omega) (by rw [hnk]; exact hl) (kgA hS.top hk) hk1 (fun j hj => ?_), hf, hk1, hl1⟩
  rw [hnk] at hj
  rw [tiA p hk hq hq0 hn hj, rxA (by omega)]
  have hne : ∀ j, j < nk p → kp p j ≠ k := fun j hj h => by
    have := (i5A hj).2.1
    rw [h, hn] at this; cases this
  split
  · rw [fkA p q (hne j (by omega))]; exact q3 j (by omega)
  · split
    · rw [ijA p k hq]; exact hc
    · rw [fkA p q (hne _ (by omega))]; exact q3 _ (by omega)
theorem slot_ne {A : Nat → Prop} {w : World} {b : Nat} {kv lv : Value} {p : Nat → Bool} (hS : RS A w b kv lv p) : kv.ownBlock ≠ some b ∧ lv.ownBlock ≠ some b ∧ ∀ k, kv.ownBlock = some k → lv.ownBlock ≠ some k := by
  obtain ⟨Q, h1, h2, h3⟩ := hS.hl
  refine ⟨Own.apart hS.hk hS.hb (by decide), Own.apart h2 hS.hb (by decide), fun k hk => ?_⟩
  obtain ⟨cur, hc⟩ := c3A hS.hk hk
  exact Own.apart h2 hc (by decide)
theorem e5A {base e s n : Nat} {w : World} {v : Value} {cs : List Value} (h : Own base e s w v n cs) : v.cells = [v].toArray ∧ v.oneCell' = true := by
  rcases h.2 with ⟨rfl, _⟩ | ⟨g, cap, cur, rfl, _⟩
  · exact ⟨rfl, rfl⟩
  · exact ⟨rfl, rfl⟩
set_option maxHeartbeats 2000000 in
theorem put_s {w : World} {b : Nat} {kv lv vc : Value} {p q : Nat → Bool} (hS : RS A w b kv lv p) {k : Nat} (hk : k < 65536) (hc : Cn (fun j => A j ∧ kv.ownBlock ≠ some j) w vc q (aqA q)) (hq : ∀ i, 65536 ≤ i → q i = false) (hq0 : 0 < cnt q 65536) :
    Fc Tryz.prog 46 #[.pointer (some ⟨b, 0, none⟩), .int .u16 k, vc] w (fun en w' => en = .returned (.tuple #[]) ∧ Mut A w b kv lv (upd p k q) w') := by
  have hf : ∀ w', Ext w w' → _ := fun w' e => tyA (B := TT) (.inr ⟨b, kv, lv, rfl, hS.ext e, fun _ _ => trivial⟩) hk
  obtain ⟨Q, q1, q2, q3⟩ := hS.hl
  obtain ⟨qc, rfl, hqc⟩ := hc.qd
  have nkl := fuA p
  obtain ⟨i, hi⟩ : ∃ i, i = cnt (ne p) k := ⟨_, rfl⟩
  cases hn : ne p k
  · have hle : i ≤ nk p := by rw [hi]; exact cnt_mono _ _ (by omega)
    have hfin : ∀ w' kv' lv', _ := fun w' kv' lv' => hS.ins (w' := w') (kv' := kv') (lv' := lv') hk hn hq hq0 q1 q3 hc
    rw [← hi] at hf hfin
    rw [hn] at hf
    have hsn := slot_ne hS
    have hkl := brA p
    have hcq : bbA (Q.take i ++ [qc] ++ Q.drop i) = (bbA Q).take (i * 4) ++ qcs qc ++ (bbA Q).drop (i * 4) := by
      rw [dmA, dmA, fgA, fhA]; rfl
    have hmap : ((b7A p).map (Value.int .u16)).take (i * 1) ++ [.int .u16 (k : Int)] ++ ((b7A p).map (Value.int .u16)).drop (i * 1) = ((b7A p).take i ++ [(k : Int)] ++ (b7A p).drop i).map (Value.int .u16) := by
      rw [Nat.mul_one, List.map_append, List.map_append, List.map_take, List.map_drop]; rfl
    have hlen : ((b7A p).take i ++ [(k : Int)] ++ (b7A p).drop i).length = nk p + 1 := by
      simp only [List.length_append, List.length_take, List.length_drop, List.length_singleton]; omega
    have h1c : ∀ c ∈ (b7A p).map (Value.int .u16), c.oneCell' = true := fun c hc' => by
      obtain ⟨y, _, rfl⟩ := List.mem_map.1 hc'; rfl
    have h1q : ∀ c ∈ bbA Q, c.oneCell' = true := fun c hc' => by
      obtain ⟨j, j1, j2⟩ := icA Q c hc'
      obtain ⟨qd, e1, e2⟩ := (q3 j (by omega)).qd
      have : Q.getD j q0 = qd := toA e1
      exact e2 c (this ▸ j2)
    have hk0 := hS.hk
    unfold OwnI at hk0
    rw [hkl] at hk0
    clear hi
    refine Fc.of (args := [_, _, _]) Tryz.func46 rfl rfl Tryz.ntmps46 (Nat.le_of_ble_eq_true rfl) ?_
    repeat' (first|(refine oLA ?_;first|refine wBk ?_|(refine oBx ?_; refine kfA rfl rfl ?_; refine q4A (hK [] _ (c5A 5 rfl (fun v5 w5 e5 h5 => ?_))); clear hK K; obtain ⟨b5, hb5, rfl, h5⟩ := h5; have hS5 := hS.ext e5)|(refine oNc ?_; refine ahA rfl rfl ?_)|(refine oF 0 ?_; refine a2A (a' := ⟨b, 0, none⟩) rfl rfl (fun _ => rfl) ?_)|(refine oF 1 ?_; refine a2A (a' := ⟨b, 1, none⟩) rfl rfl (fun _ => rfl) ?_)|(refine oLt 52 ?_; refine a8A (c := kv) rfl (fun _ => rfl) rfl hS5.hb rfl ?_)|(refine oLt 53 ?_; refine a8A (c := lv) rfl (fun _ => rfl) rfl hS5.hb rfl ?_)|(refine oD 30 ?_; refine f2A rfl ctA rfl rfl ?_)|(refine oD 38 ?_; refine mqA (base := w5.heap.size) (s := 4) (Nat.le_refl _) rfl eaA rfl rfl (by decide) ?_)|(refine oLd ?_; refine crA (n := 4) rfl h5 rfl rfl (fun _ => rfl) (fun _ => rfl) ?_)|refine wOp ?_|(refine wCm ?_ ?_<;>intro hc)|(refine oCv ?_;first|(refine oC 87 ?_; refine a3A (f := 87) rfl rfl rfl rfl  (.tup2 (.val (.int .i64 i)) (.val (.bool false))) (by intro u1 u2 w e hu1 hu2; (try obtain rfl : u1 = _ := hu1); (try obtain rfl : u2 = _ := hu2); exact hf _ (e5.trans e)) ?_))|(refine wNl hK ?_;clear hK K))|(refine oCX ?_;first|refine ajA (id := 4) [9, 17, 20, 23] (by kernel_rfl) (by kernel_rfl) (by kernel_rfl) (a5A ?_))|refine wG ?_|(refine wCR ?_;intro K hK)|refine wPh ?_|fail)
    have lkv : ∀ k, kv.ownBlock = some k → k < w.heap.size := fun k h => hS.lt (.inr (.inl h))
    have llv : ∀ k, lv.ownBlock = some k → k < w.heap.size := fun k h => hS.lt (.inr (.inr h))
    have sz5 := e5.size
    refine mmA (v3 := undef) (f := 88) rfl rfl rfl rfl rfl (fun w v w' => Own 0 tK 1 w' v (nk p + 1) (((b7A p).map (Value.int .u16)).take (i * 1) ++ [.int .u16 (k : Int)] ++ ((b7A p).map (Value.int .u16)).drop (i * 1)) ∧ Fr (fun k => kv.ownBlock = some k) w w' ∧ LocR w kv v) (fun u3 w1 e1 hu3 => ?_) (fun kv' w1 w2 e1 hR => ⟨(38, .pred (i1A w5.heap.size tC 4 1 (qv qc).cells.toList)) :: _, fun t u _ hu => k2A (fun u hu => ?_) c6A t u hu, a5A ?_⟩)
    · exact rtA w1 0 _ kv u3 (nk p) i _ _ (hk0.ext (e5.trans e1)) hu3 hle (fun k h1 h2 => by have := (Own.lt hu3 k h1).1; have := lkv k h2; omega) h1c (fun c hc' => by rw [List.mem_singleton] at hc'; subst hc'; rfl) (by omega) (by omega)
    · exact hR.2.1.own hu (fun k h1 h2 => by have := (Own.lt hu k h1).1; have := lkv k h2; omega)
    obtain ⟨r1, r2, r3⟩ := hR
    rw [hmap] at r1
    have hb2 := r2.at (e1.block hS5.hb) (fun h => hsn.1 h)
    have h52 := r2.at (e1.block h5) (fun h => by have := lkv _ h; omega)
    have q22 : Own 0 tC 4 w2 lv (nk p) (bbA Q) := r2.own (q2.ext (e5.trans e1)) (fun k h1 h2 => hsn.2.2 k h2 h1)
    have sz2 := Nat.le_trans e1.size r2.size
    repeat' (first|(refine oLA ?_;first|refine wBk ?_|(refine oNc ?_; refine ahA rfl rfl ?_)|(refine oF 0 ?_; refine a2A (a' := ⟨b, 0, none⟩) rfl rfl (fun _ => rfl) ?_)|(refine oF 1 ?_; refine a2A (a' := ⟨b, 1, none⟩) rfl rfl (fun _ => rfl) ?_)|(refine oLt 52 ?_; refine a8A (c := kv) rfl (fun _ => rfl) rfl hb2 rfl ?_)|(refine oLt 53 ?_; refine a8A (c := lv) rfl (fun _ => rfl) rfl hb2 rfl ?_)|(refine oD 38 ?_; refine mqA (base := w5.heap.size) (s := 4) sz2 rfl eaA rfl rfl (by decide) ?_)|(refine oLd ?_; refine crA (n := 4) rfl h52 rfl rfl (fun _ => rfl) (fun _ => rfl) ?_)|refine wOp ?_|(refine wCm ?_ ?_<;>intro hc)|(refine wNl hK ?_;clear hK K))|refine wG ?_|(refine wCR ?_;intro K hK)|refine wPh ?_|fail)
    refine mmA (v3 := undef) (f := 89) rfl rfl rfl rfl rfl (fun w v w' => Own 0 tC 4 w' v (nk p + 1) ((bbA Q).take (i * 4) ++ (qv qc).cells.toList ++ (bbA Q).drop (i * 4)) ∧ Fr (fun k => lv.ownBlock = some k) w w' ∧ LocR w lv v) (fun u3 w3 e3 hu3 => ?_) (fun lv' w3 w4 e3 hR => ⟨_, fun t u _ hu => c6A t u hu, a5A ?_⟩)
    · exact rsA w3 0 _ lv u3 (nk p) i _ _ (q22.ext e3) hu3 hle (fun k h1 h2 => by have := (Own.lt hu3 k h1).1; have := llv k h2; omega) h1q hqc (by omega) (by omega)
    obtain ⟨s1, s2, s3⟩ := hR
    have hcq' : (bbA Q).take (i * 4) ++ (qv qc).cells.toList ++ (bbA Q).drop (i * 4) = bbA (Q.take i ++ [qc] ++ Q.drop i) := hcq.symm
    rw [hcq'] at s1
    have hb4 := s2.at (e3.block hb2) (fun h => hsn.2.1 h)
    have r14 := s2.own (r1.ext e3) (fun k h1 h2 => by
      obtain ⟨cur, hcur⟩ := c3A (r1.ext e3) h1
      exact Own.apart (q22.ext e3) hcur (by decide) h2)
    obtain ⟨ck1, ck2⟩ := e5A r14
    obtain ⟨cl1, cl2⟩ := e5A s1
    have hF4 : Fr (onw b kv lv) w w4 := (((Fr.of (e5.trans e1)).trans (r2.mono fun k h => .inr (.inl h))).trans (Fr.of e3)).trans (s2.mono fun k h => .inr (.inr h))
    repeat' (first|(refine oLA ?_;first|refine wBk ?_|(refine oNc ?_; refine ahA rfl rfl ?_)|(refine oF 0 ?_; refine a2A (a' := ⟨b, 0, none⟩) rfl rfl (fun _ => rfl) ?_)|(refine oF 1 ?_; refine a2A (a' := ⟨b, 1, none⟩) rfl rfl (fun _ => rfl) ?_)|(refine oLt 52 ?_; refine a8A (c := kv) rfl (fun _ => rfl) rfl hb4 rfl ?_)|(refine oLt 53 ?_; refine a8A (c := lv) rfl (fun _ => rfl) rfl hb4 rfl ?_)|refine wOp ?_|(refine wCm ?_ ?_<;>intro hc)|(refine wNl hK ?_;clear hK K))|refine wG ?_|(refine wCR ?_;intro K hK)|refine wPh ?_|fail)
    refine e3A (news := [kv']) rfl rfl rfl hb4 ck1 (fun _ => rfl) (Nat.le_of_ble_eq_true rfl) (fun u hu => by rw [List.mem_singleton] at hu; subst hu; exact ck2) (fun w6 e6 => ⟨_, fun t u hu => c6A t u hu, a5A ?_⟩)
    have hb6 : (w6.setRow b #[kv', lv]).heap[b]? = _ := setRow_heap w6 b _ _ _ _ (e6.block hb4)
    obtain ⟨w7, hw7⟩ : ∃ w7, w7 = w6.setRow b #[kv', lv] := ⟨_, rfl⟩
    have hF7 : Fr (onw b kv lv) w w7 := hw7 ▸ ((hF4.trans (Fr.of e6)).setRow (.inl rfl) _)
    have r17 : OwnI 0 tK .u16 w7 kv' ((b7A p).take i ++ [(k : Int)] ++ (b7A p).drop i) := by unfold OwnI; rw [hlen]; exact hw7 ▸ Own.setRow (r14.ext e6) _ (Own.apart (r14.ext e6) (e6.block hb4) (by decide))
    have s17 : Own 0 tC 4 w7 lv' (nk p + 1) (bbA (Q.take i ++ [qc] ++ Q.drop i)) := hw7 ▸ Own.setRow (s1.ext e6) _ (Own.apart (s1.ext e6) (e6.block hb4) (by decide))
    rw [show (#[kv, lv].toList.take 0 ++ [kv'] ++ #[kv, lv].toList.drop (0 + [kv'].length)).toArray = #[kv', lv] from rfl]
    rw [← hw7] at hb6 ⊢
    clear hw7
    repeat' (first|(refine oLA ?_;first|refine wBk ?_|(refine oNc ?_; refine ahA rfl rfl ?_)|(refine oF 0 ?_; refine a2A (a' := ⟨b, 0, none⟩) rfl rfl (fun _ => rfl) ?_)|(refine oF 1 ?_; refine a2A (a' := ⟨b, 1, none⟩) rfl rfl (fun _ => rfl) ?_)|(refine oLt 52 ?_; refine a8A (c := kv) rfl (fun _ => rfl) rfl hb6 rfl ?_)|(refine oLt 53 ?_; refine a8A (c := lv) rfl (fun _ => rfl) rfl hb6 rfl ?_)|refine wOp ?_|(refine wCm ?_ ?_<;>intro hc)|(refine wNl hK ?_;clear hK K))|refine wG ?_|(refine wCR ?_;intro K hK)|refine wPh ?_|fail)
    refine e3A (news := [lv']) rfl rfl rfl hb6 cl1 (fun _ => rfl) (Nat.le_of_ble_eq_true rfl) (fun u hu => by rw [List.mem_singleton] at hu; subst hu; exact cl2) (fun w8 e8 => ⟨_, fun t u hu => c6A t u hu, aiA ?_⟩)
    have hb8 : (w8.setRow b #[kv', lv']).heap[b]? = _ := setRow_heap w8 b _ _ _ _ (e8.block hb6)
    obtain ⟨w9, hw9⟩ : ∃ w9, w9 = w8.setRow b #[kv', lv'] := ⟨_, rfl⟩
    have hF9 : Fr (onw b kv lv) w w9 := hw9 ▸ ((hF7.trans (Fr.of e8)).setRow (.inl rfl) _)
    have r19 : OwnI 0 tK .u16 w9 kv' ((b7A p).take i ++ [(k : Int)] ++ (b7A p).drop i) := hw9 ▸ Own.setRow (r17.ext e8) _ (Own.apart (r17.ext e8) (e8.block hb6) (by decide))
    have s19 : Own 0 tC 4 w9 lv' (nk p + 1) (bbA (Q.take i ++ [qc] ++ Q.drop i)) := hw9 ▸ Own.setRow (s17.ext e8) _ (Own.apart (s17.ext e8) (e8.block hb6) (by decide))
    have sz3 := Nat.le_trans sz2 e3.size
    rw [show (#[kv', lv].toList.take 1 ++ [lv'] ++ #[kv', lv].toList.drop (1 + [lv'].length)).toArray = #[kv', lv'] from rfl]
    rw [← hw9] at hb8 ⊢
    clear hw9
    repeat' (first|(refine oLA ?_;first|refine wBk ?_|(refine oNc ?_; refine ahA rfl rfl ?_)|(refine oF 0 ?_; refine a2A (a' := ⟨b, 0, none⟩) rfl rfl (fun _ => rfl) ?_)|(refine oF 1 ?_; refine a2A (a' := ⟨b, 1, none⟩) rfl rfl (fun _ => rfl) ?_)|(refine oLt 52 ?_; refine a8A (c := kv) rfl (fun _ => rfl) rfl hb8 rfl ?_)|(refine oLt 53 ?_; refine a8A (c := lv) rfl (fun _ => rfl) rfl hb8 rfl ?_)|refine wOp ?_|(refine wCm ?_ ?_<;>intro hc)|(refine wNl hK ?_;clear hK K))|refine wG ?_|(refine wCR ?_;intro K hK)|refine wPh ?_|fail)
    all_goals skip
    refine b5A rfl (fun w2 e2 => ⟨rfl, ?_⟩) (.inl rfl)
    exact hfin w2 kv' lv' (hF9.trans (Fr.of e2)) (e2.block hb8) (r19.ext e2) (s19.ext e2) (r3.le (Nat.le_trans e5.size e1.size)) (s3.le (by omega))
  · obtain ⟨i1, i2⟩ := viA hk hn
    have hfin : ∀ w', _ := fun w' => hS.set (w' := w') hk hn hq hq0 q1 q3 hc
    rw [← hi] at i1 hf hfin
    rw [hn] at hf
    have hset := n5A Q i qc (by omega)
    rcases q2.2 with ⟨_, h0⟩ | ⟨gl, cap, cur, rfl, -, hg, hnc, hm, hsz, htake⟩
    · omega
    have hsn := slot_ne hS
    have hsetN := fun (w1 : World) (hg1 : w1.heap[gl]? = some (.cells cur tC (0, 0))) => Own.setN (e := tC) (s := 4) (news := qcs qc) q2.1 hg1 hnc hm hsz htake i1 rfl
    clear hi
    refine Fc.of (args := [_, _, _]) Tryz.func46 rfl rfl Tryz.ntmps46 (Nat.le_of_ble_eq_true rfl) ?_
    repeat' (first|(refine oLA ?_;first|refine a0A rfl ?_|(refine oBx ?_; refine qaA rfl rfl ?_)|(refine oNc ?_; refine ahA rfl rfl ?_)|(refine oF 0 ?_; refine a2A (a' := ⟨b, 0, none⟩) rfl rfl (fun _ => rfl) ?_)|(refine oF 1 ?_; refine a2A (a' := ⟨b, 1, none⟩) rfl rfl (fun _ => rfl) ?_)|(refine oLt 52 ?_; refine a8A (c := kv) rfl (fun _ => rfl) rfl hS.hb rfl ?_)|(refine oLt 53 ?_; refine a8A (c := .slice (some ⟨gl, 0, none⟩) (nk p) cap) rfl (fun _ => rfl) rfl hS.hb rfl ?_)|(refine oI ?_; refine d0A (s := 4) rfl rfl (fun _ => rfl) rfl rfl (by omega) (by omega) ?_; rw [Int.toNat_natCast, Nat.zero_add])|(refine oLd ?_; refine mrA rfl (fun _ => rfl) (fun _ => rfl) rfl ?_)|(refine a4A (hK _ _ rfl (pvA (news := qcs qc) rfl rfl rfl hg rfl (fun _ => rfl) (by rw [hsz]; show i * 4 + 4 ≤ cap * 4; omega) hqc (fun w1 e1 => ?_))); clear hK K)|refine wOp ?_|(refine wCm ?_ ?_<;>intro hc)|(refine oCv ?_;first|(refine oC 87 ?_; refine a3A (f := 87) rfl rfl rfl rfl  (.tup2 (.val (.int .i64 i)) (.val (.bool true))) (by intro u1 u2 w e hu1 hu2; (try obtain rfl : u1 = _ := hu1); (try obtain rfl : u2 = _ := hu2); exact hf _ e) ?_))|(refine wNl hK ?_;clear hK K))|(refine oCX ?_;first|refine byA 7 (by kernel_rfl) (by kernel_rfl) (by kernel_rfl) (fun K hK => ?_))|refine wG ?_|(refine wCR ?_;intro K hK)|fail)
    all_goals skip
    refine b5A rfl (fun w2 e2 => ⟨rfl, ?_⟩) (.inr rfl)
    have hS1 := hS.ext e1
    have hne : b ≠ gl := fun e => hsn.2.1 (by rw [e]; rfl)
    refine hfin w2 (((Fr.of e1).setRow (.inr (.inr rfl)) _).trans (Fr.of e2)) (e2.block (kjA _ hS1.hb hne)) (OwnI.ext (Own.setRow hS1.hk _ (Own.apart hS1.hk (e1.block hg) (by decide))) e2) ?_
    rw [hset]
    exact (hsetN w1 (e1.block hg)).ext e2
end Go.Proofs.YtfcioiobhpcngaaGreatDoor
end
section
set_option linter.unusedSimpArgs false
set_option linter.unusedVariables false
set_option maxRecDepth 3000
namespace Go.Proofs.YtfcioiobhpcngaaGreatDoor
open Go.LA Go.ArrP Go.RowKit
variable {A B : Nat → Prop}
theorem lxA {w : World} {v : Value} {p : Nat → Bool} (h : NSet B A w v p) : ∀ x, TOP ≤ x → p x = false := by
  rcases h with ⟨rfl, rfl⟩ | ⟨b, kv, lv, rfl, hS, -⟩
  · exact fun _ _ => rfl
  · exact hS.top
structure Pts (A : Nat → Prop) (w : World) (v : Value) (p : Nat → Bool) (lv : Value) (Q : List Qd) : Prop where
  len : Q.length = nk p
  own : Own 0 tC 4 w lv (nk p) (bbA Q)
  cn : ∀ i, i < nk p → Cn A w (qv (Q.getD i q0)) (blk p (kp p i)) (aqA (blk p (kp p i)))
  set : 0 < nk p → ∃ b kv, v = .pointer (some ⟨b, 0, none⟩) ∧ w.heap[b]? = some (.cells #[kv, lv] tS (0, 0)) ∧ OwnI 0 tK .u16 w kv (b7A p)
theorem Pts.ext {w w' : World} {v : Value} {p : Nat → Bool} {lv : Value} {Q : List Qd} (h : Pts A w v p lv Q) (e : Ext w w') : Pts A w' v p lv Q :=
  ⟨h.len, h.own.ext e, fun i hi => (h.cn i hi).ext e, fun h0 => by
    obtain ⟨b, kv, h1, h2, h3⟩ := h.set h0
    exact ⟨b, kv, h1, e.block h2, h3.ext e⟩⟩
theorem Pts.at {w : World} {v : Value} {p : Nat → Bool} {lv : Value} {Q : List Qd} (h : Pts A w v p lv Q) {i : Nat} (hi : i < nk p) : ((bbA Q).drop (i * 4)).take 4 = qcs (Q.getD i q0) ∧ Cn A w (qv (Q.getD i q0)) (blk p (kp p i)) (aqA (blk p (kp p i))) ∧ ∀ u ∈ qcs (Q.getD i q0), u.oneCell' = true := by
  refine ⟨hiA Q i (by have := h.len; omega), h.cn i hi, ?_⟩
  obtain ⟨q, h1, h2⟩ := (h.cn i hi).qd
  rw [toA h1]; exact h2
theorem m3A {w : World} {v : Value} {p : Nat → Bool} (h : NSet B A w v p) : ∃ lv Q, Pts A w v p lv Q ∧ ∀ w', Ext w w' → Fc Tryz.prog 50 #[v] w' (Ret w' (.val lv)) := by
  rcases h with ⟨rfl, rfl⟩ | ⟨b, kv, lv, rfl, hS, -⟩
  · refine ⟨nilS, [], ⟨by rw [eqA]; rfl, by rw [eqA]; exact Own.nil, fun i hi => by rw [eqA] at hi; omega, fun hi => by rw [eqA] at hi; omega⟩, fun w' e => ?_⟩
    refine Fc.of (args := [_]) Tryz.func50 rfl rfl Tryz.ntmps50 (Nat.le_of_ble_eq_true rfl) ?_
    repeat' (first|(refine oLA ?_;first|refine a0A rfl ?_|(refine oEq ?_; refine cpA (c := .bool true) rfl rfl rfl (fun _ => rfl) ?_)|refine wOp ?_|(refine wCm ?_ ?_<;>intro hc)|(refine wNl hK ?_;clear hK K))|refine wG ?_|(refine wCR ?_;intro K hK)|fail)
    exact abA rfl rfl (Ext.refl _) rfl
  · obtain ⟨Q, q1, q2, q3⟩ := hS.hl
    refine ⟨lv, Q, ⟨q1, q2, fun i hi => (q3 i hi).mono fun k _ h => h.1, fun _ => ⟨b, kv, rfl, hS.hb, hS.hk⟩⟩, fun w' e => ?_⟩
    replace hS := hS.ext e
    refine Fc.of (args := [_]) Tryz.func50 rfl rfl Tryz.ntmps50 (Nat.le_of_ble_eq_true rfl) ?_
    repeat' (first|(refine oLA ?_;first|refine a0A rfl ?_|(refine oEq ?_; refine cpA (c := .bool false) rfl rfl rfl (fun _ => rfl) ?_)|(refine oNc ?_; refine ahA rfl rfl ?_)|(refine oF 0 ?_; refine a2A (a' := ⟨b, 0, none⟩) rfl rfl (fun _ => rfl) ?_)|(refine oF 1 ?_; refine a2A (a' := ⟨b, 1, none⟩) rfl rfl (fun _ => rfl) ?_)|(refine oLt 52 ?_; refine a8A (c := kv) rfl (fun _ => rfl) rfl hS.hb rfl ?_)|(refine oLt 53 ?_; refine a8A (c := lv) rfl (fun _ => rfl) rfl hS.hb rfl ?_)|refine wOp ?_|(refine wCm ?_ ?_<;>intro hc)|(refine wNl hK ?_;clear hK K))|refine wG ?_|(refine wCR ?_;intro K hK)|fail)
    exact abA rfl rfl (Ext.refl _) rfl
theorem orA {w : World} {v : Value} {p : Nat → Bool} (h : NSet B A w v p) : Fc Tryz.prog 40 #[v] w (Ret w (.pred (blA w.heap.size tK .u16 (b7A p)))) := by
  rcases h with ⟨rfl, rfl⟩ | ⟨b, kv, lv, rfl, hS, -⟩
  · rw [k1A]
    refine Fc.of (args := [_]) Tryz.func40 rfl rfl Tryz.ntmps40 (Nat.le_of_ble_eq_true rfl) ?_
    repeat' (first|(refine oLA ?_;first|refine a0A rfl ?_|(refine oEq ?_; refine cpA (c := .bool true) rfl rfl rfl (fun _ => rfl) ?_)|refine wOp ?_|(refine wCm ?_ ?_<;>intro hc)|(refine wNl hK ?_;clear hK K))|refine wG ?_|(refine wCR ?_;intro K hK)|fail)
    exact aoA rfl rfl (Ext.refl _) (fun v _ _ hv => by obtain rfl : v = _ := hv; exact OwnI.nil)
  · have hn : (b7A p).length ≤ 65536 := by rw [brA]; exact fuA p
    refine Fc.of (args := [_]) Tryz.func40 rfl rfl Tryz.ntmps40 (Nat.le_of_ble_eq_true rfl) ?_
    repeat' (first|(refine oLA ?_;first|refine a0A rfl ?_|(refine oEq ?_; refine cpA (c := .bool false) rfl rfl rfl (fun _ => rfl) ?_)|(refine oNc ?_; refine ahA rfl rfl ?_)|(refine oF 0 ?_; refine a2A (a' := ⟨b, 0, none⟩) rfl rfl (fun _ => rfl) ?_)|(refine oF 1 ?_; refine a2A (a' := ⟨b, 1, none⟩) rfl rfl (fun _ => rfl) ?_)|(refine oLt 52 ?_; refine a8A (c := kv) rfl (fun _ => rfl) rfl hS.hb rfl ?_)|(refine oLt 53 ?_; refine a8A (c := lv) rfl (fun _ => rfl) rfl hS.hb rfl ?_)|refine wOp ?_|(refine wCm ?_ ?_<;>intro hc)|(refine oCv ?_;first|(refine oC 55 ?_; refine a1A (f := 55) rfl rfl rfl  (.pred (blA w.heap.size tK .u16 (b7A p))) (by intro u1 w e hu1; (try obtain rfl : u1 = _ := hu1); exact (foA _ _ _ (hS.hk.ext e).slI hn).mono (aaA e.size)) ?_))|(refine wNl hK ?_;clear hK K))|refine wG ?_|(refine wCR ?_;intro K hK)|fail)
    exact aoA rfl rfl (Ext.refl _) (fun _ _ _ hv => hv)
theorem rnA {w : World} {v : Value} {p : Nat → Bool} (h : NSet B A w v p) : Fc Tryz.prog 15 #[v] w (Ret w (.val (.int .i64 (cnt p TOP)))) := by
  obtain ⟨lv, Q, hP, hL⟩ := m3A h
  have hnk := fuA p
  have hct := cnt_le p TOP
  have htop := e2A
  refine Fc.of (args := [_]) Tryz.func15 rfl rfl Tryz.ntmps15 (Nat.le_of_ble_eq_true rfl) ?_
  repeat' (first|(refine oLA ?_;first|refine a0A rfl ?_|(refine cxA ?_; refine bmA rfl _ rfl rfl (HasC.ownV hP.own) ?_)|refine wOp ?_|(refine wCm ?_ ?_<;>intro hc)|(refine oCv ?_;first|(refine oC 50 ?_; refine a1A (f := 50) rfl rfl rfl  (.val lv) (by intro u1 w e hu1; (try obtain rfl : u1 = _ := hu1); exact hL _ e) ?_))|(refine wNl hK ?_;clear hK K))|refine wG ?_|(refine wCR ?_;intro K hK)|fail)
  refine b6A (ι := Nat) (fun i => [(0, .val v), (3, .val (.int .i64 (cnt p (kp p i * 65536)))), (7, .val lv), (8, .val (.int .i64 (nk p))), (9, .val (.int .i64 i))]) (fun i => i ≤ nk p) (fun i => nk p - i) 0 (Nat.zero_le _) (by rw [gkA]; (repeat' (first | exact Sub.nil | (refine Sub.val rfl ?_ ?_; first | with_reducible rfl | (congr 1; omega)) | refine Sub.same rfl ?_)); done) ?_
  intro i hi
  have hle := cnt_mono p (m := kp p i * 65536) TOP (by have := kp_le p i; omega)
  by_cases hil : i < nk p
  · obtain ⟨hat, hcn, h1⟩ := hP.at hil
    have hkc := otA hil
    have hb6 := cnt_le (blk p (kp p i)) 65536
    repeat' (first|(refine oLA ?_;first|refine a0A rfl ?_|(refine oI ?_; refine cfA (s := 4) rfl _ rfl (fun _ => rfl) rfl (HasC.ownV hP.own) rfl i rfl (by omega) ?_; rw [hat])|(refine oLt 65 ?_; refine apA (cs := qcs _) rfl (fun _ => rfl) (fun _ => rfl) rfl ?_)|(refine oD 5 ?_; refine a4A (hK _ _ (bwA rfl rfl (by decide) (fun _ => rfl) (fun _ => rfl) (fun _ => rfl) rfl h1 (fun bx wx ex hbx hbc => ?_))); clear hK K; refine amA (by kernel_rfl) (fun K hK => ?_))|(refine oD 14 ?_; refine crA (n := 4) rfl hbc rfl rfl (fun _ => rfl) (fun _ => rfl) ?_)|refine wOp ?_|(refine wCm ?_ ?_<;>intro hc)|(refine oCv ?_;first|(refine oC 51 ?_; refine a1A (f := 51) rfl rfl rfl  (.val (.int .i64 (cnt (blk p (kp p i)) 65536))) (by intro u1 w e hu1; (try obtain rfl : u1 = _ := hu1); exact h6A (hcn.ext (ex.trans e))) ?_))|(refine wNl hK ?_;clear hK K))|refine wG ?_|(refine wCR ?_;intro K hK)|fail)
    all_goals skip
    exact hrA ex (i + 1) hil (by omega) (by rw [hkc]; (repeat' (first | exact Sub.nil | (refine Sub.val rfl ?_ ?_; first | with_reducible rfl | (congr 1; omega)) | refine Sub.same rfl ?_)); done)
  · obtain rfl : i = nk p := by omega
    rw [j1A] at hle ⊢
    repeat' (first|(refine oLA ?_;first|refine a0A rfl ?_|refine wOp ?_|(refine wCm ?_ ?_<;>intro hc)|(refine wNl hK ?_;clear hK K))|refine wG ?_|(refine wCR ?_;intro K hK)|fail)
    exact abA rfl rfl (Ext.refl _) rfl
end Go.Proofs.YtfcioiobhpcngaaGreatDoor
end
section
set_option linter.unusedSimpArgs false
set_option linter.unusedVariables false
set_option maxRecDepth 3000
namespace Go.Proofs.YtfcioiobhpcngaaGreatDoor
open Go.LA Go.ArrP Go.RowKit
variable {A B : Nat → Prop}
theorem RS.self {A : Nat → Prop} {w : World} {b : Nat} {kv lv : Value} {p : Nat → Bool} (h : RS A w b kv lv p) : RS (fun k => A k ∧ kv.ownBlock ≠ some k) w b kv lv p := h.mono fun k _ ha hb => ⟨ha, hb⟩
end Go.Proofs.YtfcioiobhpcngaaGreatDoor
end
section
set_option linter.unusedSimpArgs false
set_option linter.unusedVariables false
set_option maxRecDepth 3000
namespace Go.Proofs.YtfcioiobhpcngaaGreatDoor
open Go.LA Go.ArrP Go.RowKit
variable {A B : Nat → Prop}
theorem smA (x : Nat) (hx : x < 18446744073709551616) : bits .and .u64 (x : Int) 65535 = ((x % 65536 : Nat) : Int) := by
  rw [kcA x 65535 hx (by decide) (x := (x : Int)) (y := 65535) rfl rfl, show (65535 : Nat) = 2 ^ 16 - 1 from rfl, Nat.and_two_pow_sub_one_eq_mod]
theorem tnA {w : World} {v : Value} {p : Nat → Bool} (h : NSet B A w v p) {x : Nat} (hx : x < 18446744073709551616) : Fc Tryz.prog 16 #[v, .int .u64 x] w (Ret w (.val (.int .i64 (cnt p (min x TOP))))) := by
  obtain ⟨lv, Q, hP, hL⟩ := m3A h
  have hlen : ∀ w', Ext w w' → _ := fun w' e => rnA (h.ext e)
  have hnk := fuA p
  have hct := cnt_le p TOP
  have htop := e2A
  by_cases hxt : 4294967296 ≤ x
  · rw [show min x TOP = TOP by omega]
    refine Fc.of (args := [_, _]) Tryz.func16 rfl rfl Tryz.ntmps16 (Nat.le_of_ble_eq_true rfl) ?_
    repeat' (first|(refine oLA ?_;first|refine a0A rfl ?_|refine wOp ?_|(refine wCm ?_ ?_<;>intro hc)|(refine oCv ?_;first|(refine oC 15 ?_; refine a1A (f := 15) rfl rfl rfl  (.val (.int .i64 (cnt p TOP))) (by intro u1 w e hu1; (try obtain rfl : u1 = _ := hu1); exact hlen _ e) ?_))|(refine wNl hK ?_;clear hK K))|refine wG ?_|(refine wCR ?_;intro K hK)|fail)
    exact abA rfl rfl (Ext.refl _) rfl
  · rw [show min x TOP = x by omega]
    have hm := smA x hx
    have hdm : x = x / 65536 * 65536 + x % 65536 := by omega
    have hdm2 : x / 65536 * 65536 ≤ x ∧ x < (x / 65536 + 1) * 65536 := by omega
    have hr := Nat.mod_lt x (show 0 < 65536 by omega)
    have e1 : (x : Int) / 65536 = ((x / 65536 : Nat) : Int) := by omega
    have hq : x / 65536 < 65536 := by omega
    obtain ⟨X, hX⟩ : ∃ X, X = x / 65536 := ⟨_, rfl⟩
    obtain ⟨R, hR⟩ : ∃ R, R = x % 65536 := ⟨_, rfl⟩
    rw [← hX, ← hR] at hdm
    rw [← hX] at hdm2
    rw [← hX] at e1 hq
    rw [← hR] at hm hr
    clear hX hR
    refine Fc.of (args := [_, _]) Tryz.func16 rfl rfl Tryz.ntmps16 (Nat.le_of_ble_eq_true rfl) ?_
    repeat' (first|(refine oLA ?_;first|refine a0A rfl ?_|(refine cxA ?_; refine bmA rfl _ rfl rfl (HasC.ownV hP.own) ?_)|refine wOp ?_|(refine wCm ?_ ?_<;>intro hc)|(refine oCv ?_;first|(refine oC 50 ?_; refine a1A (f := 50) rfl rfl rfl  (.val lv) (by intro u1 w e hu1; (try obtain rfl : u1 = _ := hu1); exact hL _ e) ?_))|(refine wNl hK ?_;clear hK K))|refine wG ?_|(refine wCR ?_;intro K hK)|fail)
    refine b6A (ι := Nat) (fun i => [(0, .val v), (1, .val (.int .u64 x)), (5, .val (.int .i64 (cnt p (min x (kp p i * 65536))))), (14, .val lv), (15, .val (.int .i64 (nk p))), (16, .val (.int .i64 i))]) (fun i => i ≤ nk p) (fun i => nk p - i) 0 (Nat.zero_le _) (by rw [xgA]; (repeat' (first | exact Sub.nil | (refine Sub.val rfl ?_ ?_; first | with_reducible rfl | (congr 1; omega)) | refine Sub.same rfl ?_)); done) ?_
    intro i hi
    by_cases hil : i < nk p
    · obtain ⟨hat, hcn, h1⟩ := hP.at hil
      obtain ⟨b, kv, rfl, hb, hkv⟩ := hP.set (by omega)
      obtain ⟨k1, k2, k3, k4⟩ := i5A hil
      have hkl := brA p
      have hown := hP.own
      have f1 := v0A (x := x) (X := X) hil hdm2.1
      have f2 := v2A (x := x) (R := R) hil
      have f3 := v1A (x := x) (X := X) hil hdm2.2
      have b1 := cnt_le p (min x (kp p i * 65536))
      have b2 := cnt_le (blk p (kp p i)) 65536
      have b3 := cnt_le (blk p (kp p i)) R
      have b4 : min x (kp p i * 65536) ≤ x := Nat.min_le_left _ _
      have hcl : ∀ w', Ext w w' → _ := fun w' e => h6A (hcn.ext e)
      have hcr : ∀ w', Ext w w' → _ := fun w' e => xfA (x := R) (hcn.ext e) (by omega)
      obtain ⟨K0, hK0⟩ : ∃ K0, K0 = kp p i := ⟨_, rfl⟩
      obtain ⟨n0, hn0⟩ : ∃ n0, n0 = cnt p (min x (kp p i * 65536)) := ⟨_, rfl⟩
      obtain ⟨n1, hn1⟩ : ∃ n1, n1 = cnt p (min x (kp p (i + 1) * 65536)) := ⟨_, rfl⟩
      obtain ⟨c1, hc1⟩ : ∃ c1, c1 = cnt (blk p (kp p i)) 65536 := ⟨_, rfl⟩
      obtain ⟨c2, hc2⟩ : ∃ c2, c2 = cnt (blk p (kp p i)) R := ⟨_, rfl⟩
      rw [← hc1, ← hn0, ← hn1] at f1
      rw [← hc2, ← hn0, ← hn1] at f2
      rw [← hn0, ← hn1] at f3
      rw [← hn0] at b1 ⊢
      rw [← hc1] at b2 hcl
      rw [← hc2] at b3 hcr
      rw [← hK0] at k1 k4 f1 f2 f3
      clear hP k2 k3 hL hct hn0 hc1 hc2 hcn hlen h
      repeat' (first|(refine oLA ?_;first|refine a0A rfl ?_|(refine oNc ?_; refine ahA rfl rfl ?_)|(refine oF 0 ?_; refine a2A (a' := ⟨b, 0, none⟩) rfl rfl (fun _ => rfl) ?_)|(refine oF 1 ?_; refine a2A (a' := ⟨b, 1, none⟩) rfl rfl (fun _ => rfl) ?_)|(refine oLt 52 ?_; refine a8A (c := kv) rfl (fun _ => rfl) rfl hb rfl ?_)|(refine oLt 53 ?_; refine a8A (c := lv) rfl (fun _ => rfl) rfl hb rfl ?_)|(refine oI ?_; refine cfA (s := 4) rfl _ rfl (fun _ => rfl) rfl (HasC.ownV hown) rfl i rfl (by omega) ?_; rw [hat])|(refine oLt 65 ?_; refine apA (cs := qcs _) rfl (fun _ => rfl) (fun _ => rfl) rfl ?_)|(refine oD 7 ?_; refine a4A (hK _ _ (jeA rfl rfl rfl (by decide) (by decide) (fun _ => rfl) (fun _ => rfl) rfl (fun _ => rfl) (fun _ => rfl) rfl h1 (fun bx wx ex hbx hbc => ?_))); clear hK K; replace hb := ex.block hb; replace hkv := hkv.ext ex; refine amA (by kernel_rfl) (fun K hK => ?_))|(refine oD 26 ?_; refine atA rfl _ rfl (fun _ => rfl) rfl (HasI.ownV hkv) rfl (by omega) ?_; rw [k4])|(refine oD 46 ?_; refine c9A (.inl rfl) rfl rfl rfl ?_; rw [hm])|(refine oB .shr ?_; refine f1A rfl rfl rfl (by decide) (by decide) ?_; rw [show (2 : Int) ^ Int.toNat 16 = 65536 by decide, e1])|(refine oLt 65 ?_; refine crA (n := 4) rfl hbc rfl rfl (fun _ => rfl) (fun _ => rfl) ?_)|refine wOp ?_|(refine wCm ?_ ?_<;>intro hc)|(refine oCv ?_;first|(refine oC 51 ?_; refine a1A (f := 51) rfl rfl rfl  (.val (.int .i64 c1)) (by intro u1 w e hu1; (try obtain rfl : u1 = _ := hu1); exact hcl _ (ex.trans e)) ?_)|(refine oC 52 ?_; refine a3A (f := 52) rfl rfl rfl rfl  (.val (.int .i64 c2)) (by intro u1 u2 w e hu1 hu2; (try obtain rfl : u1 = _ := hu1); (try obtain rfl : u2 = _ := hu2); exact hcr _ (ex.trans e)) ?_))|(refine wNl hK ?_;clear hK K))|refine wG ?_|(refine wCR ?_;intro K hK)|fail)
      all_goals skip
      · exact hrA ex (i + 1) hil (by omega) (by rw [← hn1, f1 (by omega)]; (repeat' (first | exact Sub.nil | (refine Sub.val rfl ?_ ?_; first | with_reducible rfl | (congr 1; omega)) | refine Sub.same rfl ?_)); done)
      · have e9 : K0 = X := by omega
        have e8 := f2 (by rw [e9]; exact hdm) hr
        exact hrA ex (i + 1) hil (by omega) (by rw [← hn1, e8]; (repeat' (first | exact Sub.nil | (refine Sub.val rfl ?_ ?_; first | with_reducible rfl | (congr 1; omega)) | refine Sub.same rfl ?_)); done)
      · exact hrA ex (i + 1) hil (by omega) (by rw [← hn1, f3 (by omega)]; (repeat' (first | exact Sub.nil | (refine Sub.val rfl ?_ ?_; first | with_reducible rfl | (congr 1; omega)) | refine Sub.same rfl ?_)); done)
    · obtain rfl : i = nk p := by omega
      rw [xeA p (by omega)]
      repeat' (first|(refine oLA ?_;first|refine a0A rfl ?_|refine wOp ?_|(refine wCm ?_ ?_<;>intro hc)|(refine wNl hK ?_;clear hK K))|refine wG ?_|(refine wCR ?_;intro K hK)|fail)
      exact abA rfl rfl (Ext.refl _) rfl
end Go.Proofs.YtfcioiobhpcngaaGreatDoor
end
section
set_option linter.unusedSimpArgs false
set_option linter.unusedVariables false
set_option maxRecDepth 3000
namespace Go.Proofs.YtfcioiobhpcngaaGreatDoor
open Go.LA Go.ArrP Go.RowKit
variable {A B : Nat → Prop}
theorem or32 (a b : Nat) (ha : a < 65536) (hb : b < 65536) : bits .or .u32 ((a : Int) * 65536) (b : Int) = (a : Int) * 65536 + b := by
  have hx : 2 ^ 16 * a ||| b = 2 ^ 16 * a + b := (Nat.two_pow_add_eq_or_of_lt (by omega) a).symm
  have h1 : (BitVec.ofInt 32 ((a : Int) * 65536)).toNat = 2 ^ 16 * a := by
    rw [show ((a : Int) * 65536) = ((2 ^ 16 * a : Nat) : Int) by omega, BitVec.ofInt_natCast, BitVec.toNat_ofNat]; exact Nat.mod_eq_of_lt (by omega)
  have h2 : (BitVec.ofInt 32 (b : Int)).toNat = b := by
    rw [BitVec.ofInt_natCast, BitVec.toNat_ofNat]; exact Nat.mod_eq_of_lt (by omega)
  show IntKind.u32.wrap ((BitVec.ofInt 32 ((a : Int) * 65536) ||| BitVec.ofInt 32 (b : Int)).toNat : Int) = _
  rw [BitVec.toNat_or, h1, h2, hx, IntKind.wrap_u32]
  omega
theorem umA {q : Nat → Bool} {k : Int} (h0 : 0 ≤ k) (h1 : k < cnt q 65536) : ∃ r : Nat, r < 65536 ∧ q r = true ∧ k = cnt q r ∧ gfA q k = ((r : Int), true) := by
  obtain ⟨r, r1, r2, r3, r4⟩ := fzA q (n := 65536) (k := k.toNat) (by omega)
  refine ⟨r, r1, r2, by omega, ?_⟩
  unfold gfA
  rw [if_pos ⟨h0, h1⟩, r4]
theorem quA {w : World} {v : Value} {p : Nat → Bool} (h : NSet B A w v p) (hT : Tab w) {k : Int} (hk : -9223372036854775808 ≤ k ∧ k < 9223372036854775808) : Fc Tryz.prog 31 #[v, .int .i64 k] w (Ret w (.tup2 (.val (.int .u32 (qgA p TOP k).1)) (.val (.bool (qgA p TOP k).2)))) := by
  obtain ⟨lv, Q, hP, hL⟩ := m3A h
  have hnk := fuA p
  by_cases h0 : k < 0
  · rw [klA (.inl h0)]
    refine Fc.of (args := [_, _]) Tryz.func31 rfl rfl Tryz.ntmps31 (Nat.le_of_ble_eq_true rfl) ?_
    repeat' (first|(refine oLA ?_;first|refine a0A rfl ?_|refine wOp ?_|(refine wCm ?_ ?_<;>intro hc)|(refine wNl hK ?_;clear hK K))|refine wG ?_|(refine wCR ?_;intro K hK)|fail)
    exact bhA rfl rfl rfl (Ext.refl _) rfl rfl
  · have hk0 : 0 ≤ k := by omega
    refine Fc.of (args := [_, _]) Tryz.func31 rfl rfl Tryz.ntmps31 (Nat.le_of_ble_eq_true rfl) ?_
    repeat' (first|(refine oLA ?_;first|refine a0A rfl ?_|(refine cxA ?_; refine bmA rfl _ rfl rfl (HasC.ownV hP.own) ?_)|refine wOp ?_|(refine wCm ?_ ?_<;>intro hc)|(refine oCv ?_;first|(refine oC 50 ?_; refine a1A (f := 50) rfl rfl rfl  (.val lv) (by intro u1 w e hu1; (try obtain rfl : u1 = _ := hu1); exact hL _ e) ?_))|(refine wNl hK ?_;clear hK K))|refine wG ?_|(refine wCR ?_;intro K hK)|fail)
    refine b6A (ι := Nat) (fun i => [(0, .val v), (1, .val (.int .i64 (k - (cnt p (kp p i * 65536) : Int)))), (14, .val lv), (15, .val (.int .i64 (nk p))), (16, .val (.int .i64 i))]) (fun i => i ≤ nk p ∧ (cnt p (kp p i * 65536) : Int) ≤ k) (fun i => nk p - i) 0 ⟨Nat.zero_le _, by rw [gkA]; exact hk0⟩ (by rw [gkA]; (repeat' (first | exact Sub.nil | (refine Sub.val rfl ?_ ?_; first | with_reducible rfl | (congr 1; omega)) | refine Sub.same rfl ?_)); done) ?_
    rintro i ⟨hi, hik⟩
    by_cases hil : i < nk p
    · obtain ⟨hat, hcn, h1⟩ := hP.at hil
      obtain ⟨b, kv, rfl, hb, hkv⟩ := hP.set (by omega)
      obtain ⟨k1, k2, k3, k4⟩ := i5A hil
      have hkl := brA p
      have hown := hP.own
      have f1 := otA hil
      have hcl : ∀ w', Ext w w' → _ := fun w' e => h6A (hcn.ext e)
      have hsl : ∀ w', Ext w w' → _ := fun w' e => sel_c (k := k - (cnt p (kp p i * 65536) : Int)) (hcn.ext e) (hT.ext e) (by omega)
      have hsp := umA (q := blk p (kp p i)) (k := k - (cnt p (kp p i * 65536) : Int)) (by omega)
      have hst : ∀ r : Nat, _ := fun r => qwA (r := r) (k := k) hil
      obtain ⟨sp, hsp0⟩ : ∃ sp, sp = gfA (blk p (kp p i)) (k - (cnt p (kp p i * 65536) : Int)) := ⟨_, rfl⟩
      rw [← hsp0] at hsl hsp
      obtain ⟨st, hst0⟩ : ∃ st, st = qgA p TOP k := ⟨_, rfl⟩
      rw [← hst0] at hst ⊢
      obtain ⟨K0, hK0⟩ : ∃ K0, K0 = kp p i := ⟨_, rfl⟩
      obtain ⟨n0, hn0⟩ : ∃ n0, n0 = cnt p (kp p i * 65536) := ⟨_, rfl⟩
      obtain ⟨n1, hn1⟩ : ∃ n1, n1 = cnt p (kp p (i + 1) * 65536) := ⟨_, rfl⟩
      obtain ⟨q, hq⟩ : ∃ q, q = blk p (kp p i) := ⟨_, rfl⟩
      rw [← hq] at hcl hsp hst f1
      obtain ⟨c1, hc1⟩ : ∃ c1, c1 = cnt q 65536 := ⟨_, rfl⟩
      rw [← hc1, ← hn0, ← hn1] at f1
      rw [← hc1] at hcl hsp
      rw [← hn0] at hsp hst hik hsl ⊢
      rw [← hK0] at k1 k4 hst
      clear hP k2 k3 hL hcn h hsp0 hn0 hK0 hst0 hc1 hq
      by_cases hlt : k - (n0 : Int) < c1
      · obtain ⟨r, r1, r2, r3, rfl⟩ := hsp hlt
        obtain rfl := hst r r1 r2 (by omega)
        have hor := or32 K0 r k1 r1
        clear hst hsp
        repeat' (first|(refine oLA ?_;first|refine a0A rfl ?_|(refine oNc ?_; refine ahA rfl rfl ?_)|(refine oF 0 ?_; refine a2A (a' := ⟨b, 0, none⟩) rfl rfl (fun _ => rfl) ?_)|(refine oF 1 ?_; refine a2A (a' := ⟨b, 1, none⟩) rfl rfl (fun _ => rfl) ?_)|(refine oLt 52 ?_; refine a8A (c := kv) rfl (fun _ => rfl) rfl hb rfl ?_)|(refine oLt 53 ?_; refine a8A (c := lv) rfl (fun _ => rfl) rfl hb rfl ?_)|(refine oI ?_; refine cfA (s := 4) rfl _ rfl (fun _ => rfl) rfl (HasC.ownV hown) rfl i rfl (by omega) ?_; rw [hat])|(refine oLt 65 ?_; refine apA (cs := qcs _) rfl (fun _ => rfl) (fun _ => rfl) rfl ?_)|(refine oD 7 ?_; refine a4A (hK _ _ (jeA rfl rfl rfl (by decide) (by decide) (fun _ => rfl) (fun _ => rfl) rfl (fun _ => rfl) (fun _ => rfl) rfl h1 (fun bx wx ex hbx hbc => ?_))); clear hK K; replace hb := ex.block hb; replace hkv := hkv.ext ex; refine amA (by kernel_rfl) (fun K hK => ?_))|(refine oD 40 ?_; refine atA rfl _ rfl (fun _ => rfl) rfl (HasI.ownV hkv) rfl (by omega) ?_; rw [k4])|(refine oD 43 ?_; refine geA rfl rfl rfl (by decide) (by decide) ?_; rw [show (2 : Int) ^ Int.toNat 16 = 65536 by decide, d2A .u32 _ (by dsimp only [fits]; omega)])|(refine oD 46 ?_; refine c9A (.inr (.inl rfl)) rfl rfl rfl ?_; rw [hor])|(refine oLt 65 ?_; refine crA (n := 4) rfl hbc rfl rfl (fun _ => rfl) (fun _ => rfl) ?_)|refine wOp ?_|(refine wCm ?_ ?_<;>intro hc)|(refine oCv ?_;first|(refine oC 51 ?_; refine a1A (f := 51) rfl rfl rfl  (.val (.int .i64 c1)) (by intro u1 w e hu1; (try obtain rfl : u1 = _ := hu1); exact hcl _ (ex.trans e)) ?_)|(refine oC 67 ?_; refine a3A (f := 67) rfl rfl rfl rfl  (.tup2 (.val (.int .u16 r)) (.val (.bool true))) (by intro u1 u2 w e hu1 hu2; (try obtain rfl : u1 = _ := hu1); (try obtain rfl : u2 = _ := hu2); exact hsl _ (ex.trans e)) ?_))|(refine wNl hK ?_;clear hK K))|refine wG ?_|(refine wCR ?_;intro K hK)|fail)
        all_goals skip
        exact bhA rfl rfl rfl ex rfl rfl
      · clear hst hsp
        repeat' (first|(refine oLA ?_;first|refine a0A rfl ?_|(refine oNc ?_; refine ahA rfl rfl ?_)|(refine oF 0 ?_; refine a2A (a' := ⟨b, 0, none⟩) rfl rfl (fun _ => rfl) ?_)|(refine oF 1 ?_; refine a2A (a' := ⟨b, 1, none⟩) rfl rfl (fun _ => rfl) ?_)|(refine oLt 52 ?_; refine a8A (c := kv) rfl (fun _ => rfl) rfl hb rfl ?_)|(refine oLt 53 ?_; refine a8A (c := lv) rfl (fun _ => rfl) rfl hb rfl ?_)|(refine oI ?_; refine cfA (s := 4) rfl _ rfl (fun _ => rfl) rfl (HasC.ownV hown) rfl i rfl (by omega) ?_; rw [hat])|(refine oLt 65 ?_; refine apA (cs := qcs _) rfl (fun _ => rfl) (fun _ => rfl) rfl ?_)|(refine oD 7 ?_; refine a4A (hK _ _ (jeA rfl rfl rfl (by decide) (by decide) (fun _ => rfl) (fun _ => rfl) rfl (fun _ => rfl) (fun _ => rfl) rfl h1 (fun bx wx ex hbx hbc => ?_))); clear hK K; replace hb := ex.block hb; replace hkv := hkv.ext ex; refine amA (by kernel_rfl) (fun K hK => ?_))|(refine oLt 65 ?_; refine crA (n := 4) rfl hbc rfl rfl (fun _ => rfl) (fun _ => rfl) ?_)|refine wOp ?_|(refine wCm ?_ ?_<;>intro hc)|(refine oCv ?_;first|(refine oC 51 ?_; refine a1A (f := 51) rfl rfl rfl  (.val (.int .i64 c1)) (by intro u1 w e hu1; (try obtain rfl : u1 = _ := hu1); exact hcl _ (ex.trans e)) ?_))|(refine wNl hK ?_;clear hK K))|refine wG ?_|(refine wCR ?_;intro K hK)|fail)
        all_goals skip
        exact hrA ex (i + 1) ⟨hil, by rw [← hn1]; omega⟩ (by omega) (by rw [← hn1, f1, Int.natCast_add, ← Int.sub_sub]; clear hn1 f1; (repeat' (first | exact Sub.nil | (refine Sub.val rfl ?_ ?_; first | with_reducible rfl | (congr 1; omega)) | refine Sub.same rfl ?_)); done)
    · obtain rfl : i = nk p := by omega
      rw [j1A] at hik
      rw [klA (.inr hik)]
      repeat' (first|(refine oLA ?_;first|refine a0A rfl ?_|refine wOp ?_|(refine wCm ?_ ?_<;>intro hc)|(refine wNl hK ?_;clear hK K))|refine wG ?_|(refine wCR ?_;intro K hK)|fail)
      exact bhA rfl rfl rfl (Ext.refl _) rfl rfl
end Go.Proofs.YtfcioiobhpcngaaGreatDoor
end
section
set_option linter.unusedSimpArgs false
set_option linter.unusedVariables false
set_option maxRecDepth 3000
namespace Go.Proofs.YtfcioiobhpcngaaGreatDoor
open Go.LA Go.ArrP Go.RowKit
variable {A B : Nat → Prop}
def rng (p : Nat → Bool) (lo hi y : Nat) : Bool := p y || (decide (lo ≤ y) && decide (y < hi))
theorem ioA (p : Nat → Bool) {lo hi : Nat} (h : hi ≤ lo) : rng p lo hi = p := by
  funext y; unfold rng
  by_cases h1 : lo ≤ y
  · rw [decide_eq_false (show ¬ y < hi by omega), Bool.and_false, Bool.or_false]
  · rw [decide_eq_false h1, Bool.false_and, Bool.or_false]
theorem ueA (p : Nat → Bool) {lo0 lo e k : Nat} (h0 : lo0 ≤ lo) (h1 : lo < e) (hk1 : k * 65536 ≤ lo) (hk2 : e ≤ (k + 1) * 65536) {a c : Int} (ha : a = (lo : Int) - (k : Int) * 65536) (hc : c = (e : Int) - (k : Int) * 65536) :
    upd (rng p lo0 lo) k (two (fun x y => x || y) (blk (rng p lo0 lo) k) (flp (fun _ => false) a c)) = rng p lo0 e := by
  funext y
  have hdm := Nat.div_add_mod y 65536
  have hml := Nat.mod_lt y (show 0 < 65536 by decide)
  unfold upd
  by_cases hy : y / 65536 = k
  · rw [if_pos hy]
    have hyy : k * 65536 + y % 65536 = y := by rw [← hy, Nat.mul_comm]; exact hdm
    have h2 : blk (rng p lo0 lo) k (y % 65536) = rng p lo0 lo y := by rw [cqA hml, hyy]
    have h3 : flp (fun _ => false) a c (y % 65536) = (decide (lo ≤ y) && decide (y < e)) := by
      unfold flp two g1A daA
      rw [decide_eq_true hml, Bool.and_true]
      have e1 : decide (a ≤ ((y % 65536 : Nat) : Int)) = decide (lo ≤ y) := decide_eq_decide.2 (by omega)
      have e2 : decide (((y % 65536 : Nat) : Int) < c) = decide (y < e) := decide_eq_decide.2 (by omega)
      rw [e1, e2]
      cases decide (lo ≤ y) <;> cases decide (y < e) <;> rfl
    show (blk (rng p lo0 lo) k (y % 65536) || flp (fun _ => false) a c (y % 65536)) = _
    rw [h2, h3]
    unfold rng
    rw [Bool.or_assoc]
    congr 1
    rw [Bool.eq_iff_iff]
    simp only [Bool.or_eq_true, Bool.and_eq_true, decide_eq_true_eq]
    omega
  · rw [if_neg hy]
    unfold rng
    congr 1
    rw [Bool.eq_iff_iff]
    simp only [Bool.and_eq_true, decide_eq_true_eq]
    have hks := erA k
    omega
theorem vvA {p : Nat → Bool} {lo hi : Int} {i : Nat} (h1 : lo ≤ (i : Int)) (h2 : (i : Int) < hi) (h3 : i < 65536) : flp p lo hi i = !p i := by
  unfold flp two g1A daA
  rw [decide_eq_true h1, decide_eq_true h2, decide_eq_true h3]
  cases p i <;> rfl
theorem w0A {q : Nat → Bool} {r n : Nat} (h : r < n) (hr : q r = true) : 0 < cnt q n := by
  have h1 : cnt q (r + 1) = cnt q r + 1 := by simp only [cnt, hr, if_true]
  have h2 := cnt_mono q (m := r + 1) n h
  omega
theorem RS.fsh {w : World} {b : Nat} {kv lv : Value} {p : Nat → Bool} (h : RS A w b kv lv p) (hA : Fsh A w) : Fsh (fun k => A k ∧ kv.ownBlock ≠ some k) w := fun k hk => ⟨hA k hk, fun hb => by have := h.lt (.inr (.inl hb)); omega⟩
theorem RS.nset {w : World} {b : Nat} {kv lv : Value} {p : Nat → Bool} (h : RS A w b kv lv p) : NSet TT (fun k => A k ∧ kv.ownBlock ≠ some k) w (.pointer (some ⟨b, 0, none⟩)) p := .inr ⟨b, kv, lv, rfl, h.self, fun _ _ => trivial⟩
theorem Mut.from {w w1 w' : World} {b : Nat} {kv lv : Value} {p' : Nat → Bool} (e : Ext w w1) (h : Mut A w1 b kv lv p' w') : Mut A w b kv lv p' w' := by
  obtain ⟨kv', lv', h1, h2, h3, h4⟩ := h
  exact ⟨kv', lv', h1, (Fr.of e).trans h2, h3.le e.size, h4.le e.size⟩
theorem Mut.ext {w w1 w' : World} {b : Nat} {kv lv : Value} {p' : Nat → Bool} (h : Mut A w b kv lv p' w1) (e : Ext w1 w') : Mut A w b kv lv p' w' := by
  obtain ⟨kv', lv', h1, h2, h3, h4⟩ := h
  exact ⟨kv', lv', h1.ext e, h2.trans (Fr.of e), h3, h4⟩
theorem ivA {w : World} {b : Nat} {kv lv kv' lv' : Value} {base : Nat} (hb : ∀ k, onw b kv lv k → base ≤ k) (hs : base ≤ w.heap.size) (h1 : LocR w kv kv') (h2 : LocR w lv lv') (k : Nat) (hk : onw b kv' lv' k) : base ≤ k := by
  rcases hk with rfl | hk | hk
  · exact hb _ (.inl rfl)
  · exact h1.ge (fun k hk => hb k (.inr (.inl hk))) hs k hk
  · exact h2.ge (fun k hk => hb k (.inr (.inr hk))) hs k hk
theorem Mut.then {w w1 w' : World} {b : Nat} {kv lv kv1 lv1 : Value} {p' : Nat → Bool} (hf : Fr (onw b kv lv) w w1) (h1 : LocR w kv kv1) (h2 : LocR w lv lv1) (h : Mut A w1 b kv1 lv1 p' w') : Mut A w b kv lv p' w' := by
  obtain ⟨kv', lv', g1, g2, g3, g4⟩ := h
  refine ⟨kv', lv', g1, ⟨g2.os.trans hf.os, g2.tape.trans hf.tape, g2.output.trans hf.output, Nat.le_trans hf.size g2.size, fun k hk hn => ?_⟩, h1.trans g3 hf.size, h2.trans g4 hf.size⟩
  rw [g2.block k (Nat.lt_of_lt_of_le hk hf.size) (fun h => hn ?_), hf.block k hk hn]
  rcases h with h | h | h
  · exact .inl h
  · rcases h1 with h1 | h1
    · exact .inr (.inl (h1 ▸ h))
    · have := h1 k h; omega
  · rcases h2 with h2 | h2
    · exact .inr (.inr (h2 ▸ h))
    · have := h2 k h; omega
set_option maxHeartbeats 1000000 in
theorem ieA {w0 w : World} {b : Nat} {kv lv : Value} {p : Nat → Bool} (h0 : Ext w0 w) (hT : Tab w0) (hB : ∀ k, onw b kv lv k → w0.heap.size ≤ k) (hS : RS A w b kv lv p) (hA : Fsh A w) {lo hi : Nat} (hlo : lo < 18446744073709551616) (hhi : hi < 18446744073709551616) :
    Fc Tryz.prog 12 #[.pointer (some ⟨b, 0, none⟩), .int .u64 lo, .int .u64 hi] w (fun en w' => en = .returned (.tuple #[]) ∧ Mut A w b kv lv (rng p lo (min hi TOP)) w') := by
  have htop := e2A
  obtain ⟨H, hH⟩ : ∃ H, H = min hi TOP := ⟨_, rfl⟩
  have hH2 : min (hi : Int) 4294967296 = (H : Int) := by omega
  have hH3 : H ≤ 4294967296 := by omega
  rw [← hH]
  clear hH htop
  refine Fc.of (args := [_, _, _]) Tryz.func12 rfl rfl Tryz.ntmps12 (Nat.le_of_ble_eq_true rfl) ?_
  repeat' (first|(refine oLA ?_;first|refine a0A rfl ?_|(refine chA rfl rfl rfl ?_; rw [hH2])|refine wOp ?_|(refine wCm ?_ ?_<;>intro hc)|(refine wNl hK ?_;clear hK K))|refine wG ?_|(refine wCR ?_;intro K hK)|fail)
  refine agA (ι := Nat) (fun i => [(0, .val (.pointer (some ⟨b, 0, none⟩))), (1, .val (.int .u64 i)), (2, .val (.int .u64 H))]) (fun i w' => lo ≤ i ∧ (i = lo ∨ i ≤ H) ∧ Mut A w b kv lv (rng p lo i) w') (fun i => H - i)
    (fun w2 e2 => ⟨lo, ⟨Nat.le_refl _, .inl rfl, by rw [ioA p (Nat.le_refl _)]; exact ⟨kv, lv, hS.ext e2, Fr.of e2, LocR.refl, LocR.refl⟩⟩, (by repeat' (first | exact Sub.nil | refine Sub.val rfl (by first | with_reducible rfl | (congr 1; omega)) ?_ | refine Sub.same rfl ?_))⟩) ?_
  rintro i w1 ⟨hi0, hi1, kv1, lv1, hS1, hF1, hl1, hl2⟩
  have hB1 := ivA hB h0.size hl1 hl2
  have h01 : Ext w0 w1 := Fr.ext h0 hF1 hB
  have hA1 : Fsh A w1 := fun k hk => hA k (Nat.le_trans hF1.size hk)
  have hF := hS1.fsh hA1
  have hT1 := hT.ext h01
  by_cases hlt : i < H
  · obtain ⟨k, hk⟩ : ∃ k, k = i / 65536 := ⟨_, rfl⟩
    obtain ⟨e0, he0⟩ : ∃ e0, e0 = min H ((k + 1) * 65536) := ⟨_, rfl⟩
    have hks := erA k
    have k1 : k * 65536 ≤ i := by omega
    have k2 : i < k * 65536 + 65536 := by omega
    have k3 : k < 65536 := by omega
    have e1 : (i : Int) / 65536 = (k : Int) := by omega
    have e3 : IntKind.u64.wrap ((((i : Int) / 65536) + 1) * 65536) = ((k * 65536 + 65536 : Nat) : Int) := by rw [e1, d2A .u64 _ (by dsimp only [fits]; omega)]; omega
    have e4 : IntKind.u64.wrap ((k : Int) * 65536) = ((k * 65536 : Nat) : Int) := by rw [d2A .u64 _ (by dsimp only [fits]; omega)]; omega
    have e5 : min (H : Int) ((k * 65536 + 65536 : Nat) : Int) = (e0 : Int) := by omega
    have hup := ueA p (lo0 := lo) (lo := i) (e := e0) (k := k) hi0 (by omega) k1 (by omega) (a := (i : Int) - ((k * 65536 : Nat) : Int)) (c := (e0 : Int) - ((k * 65536 : Nat) : Int)) (by omega) (by omega)
    obtain ⟨g, hg⟩ : ∃ g, g = flp (fun _ => false) ((i : Int) - ((k * 65536 : Nat) : Int)) ((e0 : Int) - ((k * 65536 : Nat) : Int)) := ⟨_, rfl⟩
    obtain ⟨q, hq⟩ : ∃ q, q = two (fun x y => x || y) (blk (rng p lo i) k) g := ⟨_, rfl⟩
    rw [← hg, ← hq] at hup
    have f1 : ∀ w', Ext w1 w' → ∀ u, Cn (fun k => A k ∧ kv1.ownBlock ≠ some k) w' u (fun _ => false) 1 → Fc Tryz.prog 49 #[u, .int .i64 ((i : Int) - ((k * 65536 : Nat) : Int)), .int .i64 ((e0 : Int) - ((k * 65536 : Nat) : Int))] w' (Ret w' (.pred (cnP (fun k => A k ∧ kv1.ownBlock ≠ some k) g (aqA g)))) :=
      fun w' e u hu => by rw [hg]; exact y4A hu (hT1.ext e) (hF.ext e) _ _ (by omega) (by omega)
    have f2 : ∀ w', Ext w1 w' → ∀ u v, Cn (fun k => A k ∧ kv1.ownBlock ≠ some k) w' u (blk (rng p lo i) k) (aqA (blk (rng p lo i) k)) → Cn (fun k => A k ∧ kv1.ownBlock ≠ some k) w' v g (aqA g) → Fc Tryz.prog 48 #[u, v] w' (Ret w' (.pred (cnP (fun k => A k ∧ kv1.ownBlock ≠ some k) q (aqA q)))) :=
      fun w' e u v hu hv => by rw [hq]; exact cor_c hu hv (hT1.ext e) (hF.ext e)
    have hq1 : ∀ i, 65536 ≤ i → q i = false := fun j hj => by
      rw [hq, hg]; unfold two flp two g1A daA
      rw [dtA (by omega), decide_eq_false (show ¬ j < 65536 by omega), Bool.and_false]; rfl
    have hq2 : 0 < cnt q 65536 := by
      refine w0A (r := i - k * 65536) (by omega) ?_
      rw [hq, hg]; unfold two
      rw [vvA (by omega) (by omega) (by omega)]; simp
    have f3 : ∀ w', Ext w1 w' → ∀ u, Cn (fun k => A k ∧ kv1.ownBlock ≠ some k) w' u q (aqA q) → _ := fun w' (e : Ext w1 w') u hu => put_s (hS1.ext e) (vc := u) k3 hu hq1 hq2
    rw [hup] at f3
    clear hg hup hq hq1 hq2
    repeat' (first|(refine oLA ?_;first|refine a0A rfl ?_|(refine oEq ?_; refine cpA (c := .bool true) rfl rfl rfl (fun _ => rfl) ?_)|(refine oB .shr ?_; refine f1A rfl rfl rfl (by decide) (by decide) ?_; rw [show (2 : Int) ^ Int.toNat 16 = 65536 by decide])|(refine oD 23 ?_; refine geA rfl rfl rfl (by decide) (by decide) ?_; rw [show (2 : Int) ^ Int.toNat 16 = 65536 by decide, e3])|(refine oD 30 ?_; refine geA rfl rfl rfl (by decide) (by decide) ?_; rw [show (2 : Int) ^ Int.toNat 16 = 65536 by decide, e1, e4])|(refine oD 27 ?_; rw [e1]; refine msA (n := (k : Int)) rfl rfl rfl rfl (by dsimp only [fits]; omega) ?_)|(refine chA rfl rfl rfl ?_; rw [e5])|(refine oAl ?_; refine a4A (hK _ _ (wgA rfl (by decide) (fun _ => rfl) (fun b9 w9 x9 hb9 h9 => ?_))); clear hK K; have c9 : Cn (fun k => A k ∧ kv1.ownBlock ≠ some k) w9 (.agg #[.int .u8 0, nilS, nilS, nilS]) (fun _ => false) 1 := Cn.zero; refine amA (by kernel_rfl) (fun K hK => ?_))|(refine oLd ?_; refine crA (n := 4) rfl h9 rfl rfl (fun _ => rfl) (fun _ => rfl) ?_)|(refine oC 46 ?_; refine a4A (hK _ _ rfl (c5A 46 rfl (fun v17 w17 e17 h17 => caA rfl (by decide) rfl rfl rfl rfl (fun v w' => v = .tuple #[] ∧ Mut A w b kv lv (rng p lo e0) w') (fun w8 e8 => (f3 _ (x9.trans (e17.trans e8)) _ (Cn.ext h17 e8)).mono fun en w' h => ⟨_, h.1, rfl, (h.2.from (x9.trans (e17.trans e8))).then hF1 hl1 hl2⟩) (fun v w2 hm => ?_)))); clear hK K; obtain ⟨rfl, hm⟩ := hm)|refine wOp ?_|(refine wCm ?_ ?_<;>intro hc)|(refine oCv ?_;first|(refine oC 47 ?_; refine a3A (f := 47) rfl rfl rfl rfl  (.pred (cnP (fun k => A k ∧ kv1.ownBlock ≠ some k) (blk (rng p lo i) k) (aqA (blk (rng p lo i) k)))) (by intro u1 u2 w e hu1 hu2; (try obtain rfl : u1 = _ := hu1); (try obtain rfl : u2 = _ := hu2); exact vqA (hS1.ext (x9.trans e)).nset k3) ?_)|(refine oC 49 ?_; refine b4A (f := 49) rfl rfl rfl rfl rfl  (.pred (cnP (fun k => A k ∧ kv1.ownBlock ≠ some k) g (aqA g))) (by intro u1 u2 u3 w e hu1 hu2 hu3; (try obtain rfl : u1 = _ := hu1); (try obtain rfl : u2 = _ := hu2); (try obtain rfl : u3 = _ := hu3); exact f1 _ (x9.trans e) _ (c9.ext e)) ?_)|(refine oC 48 ?_; refine a3A (f := 48) rfl rfl rfl rfl  (.pred (cnP (fun k => A k ∧ kv1.ownBlock ≠ some k) q (aqA q))) (by intro u1 u2 w e hu1 hu2; (try obtain rfl : u1 = _ := hu1); (try obtain rfl : u2 = _ := hu2); exact f2 _ (x9.trans e) _ _ hu1 hu2) ?_))|(refine wNl hK ?_;clear hK K))|(refine oCX ?_;first|refine byA 16 (by kernel_rfl) (by kernel_rfl) (by kernel_rfl) (fun K hK => ?_))|refine wG ?_|(refine wCR ?_;intro K hK)|fail)
    all_goals skip
    exact a7A e0 (fun w5 e5 => ⟨by omega, by omega, hm.ext e5⟩) (by omega) (by repeat' (first | exact Sub.nil | refine Sub.val rfl (by first | with_reducible rfl | (congr 1; omega)) ?_ | refine Sub.same rfl ?_))
  · have hmut : Mut A w b kv lv (rng p lo H) w1 := by
      by_cases e : i = H
      · exact e ▸ ⟨kv1, lv1, hS1, hF1, hl1, hl2⟩
      · have : i = lo := by omega
        rw [show rng p lo H = rng p lo i by rw [ioA p (show H ≤ lo by omega), ioA p (show i ≤ lo by omega)]]
        exact ⟨kv1, lv1, hS1, hF1, hl1, hl2⟩
    repeat' (first|(refine oLA ?_;first|refine a0A rfl ?_|(refine oEq ?_; refine cpA (c := .bool true) rfl rfl rfl (fun _ => rfl) ?_)|refine wOp ?_|(refine wCm ?_ ?_<;>intro hc)|(refine wNl hK ?_;clear hK K))|refine wG ?_|(refine wCR ?_;intro K hK)|fail)
    all_goals skip
    exact b5A rfl (fun w5 e5 => ⟨rfl, hmut.ext e5⟩) (.inl rfl)
end Go.Proofs.YtfcioiobhpcngaaGreatDoor
end
section
set_option linter.unusedSimpArgs false
set_option linter.unusedVariables false
set_option maxRecDepth 3000
namespace Go.Proofs.YtfcioiobhpcngaaGreatDoor
open Go.LA Go.ArrP Go.RowKit
variable {A B : Nat → Prop}
noncomputable def spU (xs : List Sp) (y : Nat) : Bool := xs.any (fun x => decide (x.1.toNat ≤ y) && decide (y < min x.2.toNat TOP))
theorem ukA (xs ys : List Sp) (y : Nat) : spU (xs ++ ys) y = (spU xs y || spU ys y) := List.any_append
theorem k4A {xs : List Sp} {i : Nat} (h : i < xs.length) : xs.getD i (0, 0) ∈ xs := by
  rw [List.getD_eq_getElem?_getD, List.getElem?_eq_getElem h]; exact List.getElem_mem h
theorem mxA {xs : List Sp} {i : Nat} (h : i < xs.length) : xs.take (i + 1) = xs.take i ++ [xs.getD i (0, 0)] := by
  rw [List.getD_eq_getElem?_getD, List.getElem?_eq_getElem h, List.take_add_one, List.getElem?_eq_getElem h]; rfl
theorem qtA {xs : List Sp} {i : Nat} (h : i < xs.length) : rng (spU (xs.take i)) (xs.getD i (0, 0)).1.toNat (min (xs.getD i (0, 0)).2.toNat TOP) = spU (xs.take (i + 1)) := by
  funext y
  rw [mxA h, ukA]
  unfold rng
  congr 1
  unfold spU
  rw [List.any_cons, List.any_nil, Bool.or_false]
def U64 (xs : List Sp) : Prop := ∀ x ∈ xs, 0 ≤ x.1 ∧ x.1 < 18446744073709551616 ∧ 0 ≤ x.2 ∧ x.2 < 18446744073709551616
theorem kiA {w : World} {v : Value} {xs : List Sp} (h : SlP .u64 w v xs) (hx : U64 xs) (hT : Tab w) (hB : Fsh B w) (hA : Fsh A w) : Fc Tryz.prog 14 #[v] w (Ret w (.pred (rsP B A (spU xs)))) := by
  have hlen := h.len
  refine Fc.of (args := [_]) Tryz.func14 rfl rfl Tryz.ntmps14 (Nat.le_of_ble_eq_true rfl) ?_
  repeat' (first|(refine oLA ?_;first|refine a0A rfl ?_|(refine cxA ?_; refine ddA rfl _ rfl rfl (HasP.val h) ?_)|refine wOp ?_|(refine wCm ?_ ?_<;>intro hc)|(refine oCv ?_;first|(refine oC 11 ?_; refine dkA (f := 11) rfl rfl  (.pred (rsP (fun k => w.heap.size ≤ k) A (fun _ => false))) (by intro w e; exact new_c _ (fun k hk => Nat.le_trans e.size hk)) ?_))|(refine wNl hK ?_;clear hK K))|refine wG ?_|(refine wCR ?_;intro K hK)|fail)
  refine g9A 3 rfl (fun v3 w3 e3 h3 => ?_)
  obtain ⟨b, kv3, lv3, rfl, hS3, hB3⟩ := h3
  refine agA (ι := Nat) (fun i => [(3, .val (.pointer (some ⟨b, 0, none⟩))), (7, .val v), (8, .val (.int .i64 xs.length)), (9, .val (.int .i64 i))]) (fun i w' => i ≤ xs.length ∧ Ext w w' ∧ ∃ kv lv, RS A w' b kv lv (spU (xs.take i)) ∧ ∀ k, onw b kv lv k → w.heap.size ≤ k) (fun i => xs.length - i)
    (fun w2 e2 => ⟨0, ⟨Nat.zero_le _, e3.trans e2, kv3, lv3, hS3.ext e2, hB3⟩, (by repeat' (first | exact Sub.nil | refine Sub.val rfl (by first | with_reducible rfl | (congr 1; omega)) ?_ | refine Sub.same rfl ?_))⟩) ?_
  rintro i w1 ⟨hi, he, kv, lv, hS, hB1⟩
  have h1 := h.ext he
  by_cases hil : i < xs.length
  · obtain ⟨u1, u2, u3, u4⟩ := hx _ (k4A hil)
    have hsu := qtA hil
    obtain ⟨lo, hlo⟩ : ∃ lo : Nat, (xs.getD i (0, 0)).1 = (lo : Int) := ⟨(xs.getD i (0, 0)).1.toNat, by omega⟩
    obtain ⟨hi', hhi⟩ : ∃ hi : Nat, (xs.getD i (0, 0)).2 = (hi : Int) := ⟨(xs.getD i (0, 0)).2.toNat, by omega⟩
    rw [hlo, hhi, Int.toNat_natCast, Int.toNat_natCast] at hsu
    rw [hlo] at u1 u2; rw [hhi] at u3 u4
    repeat' (first|(refine oLA ?_;first|refine a0A rfl ?_|(refine oI ?_; refine clA rfl _ rfl (fun _ => rfl) rfl (HasP.val h1) rfl hil ?_; rw [hlo, hhi])|(refine oLt 32 ?_; refine apA (cs := [.int .u64 lo, .int .u64 hi']) rfl (fun _ => rfl) (fun _ => rfl) rfl ?_)|(refine oD 5 ?_; refine a4A (hK _ _ (bwA rfl rfl (by decide) (fun _ => rfl) (fun _ => rfl) (fun _ => rfl) rfl (by intro u hu; simp [Value.cells] at hu; rcases hu with rfl | rfl <;> rfl) (fun bx wx ex hbx hbc => ?_))); clear hK K; refine amA (by kernel_rfl) (fun K hK => ?_))|(refine oF 0 ?_; refine a2A (a' := ⟨bx, 0, none⟩) rfl rfl (fun _ => rfl) ?_)|(refine oF 1 ?_; refine a2A (a' := ⟨bx, 1, none⟩) rfl rfl (fun _ => rfl) ?_)|(refine oLt 22 ?_; refine a8A rfl (fun _ => rfl) rfl hbc rfl ?_)|(refine oC 12 ?_; refine a4A (hK _ _ (caA rfl (by decide) rfl rfl rfl rfl (fun v w' => v = .tuple #[] ∧ ∃ wz, Ext w1 wz ∧ Mut A wz b kv lv (spU (xs.take (i + 1))) w') (fun w8 e8 => (ieA (he.trans (ex.trans e8)) hT hB1 (hS.ext (ex.trans e8)) (hA.ext (he.trans (ex.trans e8))) (by omega) (by omega)).mono fun en w' h => ⟨_, h.1, rfl, _, ex.trans e8, hsu ▸ h.2⟩) (fun v w2 hm => ?_))); clear hK K; obtain ⟨rfl, wz, ez, hm⟩ := hm)|refine wOp ?_|(refine wCm ?_ ?_<;>intro hc)|(refine wNl hK ?_;clear hK K))|refine wG ?_|(refine wCR ?_;intro K hK)|fail)
    all_goals skip
    obtain ⟨kv', lv', hS', hF', l1, l2⟩ := hm
    have x2 := he.trans ez
    exact a7A (i + 1) (fun w5 e5 => ⟨hil, (Fr.ext x2 hF' hB1).trans e5, kv', lv', hS'.ext e5, ivA hB1 x2.size l1 l2⟩) (by omega) (by repeat' (first | exact Sub.nil | refine Sub.val rfl (by first | with_reducible rfl | (congr 1; omega)) ?_ | refine Sub.same rfl ?_))
  · obtain rfl : i = xs.length := by omega
    rw [List.take_length] at hS
    repeat' (first|(refine oLA ?_;first|refine a0A rfl ?_|refine wOp ?_|(refine wCm ?_ ?_<;>intro hc)|(refine wNl hK ?_;clear hK K))|refine wG ?_|(refine wCR ?_;intro K hK)|fail)
    exact aoA rfl rfl he (fun u w5 e5 hu => by obtain rfl : u = _ := hu; exact ⟨b, kv, lv, rfl, hS.ext e5, fun k hk => hB k (hB1 k hk)⟩)
end Go.Proofs.YtfcioiobhpcngaaGreatDoor
end
section
set_option linter.unusedSimpArgs false
set_option linter.unusedVariables false
set_option maxRecDepth 3000
namespace Go.Proofs.YtfcioiobhpcngaaGreatDoor
open Go.LA Go.ArrP Go.RowKit
theorem x6A {a b : List Sp} (hl : a.length = b.length) (h : ∀ k, k < a.length → (a.getD k (0, 0)).1 = (b.getD k (0, 0)).1 ∧ (a.getD k (0, 0)).2 = (b.getD k (0, 0)).2) : a = b :=
  List.ext_getElem hl fun i h1 h2 => by
    obtain ⟨e1, e2⟩ := h i h1
    have g1 : a.getD i (0, 0) = a[i] := by simp [List.getD, h1]
    have g2 : b.getD i (0, 0) = b[i] := by simp [List.getD, h2]
    rw [g1, g2] at e1 e2
    exact Prod.ext e1 e2
theorem vwA (f m f' m' : Int) (w : World) : (Op.equalIn 10000 32 (spV .u64 (f, m)) (spV .u64 (f', m'))).run Tryz.prog w = .ok (decide (f = f') && decide (m = m')) w := by
  unfold spV
  rw [run_equalIn_agg w 9999 32 _ _ (by kernel_rfl) (by kernel_rfl)]
  have hp : ∀ (f m : Int) (w : World), (part 22 #[.int .u64 f, .int .u64 m] 0).run Tryz.prog w = .ok (.int .u64 f) w := fun f m w => by kernel_rfl
  have hq : ∀ (f m : Int) (w : World), (part 22 #[.int .u64 f, .int .u64 m] 1).run Tryz.prog w = .ok (.int .u64 m) w := fun f m w => by kernel_rfl
  have he : ∀ (a b : Int) (w : World), (Op.equalIn 9999 22 (.int .u64 a) (.int .u64 b)).run Tryz.prog w = .ok (a == b) w := fun a b w => run_equalIn_int w 9998 _ _ _ a b (by kernel_rfl : Tryz.prog.underlying 22 = some (.int .u64))
  simp only [Program.fieldsOf, Tryz.underlying32]
  simp only [Op.eqFields, Sem.run_bind, Sem.run_ite, hp, hq, he, Result.andThen_ok, Sem.run_pure]
  by_cases h1 : f = f' <;> by_cases h2 : m = m' <;> simp [h1, h2]
theorem ttA (f m f' m' : Int) (x y : Operand) (w : World) : (do eqGuard .neq 32 x y (spV .u64 (f, m)) (spV .u64 (f', m')); binOp .neq 32 (spV .u64 (f, m)) (spV .u64 (f', m')) : Sem Value).run Tryz.prog w = .ok (.bool (!(decide (f = f') && decide (m = m')))) w := by
  have h := vwA f m f' m' w
  unfold spV at h ⊢
  rw [Sem.run_bind, run_eqGuard_agg w _ _ _ _ _ _ (by kernel_rfl)]
  simp only [Result.andThen_ok, run_neq_struct, h]
theorem usA (w : World) (v u : Value) (a b : List Sp) (h : SlP .u64 w v a) (h' : SlP .u64 w u b) : Fc Tryz.prog 18 #[v, u] w (Ret w (.val (.bool (decide (a = b))))) := by
  have hl := h.len
  have hl' := h'.len
  refine Fc.of (args := [_, _]) Tryz.func18 rfl rfl Tryz.ntmps18 (Nat.le_of_ble_eq_true rfl) ?_
  by_cases hlen : a.length = b.length
  · skip
    repeat' (first|(refine oLA ?_;first|refine a0A rfl ?_|(refine oI ?_; refine clA rfl _ rfl (fun _ => rfl) rfl (by first | exact HasP.val (by assumption) | exact HasP.own | exact HasP.ownV (by assumption)) rfl (by omega) ?_)|(refine oLt 32 ?_; refine apA rfl (fun _ => rfl) (fun _ => rfl) rfl ?_)|(refine cxA ?_; refine ddA rfl _ rfl rfl (by first | exact HasP.val (by assumption) | exact HasP.own | exact HasP.ownV (by assumption)) ?_)|refine wOp ?_|(refine wCm ?_ ?_<;>intro hc)|(refine wNl hK ?_;clear hK K))|refine wG ?_|(refine wCR ?_;intro K hK)|fail)
    refine b6A (ι := Nat) (fun k => [(0, .val v), (1, .val u), (5, .val (.int .i64 k))]) (fun k => k ≤ a.length ∧ ∀ i, i < k → (a.getD i (0, 0)).1 = (b.getD i (0, 0)).1 ∧ (a.getD i (0, 0)).2 = (b.getD i (0, 0)).2) (fun k => a.length - k) 0 ⟨Nat.zero_le _, fun i h1 => by omega⟩ (by repeat' (first | exact Sub.nil | refine Sub.val rfl (by first | with_reducible rfl | (congr 1; omega)) ?_ | refine Sub.same rfl ?_)) ?_
    rintro k ⟨hk, hin⟩
    by_cases hkl : k < a.length
    · by_cases he : (a.getD k (0, 0)).1 = (b.getD k (0, 0)).1 ∧ (a.getD k (0, 0)).2 = (b.getD k (0, 0)).2
      · have hb : (!(decide ((a.getD k (0, 0)).1 = (b.getD k (0, 0)).1) && decide ((a.getD k (0, 0)).2 = (b.getD k (0, 0)).2))) = false := by rw [decide_eq_true he.1, decide_eq_true he.2]; rfl
        repeat' (first|(refine oLA ?_;first|refine a0A rfl ?_|(refine cpA (c := .bool false) rfl rfl rfl (fun w => (ttA (a.getD k (0, 0)).1 (a.getD k (0, 0)).2 (b.getD k (0, 0)).1 (b.getD k (0, 0)).2 _ _ w).trans (by rw [hb])) ?_)|(refine oI ?_; refine clA rfl _ rfl (fun _ => rfl) rfl (by first | exact HasP.val (by assumption) | exact HasP.own | exact HasP.ownV (by assumption)) rfl (by omega) ?_)|(refine oLt 32 ?_; refine apA rfl (fun _ => rfl) (fun _ => rfl) rfl ?_)|(refine cxA ?_; refine ddA rfl _ rfl rfl (by first | exact HasP.val (by assumption) | exact HasP.own | exact HasP.ownV (by assumption)) ?_)|refine wOp ?_|(refine wCm ?_ ?_<;>intro hc)|(refine wNl hK ?_;clear hK K))|refine wG ?_|(refine wCR ?_;intro K hK)|fail)
        all_goals skip
        refine bpA (k + 1) ⟨hkl, fun i h1 => ?_⟩ (by omega) (by repeat' (first | exact Sub.nil | refine Sub.val rfl (by first | with_reducible rfl | (congr 1; omega)) ?_ | refine Sub.same rfl ?_))
        by_cases e : i = k
        · subst e; exact he
        · exact hin i (by omega)
      · have hb : (!(decide ((a.getD k (0, 0)).1 = (b.getD k (0, 0)).1) && decide ((a.getD k (0, 0)).2 = (b.getD k (0, 0)).2))) = true := by
          by_cases h1 : (a.getD k (0, 0)).1 = (b.getD k (0, 0)).1
          · rw [decide_eq_true h1, decide_eq_false (fun h2 => he ⟨h1, h2⟩)]; rfl
          · rw [decide_eq_false h1]; rfl
        have hne : a ≠ b := fun e => he (by rw [e]; exact ⟨rfl, rfl⟩)
        repeat' (first|(refine oLA ?_;first|refine a0A rfl ?_|(refine cpA (c := .bool true) rfl rfl rfl (fun w => (ttA (a.getD k (0, 0)).1 (a.getD k (0, 0)).2 (b.getD k (0, 0)).1 (b.getD k (0, 0)).2 _ _ w).trans (by rw [hb])) ?_)|(refine oI ?_; refine clA rfl _ rfl (fun _ => rfl) rfl (by first | exact HasP.val (by assumption) | exact HasP.own | exact HasP.ownV (by assumption)) rfl (by omega) ?_)|(refine oLt 32 ?_; refine apA rfl (fun _ => rfl) (fun _ => rfl) rfl ?_)|(refine cxA ?_; refine ddA rfl _ rfl rfl (by first | exact HasP.val (by assumption) | exact HasP.own | exact HasP.ownV (by assumption)) ?_)|refine wOp ?_|(refine wCm ?_ ?_<;>intro hc)|(refine wNl hK ?_;clear hK K))|refine wG ?_|(refine wCR ?_;intro K hK)|fail)
        exact abA rfl rfl (Ext.refl _) (by rw [decide_eq_false hne])
    · obtain rfl : k = a.length := by omega
      have : a = b := x6A hlen hin
      repeat' (first|(refine oLA ?_;first|refine a0A rfl ?_|(refine oI ?_; refine clA rfl _ rfl (fun _ => rfl) rfl (by first | exact HasP.val (by assumption) | exact HasP.own | exact HasP.ownV (by assumption)) rfl (by omega) ?_)|(refine oLt 32 ?_; refine apA rfl (fun _ => rfl) (fun _ => rfl) rfl ?_)|(refine cxA ?_; refine ddA rfl _ rfl rfl (by first | exact HasP.val (by assumption) | exact HasP.own | exact HasP.ownV (by assumption)) ?_)|refine wOp ?_|(refine wCm ?_ ?_<;>intro hc)|(refine wNl hK ?_;clear hK K))|refine wG ?_|(refine wCR ?_;intro K hK)|fail)
      exact abA rfl rfl (Ext.refl _) (by rw [decide_eq_true this])
  · have hne : a ≠ b := fun e => hlen (by rw [e])
    repeat' (first|(refine oLA ?_;first|refine a0A rfl ?_|(refine oI ?_; refine clA rfl _ rfl (fun _ => rfl) rfl (by first | exact HasP.val (by assumption) | exact HasP.own | exact HasP.ownV (by assumption)) rfl (by omega) ?_)|(refine oLt 32 ?_; refine apA rfl (fun _ => rfl) (fun _ => rfl) rfl ?_)|(refine cxA ?_; refine ddA rfl _ rfl rfl (by first | exact HasP.val (by assumption) | exact HasP.own | exact HasP.ownV (by assumption)) ?_)|refine wOp ?_|(refine wCm ?_ ?_<;>intro hc)|(refine wNl hK ?_;clear hK K))|refine wG ?_|(refine wCR ?_;intro K hK)|fail)
    exact abA rfl rfl (Ext.refl _) (by rw [decide_eq_false hne])
end Go.Proofs.YtfcioiobhpcngaaGreatDoor
end
