import Derived.Test.YtiopcpkfjikfdaaGreatDoorWApart
namespace Go.Proofs.YtiopcpkfjikfdaaGreatDoorW.Mix
open Go Go.RowKit Go.Proofs.YtiopcpkfjikfdaaGreatDoorW.PrintLast Go.Proofs.YtiopcpkfjikfdaaGreatDoorW.PrintWords
set_option linter.unusedVariables false
def pickO : List Oper → Nat → Oper
 | [], _ => ⟨none, .move (.const undef), 0, "", #[], none⟩
 | o :: _, 0 => o
 | _ :: l, n + 1 => pickO l n
theorem pickO_get : ∀ (l : List Oper) (i : Nat), i < l.length → l[i]? = some (pickO l i)
 | [], i, h => absurd h (Nat.not_lt_zero i)
 | _ :: _, 0, _ => rfl
 | _ :: l, n + 1, h => by
  rw [List.getElem?_cons_succ]
  exact pickO_get l n (Nat.lt_of_succ_lt_succ h)
def isLook (o : Oper) : Bool := match o.op with
 | .move _ | .assign _ | .build .. | .load .. | .binOp .. | .unOp .. | .convert .. | .fieldAddr .. | .field .. | .indexAddr .. | .index .. | .extract .. | .pick .. => true
 | .call c => match c.callee with
  | .builtin .len => true
  | _ => false
 | _ => false
theorem vlook {α : Type} {P : Program} {s : Sem α} {f : α → Value} {w w' : World} {n : Next} (h : Sem.run P (do let x ← s; pure (Next.value (f x))) w = .ok n w') : ∃ u, n = .value u := by
 rw [Sem.run_bind] at h
 cases hs : s.run P w with
 | ok a w1 =>
  rw [hs] at h
  simp only [Result.andThen_ok, Sem.run_pure, Result.ok.injEq] at h
  exact ⟨_, h.1.symm⟩
 | halt x w1 =>
  rw [hs] at h
  cases h
theorem look_value {P : Program} {ρ : Operand → Value} {o : Oper} {w w' : World} {n : Next} (h : isLook o = true) (hr : (execOp ρ o).run P w = .ok n w') : ∃ u, n = .value u := by
 unfold isLook at h
 unfold execOp at hr
 split at h
 all_goals (try cases h)
 case h_14 c he =>
  rw [he] at hr
  obtain ⟨cal, args, ats⟩ := c
  cases cal with
  | builtin b =>
   cases b <;> first | cases h | skip
   dsimp only [resolve, invoke, builtin] at hr
   rw [Sem.run_bind] at hr
   exact vlook (f := fun x => x) hr
  | value _ => cases h
  | invoke _ _ => cases h
 all_goals (rename_i he; rw [he] at hr; dsimp only at hr)
 all_goals first
  | exact vlook (f := fun x => x) hr
  | exact vlook hr
  | (simp only [Sem.run_pure, Result.ok.injEq] at hr; exact ⟨_, hr.1.symm⟩)
@[reducible] def Qm (Q : Exit → Act → World → Prop) (K : Act → World → Prop) : Exit → Act → World → Prop
  | .normal => K
  | e => Q e
/-- What is to be shown: the looks of a list, in a class S of worlds; then the one operation that acts; and so on. -/
def mixW (P : Program) (l : List Oper) (S : World → Prop) (Q : Exit → Act → World → Prop) (fl : List Nat) : List (List Nat × Nat) → Act → World → Prop
 | [], a, w => wpQuiet P l.toArray S (fun a' => Q .normal a' w) (fl.map (pickO l)) a
 | (fs, i) :: r, a, w => wpQuiet P l.toArray S (fun a' => wpList P l.toArray (Qm Q fun a'' w'' => S w'' ∧ (S w'' → mixW P l S Q fl r a'' w'')) [pickO l i] a' w) (fs.map (pickO l)) a
def looksB (md : Region.Mode) (l : List Oper) (c : Array Bool) : List Nat → Option (Array Bool)
 | [] => some c
 | i :: r => if takeB md l.toArray [] c (c.setIfInBounds i true) i && (decide (i < l.length) && isLook (pickO l i)) then looksB md l (c.setIfInBounds i true) r else none
def mixB (md : Region.Mode) (l : List Oper) (fl : List Nat) : Array Bool → List (List Nat × Nat) → Bool
 | c, [] => match looksB md l c fl with
  | some c' => Region.ready md l.toArray c' == []
  | none => false
 | c, (fs, i) :: r => match looksB md l c fs with
  | some c' => decide (i < l.length) && (readyB md l.toArray c' (c'.setIfInBounds i true) i && mixB md l fl (c'.setIfInBounds i true) r)
  | none => false
theorem put_split (a : Act) (d : Option Tmp) (v : Value) : a.put d v = { tmps := (a.put d v).tmps, defers := a.defers } := by cases d <;> rfl
section
variable {P : Program} {l : List Oper} {S : World → Prop} {Q : Exit → Act → World → Prop} {md : Region.Mode}
theorem looks_ok (hQ : ∀ c (a : Act) ts w, Q (.panic c) { tmps := ts, defers := a.defers } w → Q (.panic c) a w) (fuel : Nat) : ∀ (fs : List Nat) (c c' : Array Bool) (a : Act) (w : World) (K : Act → Prop), looksB md l c fs = some c' → S w → wpQuiet P l.toArray S K (fs.map (pickO l)) a →
  (∀ a', K a' → wpAnyLast P md l.toArray Q S [] fuel c' a' w) → wpAnyLast P md l.toArray Q S [] (fuel + fs.length) c a w
 | [], c, c', a, w, K, hc, hS, h, hK => by
  simp only [looksB, Option.some.injEq] at hc
  subst hc
  exact hK a h
 | i :: r, c, c', a, w, K, hc, hS, h, hK => by
  simp only [looksB] at hc
  split at hc
  ·rename_i hb
   simp only [Bool.and_eq_true, decide_eq_true_eq] at hb
   obtain ⟨ht, hi, hl⟩ := hb
   have ho : l.toArray[i]? = some (pickO l i) := by rw [List.getElem?_toArray]; exact pickO_get l i hi
   have hgo : ∀ v, YieldsIf P l.toArray S (pickO l i) v a → wpQuiet P l.toArray S K (r.map (pickO l)) (a.put (pickO l i).dst v) → wpAnyLast P md l.toArray Q S [] (fuel + (i :: r).length) c a w := fun v hy hr => by
    rw [List.length_cons, ← Nat.add_assoc]
    exact take_ (N := (pickO l i).dst) _ ho rfl ht (fun c a w h => hQ c a _ w (by rw [put_split] at h; exact h)) hy hS rfl (looks_ok hQ fuel r _ c' _ w K hc hS hr hK)
   rw [List.map_cons] at h
   unfold wpQuiet at h
   split at h
   ·rename_i hw
    obtain ⟨v, h1, h2⟩ := h
    refine hgo v (.inl ⟨hw, fun w' hw' => ?_⟩) h2
    have h3 := h1 w' hw'
    unfold Oper.quietAt at h3
    cases hr : (execOp a.eval (pickO l i)).run P w' with
    | ok n w1 =>
     rw [hr] at h3
     obtain ⟨u, rfl⟩ := look_value hl hr
     obtain ⟨e1, e2⟩ := h3
     rw [e1, e2]
    | halt x w1 =>
     rw [hr] at h3
     exact h3.elim
   ·rename_i hw
    exact hgo undef (.inr ⟨by simpa using hw, rfl⟩) h
  ·cases hc
theorem wp_Qm {o : Oper} {a : Act} {w : World} {K K' K2 : Act → World → Prop} (h : ∀ a w, K a w → K' a w) (hh : o.wp P a w K (Qm Q K2)) : o.wp P a w K' Q := by
 unfold Oper.wp at *
 generalize (execOp a.eval o).run P w = r at *
 cases r with
 | ok n w' =>
  cases n <;> simp only [Oper.upon] at hh ⊢
  case value u => exact h _ _ hh
  case skip => exact h _ _ hh
  case defer d => exact h _ _ hh
  case enter f args =>
   refine Calls.mono hh fun e w'' he => ?_
   cases e with
   | returned u => exact h _ _ he
   | panicked c => exact he
   | outgrown => exact he
  case row row args => exact Rows.mono hh fun u w'' he => h _ _ he
 | halt x w' =>
  cases x <;> simp only [Oper.upon] at hh ⊢
  case panic u => exact hh
def cntM (fl : List Nat) : List (List Nat × Nat) → Nat
 | [] => 0 + fl.length
 | (fs, _) :: r => cntM fl r + 1 + fs.length
theorem mix_ok (fl : List Nat) (hQ : ∀ c (a : Act) ts w, Q (.panic c) { tmps := ts, defers := a.defers } w → Q (.panic c) a w) : ∀ (r : List (List Nat × Nat)) (c : Array Bool) (a : Act) (w : World), mixB md l fl c r = true → S w → mixW P l S Q fl r a w →
  wpAnyLast P md l.toArray Q S [] (cntM fl r) c a w
 | [], c, a, w, hb, hS, h => by
  simp only [mixB] at hb
  split at hb
  ·rename_i c' hc
   exact looks_ok hQ 0 fl c c' a w _ hc hS h (fun a' ha => done_ hb ha)
  ·cases hb
 | (fs, i) :: r, c, a, w, hb, hS, h => by
  simp only [mixB] at hb
  split at hb
  ·rename_i c' hc
   simp only [Bool.and_eq_true, decide_eq_true_eq] at hb
   obtain ⟨hi, hr, hb⟩ := hb
   simp only [readyB, Bool.and_eq_true, beq_iff_eq] at hr
   refine looks_ok hQ (cntM fl r + 1) fs c c' a w _ hc hS h (fun a' ha => wpAnyLast_all hr.1 (by simp) (fun j hj => ?_))
   obtain rfl : j = i := by simpa using hj
   have ho : l.toArray[j]? = some (pickO l j) := by rw [List.getElem?_toArray]; exact pickO_get l j hi
   have hk : ∀ a'' w'', (S w'' ∧ (S w'' → mixW P l S Q fl r a'' w'')) → (j ∉ [] → S w → S w'') ∧ wpAnyLast P md l.toArray Q S [] (cntM fl r) (c'.setIfInBounds j true) a'' w'' := fun a'' w'' hh => ⟨fun _ _ => hh.1, mix_ok fl hQ r _ a'' w'' hb hh.1 (hh.2 hh.1)⟩
   unfold wpOp
   simp only [ho]
   unfold wpList at ha
   split at ha
   ·rename_i hw
    rw [if_pos hw]
    rcases ha with ha | ⟨h1, h2⟩
    ·exact .inl (wp_Qm (fun a w hh => hk a w hh) ha)
    ·exact .inr ⟨h1, h2⟩
   ·rename_i hw
    rw [if_neg hw]
    exact hk _ _ ha
  ·cases hb
/-- A region that draws its order, by a script: the looks, then what acts. -/
theorem wp_region_mix {id : Nat} {a : Act} {w : World} (S : World → Prop) (r : List (List Nat × Nat)) (fl : List Nat) (hm : P.follows .mixedOrders = true)
  (hB : (mixB .any l fl (Array.replicate l.length false) r && cntM fl r == l.length) = true) (hQ : ∀ c (a : Act) ts w, Q (.panic c) { tmps := ts, defers := a.defers } w → Q (.panic c) a w) (hS : S w.drew)
  (h : mixW P l S Q fl r a w.drew) : (Code.region id l.toArray true).wp P Q a w := by
 simp only [Bool.and_eq_true, beq_iff_eq] at hB
 refine wp_region_last (S := S) (ds := []) hm ?_
 have h1 := mix_ok (md := .any) fl hQ r _ a w.drew hB.1 hS h
 rw [hB.2] at h1
 simpa using h1
end
structure St (w0 : World) (row : Option Nat) (w : World) (bs : List (Nat × TypeId × Array Value)) : Prop where
 grown : w0.grownBy w row
 base : ∀ p ∈ bs, w0.heap.size ≤ p.1
 box : ∀ p ∈ bs, w.heap[p.1]? = some (.cells p.2.2 p.2.1 (0, 0))
 apart : (bs.map (·.1)).Nodup
theorem grown_refl (w : World) (row : Option Nat) : w.grownBy w row := ⟨rfl, rfl, rfl, Nat.le_refl _, fun _ _ _ => rfl⟩
theorem grown_trans {w0 w w1 : World} {row row1 : Option Nat} (h : w0.grownBy w row) (k : w.grownBy w1 row1) (hr : ∀ b, row1 = some b → row = some b ∨ w0.heap.size ≤ b) : w0.grownBy w1 row :=
 ⟨k.os.trans h.os, k.tape.trans h.tape, k.output.trans h.output, Nat.le_trans h.size k.size, fun i hi hne => by
  rw [k.block i (Nat.lt_of_lt_of_le hi h.size) (fun e => ?_), h.block i hi hne]
  rcases hr i e.symm with h1 | h1
  ·exact hne h1.symm
  ·omega⟩
theorem _root_.Go.World.grownBy.trans' {w0 w w1 : World} {row : Option Nat} (h : w0.grownBy w row) (k : w.grownBy w1 none) : w0.grownBy w1 row := grown_trans h k (by simp)
theorem grown_below {w w1 : World} (h : Below w.heap.size w w1) (row : Option Nat) : w.grownBy w1 row := ⟨h.os, h.tape, h.output, h.size, fun k hk _ => h.block k hk⟩
theorem below_grown {w w1 : World} (h : w.grownBy w1 none) : Below w.heap.size w w1 := ⟨h.os, h.tape, h.output, h.size, fun k hk => h.block k hk (by simp)⟩
section
variable {w0 w w1 : World} {row : Option Nat} {bs : List (Nat × TypeId × Array Value)}
theorem St.start (w : World) (row : Option Nat) : St w row w [] := ⟨grown_refl w row, by simp, by simp, by simp⟩
/-- A step that writes one row (or none): not one of the boxes. -/
theorem St.grow (h : St w0 row w bs) {row1 : Option Nat} (k : w.grownBy w1 row1) (hr : ∀ b, row1 = some b → row = some b ∨ w0.heap.size ≤ b) (hn : ∀ p ∈ bs, row1 ≠ some p.1) : St w0 row w1 bs :=
 ⟨grown_trans h.grown k hr, h.base, fun p hp => by rw [k.block p.1 (blk_lt (h.box p hp)) (fun e => hn p hp e.symm)]; exact h.box p hp, h.apart⟩
theorem St.call (h : St w0 row w bs) (k : Below w.heap.size w w1) : St w0 row w1 bs := h.grow (grown_below k none) (by simp) (by simp)
theorem St.calls (h : St w0 row w bs) (k : w.grownBy w1 none) : St w0 row w1 bs := h.grow k (by simp) (by simp)
/-- The same, told apart by the row's type. -/
theorem St.growT (h : St w0 row w bs) {row1 : Option Nat} (k : w.grownBy w1 row1) (hr : ∀ b, row1 = some b → row = some b ∨ w0.heap.size ≤ b) {e : TypeId} (ht : ∀ b, row1 = some b → ∃ cells, w.heap[b]? = some (.cells cells e (0, 0)))
  (hn : bs.all (fun p => p.2.1 != e) = true) : St w0 row w1 bs := h.grow k hr fun p hp he => by
 obtain ⟨cells, hc⟩ := ht _ he
 rw [h.box p hp] at hc
 injection hc with hc
 injection hc with _ hc _
 have := List.all_eq_true.1 hn p hp
 simp [hc] at this
theorem St.new (h : St w0 row w bs) {g : Nat} {t : TypeId} {cs : Array Value} (hg : g = w.heap.size) (hbox : w1.heap[g]? = some (.cells cs t (0, 0))) (hb : Below w.heap.size w w1) : St w0 row w1 ((g, t, cs) :: bs) := by
 have h1 := h.call hb
 refine ⟨h1.grown, fun p hp => ?_, fun p hp => ?_, ?_⟩
 ·rcases List.mem_cons.1 hp with rfl | hp
  ·rw [hg]; exact h.grown.size
  ·exact h.base p hp
 ·rcases List.mem_cons.1 hp with rfl | hp
  ·exact hbox
  ·exact h1.box p hp
 ·rw [List.map_cons, List.nodup_cons]
  refine ⟨fun hm => ?_, h.apart⟩
  obtain ⟨p, hp, he⟩ := List.mem_map.1 hm
  have := blk_lt (h.box p hp)
  simp only at he
  omega
theorem St.get (h : St w0 row w bs) (i : Nat) {g : Nat} {t : TypeId} {cs : Array Value} (hi : bs[i]? = some (g, t, cs)) : w.heap[g]? = some (.cells cs t (0, 0)) := h.box _ (List.mem_of_getElem? hi)
theorem St.cell (h : St w0 row w bs) (i : Nat) {g : Nat} {t : TypeId} {cs : Array Value} (hi : bs[i]? = some (g, t, cs)) (j : Nat) {v : Value} (hj : cs[j]? = some v) : w.cell? ⟨g, j, none⟩ = some v := (blk_cell (h.get i hi) j).trans hj
/-- A run of a box's cells is written. -/
theorem St.put (h : St w0 row w bs) (i : Nat) {g : Nat} {t : TypeId} {cs : Array Value} (hi : bs[i]? = some (g, t, cs)) (j : Nat) (seg : List Value) (hj : j + seg.length ≤ cs.size) :
  St w0 row (w.setCells g j seg) (bs.set i (g, t, (cs.toList.take j ++ seg ++ cs.toList.drop (j + seg.length)).toArray)) ∧ w.grownBy (w.setCells g j seg) (some g) := by
 have hb := h.get i hi
 obtain ⟨hl, hil⟩ := List.getElem?_eq_some_iff.1 hi
 obtain ⟨cur', h3, _, h5⟩ := setCells_row seg j w cs hb hj
 have hs := setCells_same g seg j w
 have hg : w.grownBy (w.setCells g j seg) (some g) := ⟨hs.1, hs.2.1, hs.2.2.1, by rw [hs.2.2.2]; exact Nat.le_refl _, fun k hk hne => setCells_far seg j k (fun e => hne (by rw [e]))⟩
 have e1 : cur' = (cs.toList.take j ++ seg ++ cs.toList.drop (j + seg.length)).toArray := by rw [← h5]
 have em : (bs.set i (g, t, (cs.toList.take j ++ seg ++ cs.toList.drop (j + seg.length)).toArray)).map (·.1) = bs.map (·.1) := by
  rw [List.map_set]
  apply List.ext_getElem? 
  intro k
  rw [List.getElem?_set]
  split
  ·rename_i hk
   subst hk
   simp [hl, hil]
  ·rfl
 refine ⟨⟨grown_trans h.grown hg (fun b hb' => ?_), fun p hp => ?_, fun p hp => ?_, by rw [em]; exact h.apart⟩, hg⟩
 ·injection hb' with hb'
  rw [← hb']
  exact .inr (h.base _ (List.mem_of_getElem? hi))
 ·rcases List.mem_or_eq_of_mem_set hp with hp | rfl
  ·exact h.base p hp
  ·exact h.base (g, t, cs) (List.mem_of_getElem? hi)
 ·obtain ⟨k, hk, hkp⟩ := List.getElem_of_mem hp
  rw [List.length_set] at hk
  rw [List.getElem_set] at hkp
  split at hkp
  ·subst hkp
   rw [← e1]
   exact h3
  ·rename_i hne
   subst hkp
   rw [setCells_far seg j _ (fun e => ?_)]
   ·exact h.box _ (List.getElem_mem hk)
   ·have hn := h.apart
    rw [List.Nodup, List.pairwise_iff_getElem] at hn
    have h6 : (bs.map (·.1))[k]'(by simpa using hk) = g := by rw [List.getElem_map, e]
    have h7 : (bs.map (·.1))[i]'(by simpa using hl) = g := by rw [List.getElem_map, hil]
    rcases Nat.lt_or_gt_of_ne hne with h8 | h8
    ·exact hn i k (by simpa using hl) (by simpa using hk) h8 (h7.trans h6.symm)
    ·exact hn k i (by simpa using hk) (by simpa using hl) h8 (h6.trans h7.symm)
end
section
variable {P : Program} {ops : Array Oper} {rest : List Oper} {o : Oper} {a : Act} {Q : Exit → Act → World → Prop} {w0 w : World} {row : Option Nat} {bs : List (Nat × TypeId × Array Value)}
/-- A box is made (alloc, box): arm of go_wp2_with. -/
theorem st_box (hgd : o.guard = none) {N : Tmp} (_hd : o.dst = some N) {cs : Array Value} {t : TypeId} (hrun : (execOp a.eval o).run P w = .ok (.value (.pointer (some ⟨w.heap.size, 0, none⟩))) (w.alloc (.cells cs t (0, 0)))) (hS : St w0 row w bs)
  (h : ∀ g w1, Aside0 (St w0 row w1 ((g, t, cs) :: bs)) → Aside0 (Below w.heap.size w w1 ∧ w.heap.size ≤ g) → wpList P ops Q rest (a.put o.dst (.pointer (some ⟨g, 0, none⟩))) w1) : wpList P ops Q (o :: rest) a w :=
 box_event hgd _hd hrun fun g hg w1 hbox hb => h g w1 ⟨hS.new hg hbox hb⟩ ⟨hb, Nat.le_of_eq hg.symm⟩
/-- A run of a box's cells is written: arm of go_wp2_with. -/
theorem st_store (hN : o.dst = none) (hgd : o.guard = none) (t : TypeId) (p x : Operand) (ho : o.op = .store t p x) (i : Nat) {g : Nat} {t' : TypeId} {cs : Array Value} {j : Nat} {u : Value} (seg : List Value)
  (haddr : a.eval p = .pointer (some ⟨g, j, none⟩)) (hx : a.eval x = u) (hu : u.cells.toList = seg) (ht : (P.info? t).map (·.size) = some seg.length) (h1 : seg.all (fun q => q.oneCell') = true) (hS : St w0 row w bs) (hi : bs[i]? = some (g, t', cs)) (hj : Nat.ble (j + seg.length) cs.size = true)
  (h : ∀ w1, Aside0 (St w0 row w1 (bs.set i (g, t', (cs.toList.take j ++ seg ++ cs.toList.drop (j + seg.length)).toArray))) → Aside0 (w.grownBy w1 (some g)) → wpList P ops Q rest a w1) : wpList P ops Q (o :: rest) a w := by
 have hj' := Nat.le_of_ble_eq_true hj
 obtain ⟨h2, h3⟩ := hS.put i hi j seg hj'
 have hrun := run_store_run (P := P) t u seg (hS.get i hi) hu ht hj' (List.all_eq_true.1 h1)
 refine wpList_plain hgd fun K hK => ?_
 unfold Oper.wp execOp
 simp only [ho, haddr, hx, Sem.run_bind, Sem.run_pure, Result.andThen_ok, hrun]
 show K (a.put o.dst undef) _
 rw [hN]
 exact hK a _ (h _ ⟨h2⟩ ⟨h3⟩)
end
structure Kx (X : List Nat) (w : World) where
 W : World
 size : w.heap.size ≤ W.heap.size
 same : ∀ k, k < w.heap.size → k ∉ X → W.heap[k]? = w.heap[k]?
instance kx_some (X : List Nat) (w : World) : Nonempty (Kx X w) := ⟨⟨w, Nat.le_refl _, fun _ _ _ => rfl⟩⟩
@[reducible] def KxS (X : List Nat) (w : World) (w' : World) : Prop := ∃ y : Kx X w, w' = y.W
theorem Kx.cell {X : List Nat} {w : World} (y : Kx X w) {p : Addr} {v : Value} (h : w.cell? p = some v) (hp : p.block ∉ X) : y.W.cell? p = some v := by
 rw [← h]
 exact World.cell?_of_block (y.same _ (World.block_lt_of_cell? w p h) hp)
theorem KxS.drew (X : List Nat) (w : World) : KxS X w w.drew := ⟨⟨w.drew, Nat.le_refl _, fun _ _ _ => rfl⟩, rfl⟩
theorem KxS.refl (X : List Nat) (w : World) : KxS X w w := ⟨⟨w, Nat.le_refl _, fun _ _ _ => rfl⟩, rfl⟩
theorem KxS.grow {X : List Nat} {w w1 w2 : World} (h : KxS X w w1) {row : Option Nat} (k : w1.grownBy w2 row) (hr : ∀ b, row = some b → b ∈ X ∨ w.heap.size ≤ b) : KxS X w w2 := by
 obtain ⟨y, rfl⟩ := h
 refine ⟨⟨w2, Nat.le_trans y.size k.size, fun i hi hX => ?_⟩, rfl⟩
 rw [k.block i (Nat.lt_of_lt_of_le hi y.size) (fun e => ?_), y.same i hi hX]
 rcases hr i e.symm with h1 | h1
 ·exact hX h1
 ·omega
theorem KxS.call {X : List Nat} {w w1 w2 : World} (h : KxS X w w1) (k : w1.grownBy w2 none) : KxS X w w2 := h.grow k (by simp)
theorem St.drew {w0 w : World} {row : Option Nat} {bs : List (Nat × TypeId × Array Value)} (h : St w0 row w bs) : St w0 row w.drew bs := h.call (below_drew1 (Below.refl _ _))
theorem St.ne {w0 w : World} {row : Option Nat} {bs : List (Nat × TypeId × Array Value)} (h : St w0 row w bs) (i j : Nat) {g g' : Nat} {t t' : TypeId} {cs cs' : Array Value} (hi : bs[i]? = some (g, t, cs)) (hj : bs[j]? = some (g', t', cs')) (hij : i ≠ j) : g ≠ g' := by
 intro e
 obtain ⟨h1, h2⟩ := List.getElem?_eq_some_iff.1 hi
 obtain ⟨h3, h4⟩ := List.getElem?_eq_some_iff.1 hj
 have hn := h.apart
 rw [List.Nodup, List.pairwise_iff_getElem] at hn
 have h6 : (bs.map (·.1))[i]'(by simpa using h1) = g := by rw [List.getElem_map, h2]
 have h7 : (bs.map (·.1))[j]'(by simpa using h3) = g' := by rw [List.getElem_map, h4]
 rcases Nat.lt_or_gt_of_ne hij with h8 | h8
 ·exact hn i j (by simpa using h1) (by simpa using h3) h8 (h6.trans (e.trans h7.symm))
 ·exact hn j i (by simpa using h3) (by simpa using h1) h8 (h7.trans (e.symm.trans h6.symm))
/-- A cell of the entry's world lies in none of the boxes. -/
theorem St.old {w0 w : World} {row : Option Nat} {bs : List (Nat × TypeId × Array Value)} (h : St w0 row w bs) (i : Nat) {g : Nat} {t : TypeId} {cs : Array Value} (hi : bs[i]? = some (g, t, cs)) {k : Nat} (hk : k < w0.heap.size) : k ≠ g := by
 have := h.base _ (List.mem_of_getElem? hi)
 simp only at this
 omega
theorem St.ge {w0 w : World} {row : Option Nat} {bs : List (Nat × TypeId × Array Value)} (h : St w0 row w bs) (i : Nat) {g : Nat} {t : TypeId} {cs : Array Value} (hi : bs[i]? = some (g, t, cs)) : w0.heap.size ≤ g := h.base _ (List.mem_of_getElem? hi)
theorem Kx.old {w0 w : World} {row : Option Nat} {bs : List (Nat × TypeId × Array Value)} {X : List Nat} (hS : St w0 row w bs) (hX : ∀ g ∈ X, w0.heap.size ≤ g) {p : Addr} {v : Value} (h : w0.cell? p = some v) (hr : some p.block ≠ row) (y : Kx X w) : y.W.cell? p = some v :=
 y.cell (hS.grown.cell h hr) (fun hm => by have := hX _ hm; have := World.block_lt_of_cell? w0 p h; omega)
theorem Kx.box {w0 w : World} {row : Option Nat} {bs : List (Nat × TypeId × Array Value)} {X : List Nat} (hS : St w0 row w bs) (i : Nat) {g : Nat} {t : TypeId} {cs : Array Value} (hi : bs[i]? = some (g, t, cs)) (hX : g ∉ X) (j : Nat) {v : Value} (hj : cs[j]? = some v) (y : Kx X w) : y.W.cell? ⟨g, j, none⟩ = some v := y.cell (hS.cell i hi j hj) hX
theorem mix_seg {P : Program} {l : List Oper} {S : World → Prop} {Q : Exit → Act → World → Prop} {fl fs : List Nat} {i : Nat} {r : List (List Nat × Nat)} {a : Act} {w : World}
  (h : wpQuiet P l.toArray S (fun a' => wpList P l.toArray (Qm Q fun a'' w'' => S w'' ∧ (S w'' → mixW P l S Q fl r a'' w'')) [pickO l i] a' w) (fs.map (pickO l)) a) : mixW P l S Q fl ((fs, i) :: r) a w := h
theorem mix_end {P : Program} {l : List Oper} {S : World → Prop} {Q : Exit → Act → World → Prop} {fl : List Nat} {a : Act} {w : World}
  (h : wpQuiet P l.toArray S (fun a' => Q .normal a' w) (fl.map (pickO l)) a) : mixW P l S Q fl [] a w := h
section
variable {w0 w w1 : World} {row : Option Nat} {bs : List (Nat × TypeId × Array Value)}
/-- The row that is written is elder than all boxes. -/
theorem St.growO (h : St w0 row w bs) (k : w.grownBy w1 row) (hlt : ∀ b, row = some b → b < w0.heap.size) : St w0 row w1 bs :=
 h.grow k (fun b hb => .inl hb) (fun p hp he => by have := h.base p hp; have := hlt _ he; omega)
theorem St.cells2 (h : St w0 row w bs) (i : Nat) {g : Nat} {t : TypeId} {a b : Value} (hi : bs[i]? = some (g, t, #[a, b])) : w.cell? ⟨g, 0, none⟩ = some a ∧ w.cell? ⟨g, 1, none⟩ = some b := ⟨h.cell i hi 0 rfl, h.cell i hi 1 rfl⟩
theorem St.cells3 (h : St w0 row w bs) (i : Nat) {g : Nat} {t : TypeId} {a b c : Value} (hi : bs[i]? = some (g, t, #[a, b, c])) : w.cell? ⟨g, 0, none⟩ = some a ∧ w.cell? ⟨g, 1, none⟩ = some b ∧ w.cell? ⟨g, 2, none⟩ = some c := ⟨h.cell i hi 0 rfl, h.cell i hi 1 rfl, h.cell i hi 2 rfl⟩
theorem St.cells4 (h : St w0 row w bs) (i : Nat) {g : Nat} {t : TypeId} {a b c d : Value} (hi : bs[i]? = some (g, t, #[a, b, c, d])) : w.cell? ⟨g, 0, none⟩ = some a ∧ w.cell? ⟨g, 1, none⟩ = some b ∧ w.cell? ⟨g, 2, none⟩ = some c ∧ w.cell? ⟨g, 3, none⟩ = some d := ⟨h.cell i hi 0 rfl, h.cell i hi 1 rfl, h.cell i hi 2 rfl, h.cell i hi 3 rfl⟩
theorem St.cells6 (h : St w0 row w bs) (i : Nat) {g : Nat} {t : TypeId} {a b c d e f : Value} (hi : bs[i]? = some (g, t, #[a, b, c, d, e, f])) : w.cell? ⟨g, 0, none⟩ = some a ∧ w.cell? ⟨g, 1, none⟩ = some b ∧ w.cell? ⟨g, 2, none⟩ = some c ∧ w.cell? ⟨g, 3, none⟩ = some d ∧ w.cell? ⟨g, 4, none⟩ = some e ∧ w.cell? ⟨g, 5, none⟩ = some f := ⟨h.cell i hi 0 rfl, h.cell i hi 1 rfl, h.cell i hi 2 rfl, h.cell i hi 3 rfl, h.cell i hi 4 rfl, h.cell i hi 5 rfl⟩
theorem St.cells9 (h : St w0 row w bs) (i : Nat) {g : Nat} {t : TypeId} {a b c d e f p q r : Value} (hi : bs[i]? = some (g, t, #[a, b, c, d, e, f, p, q, r])) : w.cell? ⟨g, 0, none⟩ = some a ∧ w.cell? ⟨g, 1, none⟩ = some b ∧ w.cell? ⟨g, 2, none⟩ = some c ∧ w.cell? ⟨g, 3, none⟩ = some d ∧ w.cell? ⟨g, 4, none⟩ = some e ∧ w.cell? ⟨g, 5, none⟩ = some f ∧ w.cell? ⟨g, 6, none⟩ = some p ∧ w.cell? ⟨g, 7, none⟩ = some q ∧ w.cell? ⟨g, 8, none⟩ = some r := ⟨h.cell i hi 0 rfl, h.cell i hi 1 rfl, h.cell i hi 2 rfl, h.cell i hi 3 rfl, h.cell i hi 4 rfl, h.cell i hi 5 rfl, h.cell i hi 6 rfl, h.cell i hi 7 rfl, h.cell i hi 8 rfl⟩
end
theorem St.loose {w0 w : World} {bs : List (Nat × TypeId × Array Value)} (h : St w0 none w bs) (row : Option Nat) : St w0 row w bs := ⟨⟨h.grown.os, h.grown.tape, h.grown.output, h.grown.size, fun k hk _ => h.grown.block k hk (by simp)⟩, h.base, h.box, h.apart⟩
theorem R_box {α : Type} {d : Kd α} {e : Nat} {w w1 : World} {b : Nat} {ok : Nat → Prop} {v : Value} {xs : List α} (h : d.R e w b ok v xs) {g t : Nat} {cells : Array Value} (hb : w.heap[g]? = some (.cells cells t (0, 0))) (ht : ∀ q, q ∈ e :: d.E → q ≠ t) (hg : w.grownBy w1 (some g)) : d.R e w1 b ok v xs :=
 Kd.R_mono (Kd.R_grown (Kd.R_types h hb ht) hg (fun k hk he => hk.2 (by injection he))) (fun _ hk => hk.1)
theorem St.tail {w0 w : World} {row : Option Nat} {p : Nat × TypeId × Array Value} {bs : List (Nat × TypeId × Array Value)} (h : St w0 row w (p :: bs)) : St w0 row w bs :=
 ⟨h.grown, fun q hq => h.base q (List.mem_cons_of_mem _ hq), fun q hq => h.box q (List.mem_cons_of_mem _ hq), by have := h.apart; rw [List.map_cons, List.nodup_cons] at this; exact this.2⟩
theorem S_box {α : Type} {d : Kd α} {e : Nat} {w w1 : World} {b : Nat} {ok : Nat → Prop} {v : Value} {xs : List α} (h : Kd.S d e w b ok v xs) {g t : Nat} {cells : Array Value} (hb : w.heap[g]? = some (.cells cells t (0, 0))) (ht : ∀ q, q ∈ e :: d.E → q ≠ t) (hg : w.grownBy w1 (some g)) : Kd.S d e w1 b ok v xs :=
 Kd.S_mono (Kd.S_grown (Kd.S_types h hb ht) hg (fun k hk he => hk.2 (by injection he))) (fun _ hk => hk.1)
section
variable {P : Program} {ops : Array Oper} {rest : List Oper} {o : Oper} {a : Act} {Q : Exit → Act → World → Prop} {w0 w : World} {row : Option Nat} {bs : List (Nat × TypeId × Array Value)}
theorem zM {p : Prop} (h : p) : Aside0 p := ⟨h⟩
theorem gD (N : Tmp) (_h : o.dst = some N) (h : wpList P ops Q (o :: rest) a w) : wpList P ops Q (o :: rest) a w := h
theorem gS (t : TypeId) (p : Tmp) {v : Operand} (_h : o.op = .store t (.tmp p) v) (h : wpList P ops Q (o :: rest) a w) : wpList P ops Q (o :: rest) a w := h
theorem sB (cs : Array Value) (t : TypeId) (hS : Aside0 (St w0 row w bs)) (h : ∀ g w1, Aside0 (St w0 row w1 ((g, t, cs) :: bs)) → Aside0 (Below w.heap.size w w1 ∧ w.heap.size ≤ g) → wpList P ops Q rest (a.put o.dst (.pointer (some ⟨g, 0, none⟩))) w1)
  (hrun : (execOp a.eval o).run P w = .ok (.value (.pointer (some ⟨w.heap.size, 0, none⟩))) (w.alloc (.cells cs t (0, 0))) := by first | (go_simp; done) | (go_simp; rfl)) (hgd : o.guard = none := by rfl) {N : Tmp} (hd : o.dst = some N := by rfl) : wpList P ops Q (o :: rest) a w := st_box hgd hd hrun hS.out h
theorem sS (i : Nat) (seg : List Value) (hS : Aside0 (St w0 row w bs)) {t : TypeId} {p x : Operand} {g : Nat} {t' : TypeId} {cs : Array Value} {j : Nat} {u : Value}
  (h : ∀ w1, Aside0 (St w0 row w1 (bs.set i (g, t', (cs.toList.take j ++ seg ++ cs.toList.drop (j + seg.length)).toArray))) → Aside0 (w.grownBy w1 (some g)) → wpList P ops Q rest a w1)
  (hN : o.dst = none := by rfl) (hgd : o.guard = none := by rfl) (ho : o.op = .store t p x := by rfl) (haddr : a.eval p = .pointer (some ⟨g, j, none⟩) := by rfl) (hx : a.eval x = u := by rfl) (hu : u.cells.toList = seg := by rfl) (ht : (P.info? t).map (·.size) = some seg.length := by kernel_rfl)
  (h1 : seg.all (fun q => q.oneCell') = true := by rfl) (hi : bs[i]? = some (g, t', cs) := by rfl) (hj : Nat.ble (j + seg.length) cs.size = true := by rfl) : wpList P ops Q (o :: rest) a w := st_store hN hgd t p x ho i seg haddr hx hu ht h1 hS.out hi hj h
end
end Go.Proofs.YtiopcpkfjikfdaaGreatDoorW.Mix
