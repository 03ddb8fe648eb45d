/- By hand: what the law reaches, walked as plain functions. -/
import Derived.Test.YtiopcpkfjikfdaaGreatDoorYI
set_option maxHeartbeats 8000000
set_option maxRecDepth 100000
namespace Go.Proofs.YtiopcpkfjikfdaaGreatDoor.PFnClean
open Go.RowKit Go.Proofs.YtiopcpkfjikfdaaGreatDoorW.PrintWords Go.Proofs.YtiopcpkfjikfdaaGreatDoorW.PrintLast Go.Proofs.YtiopcpkfjikfdaaGreatDoorW.PrintMore
open Go.Proofs.YtiopcpkfjikfdaaGreatDoorW.Mix
open Go.Proofs.YtiopcpkfjikfdaaGreatDoor.Mth Go.Proofs.YtiopcpkfjikfdaaGreatDoor.Str
set_option linter.unusedVariables false
set_option linter.unusedSimpArgs false
section
variable {P : Program} {l : List Oper} {S : World → Prop} {Q : Exit → Act → World → Prop} {md : Region.Mode}
def looksBL (md : Region.Mode) (l : List Oper) (ds : List Nat) (c : Array Bool) : List Nat → Option (Array Bool)
 | [] => some c
 | i :: r => if takeB md l.toArray ds c (c.setIfInBounds i true) i && (decide (i < l.length) && isLook (pickO l i)) then looksBL md l ds (c.setIfInBounds i true) r else none
theorem looks_okL {ds : List Nat} (hQ : ∀ c (a : Act) ts w, Q (.panic c) { tmps := ts, defers := a.defers } w → Q (.panic c) a w) (fuel : Nat) : ∀ (fs : List Nat) (c c' : Array Bool) (a : Act) (w : World) (K : Act → Prop), looksBL md l ds c fs = some c' → S w → wpQuiet P l.toArray S K (fs.map (pickO l)) a →
  (∀ a', K a' → wpAnyLast P md l.toArray Q S ds fuel c' a' w) → wpAnyLast P md l.toArray Q S ds (fuel + fs.length) c a w
 | [], c, c', a, w, K, hc, hS, h, hK => by
  simp only [looksBL, Option.some.injEq] at hc
  subst hc
  exact hK a h
 | i :: r, c, c', a, w, K, hc, hS, h, hK => by
  simp only [looksBL] at hc
  split at hc
  ·rename_i hb
   simp only [Bool.and_eq_true, decide_eq_true_eq] at hb
   obtain ⟨ht, hi, hl⟩ := hb
   have ho : l.toArray[i]? = some (pickO l i) := by rw [List.getElem?_toArray]; exact pickO_get l i hi
   have hgo : ∀ v, YieldsIf P l.toArray S (pickO l i) v a → wpQuiet P l.toArray S K (r.map (pickO l)) (a.put (pickO l i).dst v) → wpAnyLast P md l.toArray Q S ds (fuel + (i :: r).length) c a w := fun v hy hr => by
    rw [List.length_cons, ← Nat.add_assoc]
    exact take_ (N := (pickO l i).dst) _ ho rfl ht (fun c a w h => hQ c a _ w (by rw [put_split] at h; exact h)) hy hS rfl (looks_okL hQ fuel r _ c' _ w K hc hS hr hK)
   rw [List.map_cons] at h
   unfold wpQuiet at h
   split at h
   ·rename_i hw
    obtain ⟨v, h1, h2⟩ := h
    refine hgo v (.inl ⟨hw, fun w' hw' => ?_⟩) h2
    have h3 := h1 w' hw'
    unfold Oper.quietAt at h3
    cases hr : (execOp a.eval (pickO l i)).run P w' with
    | ok n w1 =>
     rw [hr] at h3
     obtain ⟨u, rfl⟩ := look_value hl hr
     obtain ⟨e1, e2⟩ := h3
     rw [e1, e2]
    | halt x w1 =>
     rw [hr] at h3
     exact h3.elim
   ·rename_i hw
    exact hgo undef (.inr ⟨by simpa using hw, rfl⟩) h
  ·cases hc
def mixG (P : Program) (l : List Oper) (S : World → Prop) (Q : Exit → Act → World → Prop) (E : Act → World → Prop) : List (List Nat × Nat) → Act → World → Prop
 | [], a, w => E a w
 | (fs, i) :: r, a, w => wpQuiet P l.toArray S (fun a' => wpList P l.toArray (Qm Q fun a'' w'' => S w'' ∧ (S w'' → mixG P l S Q E r a'' w'')) [pickO l i] a' w) (fs.map (pickO l)) a
def mixGB (md : Region.Mode) (l : List Oper) (ds : List Nat) (chk : Array Bool → Bool) : Array Bool → List (List Nat × Nat) → Bool
 | c, [] => chk c
 | c, (fs, i) :: r => match looksBL md l ds c fs with
  | some c' => decide (i < l.length) && (readyB md l.toArray c' (c'.setIfInBounds i true) i && mixGB md l ds chk (c'.setIfInBounds i true) r)
  | none => false
def cntG (n : Nat) : List (List Nat × Nat) → Nat
 | [] => n
 | (fs, _) :: r => cntG n r + 1 + fs.length
theorem op_ok {ds : List Nat} {fuel : Nat} {c : Array Bool} {a' : Act} {w w0 : World} {k : Nat} {K : Act → World → Prop} (hk : k < l.length) (ha : wpList P l.toArray (Qm Q K) [pickO l k] a' w)
  (hK : ∀ a'' w'', K a'' w'' → (k ∉ ds → S w0 → S w'') ∧ wpAnyLast P md l.toArray Q S ds fuel c a'' w'') : wpOp P l.toArray Q k (fun a' w' => (k ∉ ds → S w0 → S w') ∧ wpAnyLast P md l.toArray Q S ds fuel c a' w') a' w := by
 have ho : l.toArray[k]? = some (pickO l k) := by rw [List.getElem?_toArray]; exact pickO_get l k hk
 unfold wpOp
 simp only [ho]
 unfold wpList at ha
 split at ha
 ·rename_i hw
  rw [if_pos hw]
  rcases ha with ha | ⟨h1, h2⟩
  ·exact .inl (wp_Qm (fun a w hh => hK a w hh) ha)
  ·exact .inr ⟨h1, h2⟩
 ·rename_i hw
  rw [if_neg hw]
  exact hK _ _ ha
theorem Qm_self : Qm Q (Q .normal) = Q := by funext x; cases x <;> rfl
theorem mixG_ok {ds : List Nat} {chk : Array Bool → Bool} {E : Act → World → Prop} {n : Nat} (hE : ∀ c, chk c = true → ∀ a w, S w → E a w → wpAnyLast P md l.toArray Q S ds n c a w)
  (hQ : ∀ c (a : Act) ts w, Q (.panic c) { tmps := ts, defers := a.defers } w → Q (.panic c) a w) : ∀ (r : List (List Nat × Nat)) (c : Array Bool) (a : Act) (w : World), mixGB md l ds chk c r = true → S w → mixG P l S Q E r a w →
  wpAnyLast P md l.toArray Q S ds (cntG n r) c a w
 | [], c, a, w, hb, hS, h => hE c hb a w hS h
 | (fs, i) :: r, c, a, w, hb, hS, h => by
  simp only [mixGB] at hb
  split at hb
  ·rename_i c' hc
   simp only [Bool.and_eq_true, decide_eq_true_eq] at hb
   obtain ⟨hi, hr, hb⟩ := hb
   simp only [readyB, Bool.and_eq_true, beq_iff_eq] at hr
   refine looks_okL hQ (cntG n r + 1) fs c c' a w _ hc hS h (fun a' ha => wpAnyLast_all hr.1 (by simp) (fun j hj => ?_))
   obtain rfl : j = i := by simpa using hj
   exact op_ok hi ha (fun a'' w'' hh => ⟨fun _ _ => hh.1, mixG_ok hE hQ r _ a'' w'' hb hh.1 (hh.2 hh.1)⟩)
  ·cases hb
theorem wp_region_mixG {id : Nat} {a : Act} {w : World} (S : World → Prop) {ds : List Nat} {chk : Array Bool → Bool} {E : Act → World → Prop} {n : Nat} (r : List (List Nat × Nat)) (hE : ∀ c, chk c = true → ∀ a w, S w → E a w → wpAnyLast P .any l.toArray Q S ds n c a w) (hm : P.follows .mixedOrders = true)
  (hB : (mixGB .any l ds chk (Array.replicate l.length false) r && cntG n r == l.length) = true) (hQ : ∀ c (a : Act) ts w, Q (.panic c) { tmps := ts, defers := a.defers } w → Q (.panic c) a w) (hS : S w.drew)
  (h : mixG P l S Q E r a w.drew) : (Code.region id l.toArray true).wp P Q a w := by
 simp only [Bool.and_eq_true, beq_iff_eq] at hB
 refine wp_region_last (S := S) (ds := ds) hm ?_
 have h1 := mixG_ok (md := .any) hE hQ r _ a w.drew hB.1 hS h
 rw [hB.2] at h1
 simpa using h1
theorem mixL_seg {E : Act → World → Prop} {fs : List Nat} {i : Nat} {r : List (List Nat × Nat)} {a : Act} {w : World}
  (h : wpQuiet P l.toArray S (fun a' => wpList P l.toArray (Qm Q fun a'' w'' => S w'' ∧ (S w'' → mixG P l S Q E r a'' w'')) [pickO l i] a' w) (fs.map (pickO l)) a) : mixG P l S Q E ((fs, i) :: r) a w := h
/-- The last operation, e, is exempt. -/
def endL (P : Program) (l : List Oper) (S : World → Prop) (Q : Exit → Act → World → Prop) (fe : List Nat) (e : Nat) (a : Act) (w : World) : Prop := wpQuiet P l.toArray S (fun a' => wpList P l.toArray Q [pickO l e] a' w) (fe.map (pickO l)) a
def chkL (md : Region.Mode) (l : List Oper) (fe : List Nat) (e : Nat) (c : Array Bool) : Bool := match looksBL md l [e] c fe with
 | some c' => decide (e < l.length) && (readyB md l.toArray c' (c'.setIfInBounds e true) e && Region.ready md l.toArray (c'.setIfInBounds e true) == [])
 | none => false
theorem endL_ok (hQ : ∀ c (a : Act) ts w, Q (.panic c) { tmps := ts, defers := a.defers } w → Q (.panic c) a w) (fe : List Nat) (e : Nat) (c : Array Bool) (hb : chkL md l fe e c = true) (a : Act) (w : World) (hS : S w) (h : endL P l S Q fe e a w) : wpAnyLast P md l.toArray Q S [e] (1 + fe.length) c a w := by
 simp only [chkL] at hb
 split at hb
 ·rename_i c' hc
  simp only [Bool.and_eq_true, decide_eq_true_eq, beq_iff_eq] at hb
  obtain ⟨hi, hr, hb⟩ := hb
  simp only [readyB, Bool.and_eq_true, beq_iff_eq] at hr
  refine looks_okL hQ 1 fe c c' a w _ hc hS h (fun a' ha => wpAnyLast_all hr.1 (by simp) (fun j hj => ?_))
  obtain rfl : j = e := by simpa using hj
  exact op_ok (K := Q .normal) hi (by rw [Qm_self]; exact ha) (fun a'' w'' hh => ⟨fun hn => absurd (by simp) hn, done_ (by rw [hb]; rfl) hh⟩)
 ·cases hb
theorem wp_region_mixL {id : Nat} {a : Act} {w : World} (S : World → Prop) (r : List (List Nat × Nat)) (fe : List Nat) (e : Nat) (hm : P.follows .mixedOrders = true)
  (hB : (mixGB .any l [e] (chkL .any l fe e) (Array.replicate l.length false) r && cntG (1 + fe.length) r == l.length) = true) (hQ : ∀ c (a : Act) ts w, Q (.panic c) { tmps := ts, defers := a.defers } w → Q (.panic c) a w) (hS : S w.drew)
  (h : mixG P l S Q (endL P l S Q fe e) r a w.drew) : (Code.region id l.toArray true).wp P Q a w := wp_region_mixG S r (fun c hc a w hS h => endL_ok hQ fe e c hc a w hS h) hm hB hQ hS h
theorem mixL_end {fe : List Nat} {e : Nat} {a : Act} {w : World} (h : wpQuiet P l.toArray S (fun a' => wpList P l.toArray Q [pickO l e] a' w) (fe.map (pickO l)) a) : mixG P l S Q (endL P l S Q fe e) [] a w := h
/-- The same with an operation x that only looks and that may come ahead of e or behind it. -/
def endX (P : Program) (l : List Oper) (S : World → Prop) (Q : Exit → Act → World → Prop) (fe : List Nat) (e x : Nat) (a : Act) (w : World) : Prop :=
 wpQuiet P l.toArray S (fun a' => wpList P l.toArray (Qm Q fun a'' w'' => S w'' ∧ wpList P l.toArray Q [pickO l e] a'' w'') [pickO l x] a' w ∧
  wpList P l.toArray (Qm Q fun a'' w'' => wpList P l.toArray (Qm Q fun a3 w3 => w3 = w'' ∧ Q .normal a3 w3) [pickO l x] a'' w'') [pickO l e] a' w) (fe.map (pickO l)) a
def chkX (md : Region.Mode) (l : List Oper) (fe : List Nat) (e x : Nat) (c : Array Bool) : Bool := match looksBL md l [e] c fe with
 | some c' => decide (e < l.length) && decide (x < l.length) && decide (x ≠ e) && Region.ready md l.toArray c' == [x, e] && Region.ready md l.toArray (c'.setIfInBounds x true) == [e] && Region.ready md l.toArray (c'.setIfInBounds e true) == [x]
   && Region.ready md l.toArray ((c'.setIfInBounds x true).setIfInBounds e true) == [] && Region.ready md l.toArray ((c'.setIfInBounds e true).setIfInBounds x true) == []
 | none => false
theorem endX_ok (hQ : ∀ c (a : Act) ts w, Q (.panic c) { tmps := ts, defers := a.defers } w → Q (.panic c) a w) (fe : List Nat) (e x : Nat) (c : Array Bool) (hb : chkX md l fe e x c = true) (a : Act) (w : World) (hS : S w) (h : endX P l S Q fe e x a w) : wpAnyLast P md l.toArray Q S [e] (2 + fe.length) c a w := by
 simp only [chkX] at hb
 split at hb
 ·rename_i c' hc
  simp only [Bool.and_eq_true, decide_eq_true_eq, beq_iff_eq] at hb
  obtain ⟨⟨⟨⟨⟨⟨⟨he, hx⟩, hne⟩, h0⟩, h1⟩, h2⟩, h3⟩, h4⟩ := hb
  refine looks_okL hQ 2 fe c c' a w _ hc hS h (fun a' ha => wpAnyLast_all h0 (by simp) (fun j hj => ?_))
  rcases List.mem_cons.1 hj with rfl | hj
  ·exact op_ok hx ha.1 (fun a'' w'' hh => ⟨fun _ _ => hh.1, wpAnyLast_all h1 (by simp) (fun i hi => by
    obtain rfl : i = e := by simpa using hi
    exact op_ok (K := Q .normal) he (by rw [Qm_self]; exact hh.2) (fun a3 w3 h5 => ⟨fun hn => absurd (by simp) hn, done_ (by rw [h3]; rfl) h5⟩))⟩)
  ·obtain rfl : j = e := by simpa using hj
   exact op_ok he ha.2 (fun a'' w'' hh => ⟨fun hn => absurd (by simp) hn, wpAnyLast_all h2 (by simp) (fun i hi => by
    obtain rfl : i = x := by simpa using hi
    exact op_ok hx hh (fun a3 w3 h5 => ⟨fun _ hw => h5.1 ▸ hw, done_ (by rw [h4]; rfl) h5.2⟩))⟩)
 ·cases hb
theorem wp_region_mixX {id : Nat} {a : Act} {w : World} (S : World → Prop) (r : List (List Nat × Nat)) (fe : List Nat) (e x : Nat) (hm : P.follows .mixedOrders = true)
  (hB : (mixGB .any l [e] (chkX .any l fe e x) (Array.replicate l.length false) r && cntG (2 + fe.length) r == l.length) = true) (hQ : ∀ c (a : Act) ts w, Q (.panic c) { tmps := ts, defers := a.defers } w → Q (.panic c) a w) (hS : S w.drew)
  (h : mixG P l S Q (endX P l S Q fe e x) r a w.drew) : (Code.region id l.toArray true).wp P Q a w := wp_region_mixG S r (fun c hc a w hS h => endX_ok hQ fe e x c hc a w hS h) hm hB hQ hS h
theorem qm_nil {ops : Array Oper} {K : Act → World → Prop} {a : Act} {w : World} (h : K a w) : wpList P ops (Qm Q K) [] a w := h
theorem mixX_end {fe : List Nat} {e x : Nat} {a : Act} {w : World} (h : wpQuiet P l.toArray S (fun a' => wpList P l.toArray (Qm Q fun a'' w'' => S w'' ∧ wpList P l.toArray Q [pickO l e] a'' w'') [pickO l x] a' w ∧
  wpList P l.toArray (Qm Q fun a'' w'' => wpList P l.toArray (Qm Q fun a3 w3 => w3 = w'' ∧ Q .normal a3 w3) [pickO l x] a'' w'') [pickO l e] a' w) (fe.map (pickO l)) a) : mixG P l S Q (endX P l S Q fe e x) [] a w := h
end
def setI (j : Nat) (m : Int) (x : S37) : S37 := if j = 0 then { x with f0 := m } else if j = 1 then { x with f1 := m } else if j = 2 then { x with f2 := m } else if j = 7 then { x with f7 := m } else { x with f8 := m }
theorem setI_5 (j : Nat) (m : Int) (x : S37) : (setI j m x).f5 = x.f5 ∧ (setI j m x).f6 = x.f6 := by
 unfold setI
 repeat' split
 all_goals exact ⟨rfl, rfl⟩
theorem volSmall_set {l : List S37} (h : volSmall l) (i : Nat) (x : S37) (h5 : x.f5.size ≤ 1048576) (h6 : x.f6.length ≤ 1048576) (hn : ∀ d ∈ x.f6, d.f0.size ≤ 1048576) : volSmall (l.set i x) := by
 obtain ⟨a, b, c, d⟩ := h
 refine ⟨by rw [List.length_set]; exact a, fun y hy => ?_, fun y hy => ?_, fun y hy => ?_⟩ <;> rcases List.mem_or_eq_of_mem_set hy with hy | rfl
 ·exact b y hy
 ·exact h6
 ·exact c y hy
 ·exact h5
 ·exact d y hy
 ·exact hn
theorem volSmall_app {l : List S37} (h : volSmall l) (hl : l.length + 1 ≤ 1048576) (x : S37) (h5 : x.f5.size ≤ 1048576) (h6 : x.f6.length ≤ 1048576) (hn : ∀ d ∈ x.f6, d.f0.size ≤ 1048576) : volSmall (l ++ [x]) := by
 obtain ⟨a, b, c, d⟩ := h
 refine ⟨by rw [List.length_append]; exact hl, fun y hy => ?_, fun y hy => ?_, fun y hy => ?_⟩ <;> rcases List.mem_append.1 hy with hy | hy
 ·exact b y hy
 ·rw [List.mem_singleton.1 hy]; exact h6
 ·exact c y hy
 ·rw [List.mem_singleton.1 hy]; exact h5
 ·exact d y hy
 ·rw [List.mem_singleton.1 hy]; exact hn
theorem S_boxC {α : Type} {d : Kd α} {e b : Nat} {ok : Nat → Prop} {w0 we W W' : World} {g : Nat} {lc : List Int} {bs : List (Nat × TypeId × Array Value)} {v : Value} {xs : List α} (h : SC w0 g lc we W bs) (k : W.grownBy W' (some g)) (hv : Kd.S d e W b ok v xs) (ht : ∀ q, q ∈ e :: d.E → q ≠ 54 := by decide) : Kd.S d e W' b ok v xs := by
 obtain ⟨cs, hr⟩ := h.cur.row
 exact S_box hv hr ht k
theorem volSmall_setI {l : List S37} (h : volSmall l) (i : Nat) (hi : i < l.length) (j : Nat) (m : Int) : volSmall (l.set i (setI j m l[i])) := by
 have hm := List.getElem_mem hi
 exact volSmall_set h i _ (by rw [(setI_5 j m _).1]; exact h.2.2.1 _ hm) (by rw [(setI_5 j m _).2]; exact h.2.1 _ hm) (by rw [(setI_5 j m _).2]; exact h.2.2.2 _ hm)
section
variable {P : Program} {ops : Array Oper} {rest : List Oper} {o : Oper} {a : Act} {Q : Exit → Act → World → Prop} {w0 we W : World} {c : Nat} {lc : List Int} {bs : List (Nat × TypeId × Array Value)}
theorem sc_volS (hN : o.dst = none) (hgd : o.guard = none) (t : TypeId) (p x : Operand) (ho : o.op = .store t p x) {gv n cap : Nat} {l : List S37} (i j o' : Nat) (u : Value) (x' : S37) (haddr : a.eval p = .pointer (some ⟨gv, o', none⟩)) (hoff : o' = i * 9 + j) (hx : a.eval x = u)
  (hu : u.cells.toList = [u]) (ht : (P.info? t).map (·.size) = some 1) (h1 : u.oneCell' = true) (hV : VolO W (.slice (some ⟨gv, 0, none⟩) n cap) l) (hi : i < l.length) (hj : j < 9)
  (hM : ∀ (ok : Nat → Prop) (v6 : Value), Kd.R k59 59 W 0 ok v6 l[i].f6 → ∃ okp : Nat → Prop, (∀ k, okp k → ok k) ∧ k37.M W 0 okp x' ([.int .i64 l[i].f0, .int .i64 l[i].f1, .int .i64 l[i].f2, .int .i64 l[i].f3, .int .i64 l[i].f4, .string l[i].f5, v6, .int .i64 l[i].f7, .int .i64 l[i].f8].set j u))
  (hS : SC w0 c lc we W bs) (hgv : we.heap.size ≤ gv) (hn : bs.all (fun p => p.2.1 != 37) = true)
  (h : ∀ w1, Aside0 (SC w0 c lc we w1 bs) → Aside0 (VolO w1 (.slice (some ⟨gv, 0, none⟩) n cap) (l.set i x')) → Aside0 (W.grownBy w1 (some gv)) → wpList P ops Q rest a w1) : wpList P ops Q (o :: rest) a W := by
 have hnl : n = l.length := (Kd.R_reads' hV).1
 obtain ⟨ec, hcl, hM0, hcc, -⟩ := Kd.R_elem hV z37 (i : Int) (by omega) (by omega)
 rw [Int.toNat_natCast, List.getD_eq_getElem?_getD, List.getElem?_eq_getElem hi, Option.getD_some] at hM0
 obtain ⟨v6, rfl, h6⟩ := k37_openM hM0
 obtain ⟨okp, hok, hM1⟩ := hM _ v6 h6
 refine Kd.R_store k37 (w0 := W) 0 hN hgd t p x ho 37 (i : Int) j l x' u [u] _ (fun _ => True) okp haddr (by rw [hoff, Int.toNat_natCast]; rfl) hx hu ht (by simpa using h1) hV (by omega) (by omega) hcl hcc (by show j + 1 ≤ 9; omega) ?_ (fun k hk => hok k hk) (Below.refl _ _) ?_
 ·have e : ∀ (L : List Value), j < L.length → L.take j ++ [u] ++ L.drop (j + [u].length) = L.set j u := fun L hL => by
   rw [List.set_eq_take_append_cons_drop, if_pos hL]; simp
  rw [e _ (by simpa using hj)]
  exact hM1
 intro w1 hR _ hg
 rw [Int.toNat_natCast] at hR
 exact h w1 ⟨hS.growN hg (fun b hb => by injection hb with hb; rw [← hb]; exact hgv) (fun b hb => Kd.R_typed hV b (by injection hb with hb; rw [← hb]; simp [Value.ownBlock])) hn⟩ ⟨hR⟩ ⟨hg⟩
theorem sc_volI (hN : o.dst = none) (hgd : o.guard = none) (p x : Operand) (ho : o.op = .store 3 p x) {gv n cap : Nat} {l : List S37} (i j o' : Nat) (m : Int) (hj : j = 0 ∨ j = 1 ∨ j = 2 ∨ j = 7 ∨ j = 8) (haddr : a.eval p = .pointer (some ⟨gv, o', none⟩)) (hoff : o' = i * 9 + j) (hx : a.eval x = .int .i64 m)
  (ht : (P.info? 3).map (·.size) = some 1) (hV : VolO W (.slice (some ⟨gv, 0, none⟩) n cap) l) (hi : i < l.length) (hS : SC w0 c lc we W bs) (hgv : we.heap.size ≤ gv) (hn : bs.all (fun p => p.2.1 != 37) = true)
  (h : ∀ w1, Aside0 (SC w0 c lc we w1 bs) → Aside0 (VolO w1 (.slice (some ⟨gv, 0, none⟩) n cap) (l.set i (setI j m l[i]))) → Aside0 (W.grownBy w1 (some gv)) → wpList P ops Q rest a w1) : wpList P ops Q (o :: rest) a W := by
 refine sc_volS hN hgd 3 p x ho i j o' (.int .i64 m) (setI j m l[i]) haddr hoff hx rfl ht rfl hV hi (by omega) (fun ok v6 h6 => ⟨ok, fun _ h => h, ?_⟩) hS hgv hn h
 rcases hj with rfl | rfl | rfl | rfl | rfl <;> exact k37_mkM W 0 ok (setI _ m _) h6
theorem sc_volT (hN : o.dst = none) (hgd : o.guard = none) (p x : Operand) (ho : o.op = .store 9 p x) {gv n cap : Nat} {l : List S37} (i o' : Nat) (s : ByteArray) (haddr : a.eval p = .pointer (some ⟨gv, o', none⟩)) (hoff : o' = i * 9 + 5) (hx : a.eval x = .string s)
  (ht : (P.info? 9).map (·.size) = some 1) (hV : VolO W (.slice (some ⟨gv, 0, none⟩) n cap) l) (hi : i < l.length) (hS : SC w0 c lc we W bs) (hgv : we.heap.size ≤ gv) (hn : bs.all (fun p => p.2.1 != 37) = true)
  (h : ∀ w1, Aside0 (SC w0 c lc we w1 bs) → Aside0 (VolO w1 (.slice (some ⟨gv, 0, none⟩) n cap) (l.set i { l[i] with f5 := s })) → Aside0 (W.grownBy w1 (some gv)) → wpList P ops Q rest a w1) : wpList P ops Q (o :: rest) a W :=
 sc_volS hN hgd 9 p x ho i 5 o' (.string s) { l[i] with f5 := s } haddr hoff hx rfl ht rfl hV hi (by omega) (fun ok v6 h6 => ⟨ok, fun _ h => h, k37_mkM W 0 ok { l[i] with f5 := s } h6⟩) hS hgv hn h
end
theorem vol_cells {W : World} {gv n cap : Nat} {l : List S37} (hV : VolO W (.slice (some ⟨gv, 0, none⟩) n cap) l) (i : Nat) (hi : i < l.length) : W.cell? ⟨gv, i * 9 + 5, none⟩ = some (.string l[i].f5) := by
 have hnl : n = l.length := (Kd.R_reads' hV).1
 obtain ⟨ec, hcl, hM0, hcc, -⟩ := Kd.R_elem hV z37 (i : Int) (by omega) (by omega)
 rw [Int.toNat_natCast, List.getD_eq_getElem?_getD, List.getElem?_eq_getElem hi, Option.getD_some] at hM0
 obtain ⟨v6, rfl, h6⟩ := k37_openM hM0
 exact hcc 5 _ rfl
/-- An inode of a row of one's own, lent: its names' row, and the row without it. -/
theorem vol_lend {W : World} {b gv n cap : Nat} {ok : Nat → Prop} {l : List S37} (hV : Kd.S k37 37 W b ok (.slice (some ⟨gv, 0, none⟩) n cap) l) (i : Nat) (hi : i < l.length) :
  ∃ (oki : Nat → Prop) (A6 : Option Addr) (c6 : Nat), Kd.R k59 59 W b oki (.slice A6 l[i].f6.length c6) l[i].f6 ∧ W.cell? ⟨gv, i * 9 + 6, none⟩ = some (.slice A6 l[i].f6.length c6) ∧ (∀ k, oki k → (ok k ∧ k < W.heap.size) ∧ k ≠ gv) ∧ gv < W.heap.size ∧
   Kd.H k37 37 W b (fun k => ok k ∧ k < W.heap.size) (.slice (some ⟨gv, 0, none⟩) n cap) l (i : Int) oki [.int .i64 l[i].f0, .int .i64 l[i].f1, .int .i64 l[i].f2, .int .i64 l[i].f3, .int .i64 l[i].f4, .string l[i].f5, .slice A6 l[i].f6.length c6, .int .i64 l[i].f7, .int .i64 l[i].f8] := by
 have hnl : n = l.length := (Kd.S_reads' hV).1
 obtain ⟨oki, ec, hcl, hM0, hcc, hok, hH⟩ := Kd.S_lend (Kd.S_mono (Kd.S_bound hV) (ok' := fun k => ok k ∧ k < W.heap.size) (fun k hk => ⟨hk.1, hk.2.2.1⟩)) z37 (i : Int) (by omega) (by omega)
 rw [Int.toNat_natCast, List.getD_eq_getElem?_getD, List.getElem?_eq_getElem hi, Option.getD_some] at hM0
 obtain ⟨v6, rfl, h6⟩ := k37_openM hM0
 obtain ⟨A6, c6, rfl⟩ := Kd.R_slice h6
 exact ⟨oki, A6, c6, h6, hcc 6 _ rfl, fun k hk => hok k hk, Kd.S_lt hV gv (by simp [Value.ownBlock]), hH⟩
section
variable {P : Program} {ops : Array Oper} {rest : List Oper} {o : Oper} {a : Act} {Q : Exit → Act → World → Prop} {w0 we W : World} {c : Nat} {lc : List Int} {bs : List (Nat × TypeId × Array Value)}
theorem H_below {α : Type} {d : Kd α} {e b : Nat} {ok oki : Nat → Prop} {w1 : World} {v : Value} {xs : List α} {i : Int} {cs : List Value} (h : Kd.H d e W b ok v xs i oki cs) (hb : Below W.heap.size W w1) : Kd.H d e w1 b ok v xs i oki cs := Kd.H_grown h (grown_below hb none) (fun k hk => by cases hk)
/-- The lent inode gets other names. -/
theorem sc_namS (hN : o.dst = none) (hgd : o.guard = none) (p x : Operand) (ho : o.op = .store 35 p x) {gv n cap kn o' b N n6 c6 n1 c1 : Nat} {A6 A1 : Option Addr} {l : List S37} {oki : Nat → Prop} {y : S37} {ns : List S59} (haddr : a.eval p = .pointer (some ⟨gv, o', none⟩)) (hoff : o' = kn * 9 + 6)
  (hx : a.eval x = .slice A1 n1 c1) (ht : (P.info? 35).map (·.size) = some 1) (hH : Kd.H k37 37 W b (fun k => k < N) (.slice (some ⟨gv, 0, none⟩) n cap) l (kn : Int) oki [.int .i64 y.f0, .int .i64 y.f1, .int .i64 y.f2, .int .i64 y.f3, .int .i64 y.f4, .string y.f5, .slice A6 n6 c6, .int .i64 y.f7, .int .i64 y.f8])
  (hi : kn < n) (hgN : gv < N) (hR : Kd.R k59 59 W b (fun k => oki k ∨ N ≤ k) (.slice A1 n1 c1) ns) (hS : SC w0 c lc we W bs) (hgv : we.heap.size ≤ gv) (hn : bs.all (fun p => p.2.1 != 37) = true)
  (h : ∀ w1, Aside0 (SC w0 c lc we w1 bs) → Aside0 (VolO w1 (.slice (some ⟨gv, 0, none⟩) n cap) (l.set kn { y with f6 := ns })) → wpList P ops Q rest a w1) : wpList P ops Q (o :: rest) a W := by
 subst hoff
 obtain ⟨hcc, -⟩ := Kd.H_at hH (by omega) (by omega)
 have hty : ∃ cells, W.heap[gv]? = some (.cells cells 37 (0, 0)) := by
  obtain ⟨_, f, hr⟩ := hH
  exact Kd.R_typed hr gv (by simp [Value.ownBlock])
 obtain ⟨hS2, hg⟩ := Kd.S_seg (okg := fun k => N ≤ k) (okp := fun k => oki k ∨ N ≤ k) (ok := fun _ => True) (seg := [.slice A1 n1 c1]) (j := 6) (x' := { y with f6 := ns }) (Kd.H_mono hH (fun k hk => ⟨trivial, by omega⟩)) (by omega) (by omega) (by show 6 + 1 ≤ 9; omega) (k37_mkM W b (fun k => oki k ∨ N ≤ k) { y with f6 := ns } hR) (fun k hk => hk) (fun k hk => ⟨trivial, by omega⟩)
 rw [Int.toNat_natCast] at hS2 hg
 obtain ⟨cells, hb⟩ := hty
 have hc6 : W.cell? ⟨gv, kn * 9 + 6, none⟩ = some (.slice A6 n6 c6) := by
  have := hcc 6 _ rfl
  rw [Int.toNat_natCast] at this
  exact this
 have hsz : kn * 9 + 6 + 1 ≤ cells.size := by
  rw [blk_cell hb] at hc6
  have := (Array.getElem?_eq_some_iff.1 hc6).1
  omega
 have hrun := run_store_run (P := P) 35 (.slice A1 n1 c1) [.slice A1 n1 c1] hb (by rfl) ht hsz (by simp [Value.oneCell'])
 refine wpList_plain hgd fun K hK => ?_
 unfold Oper.wp execOp
 simp only [ho, haddr, hx, Sem.run_bind, Sem.run_pure, Result.andThen_ok, hrun]
 show K (a.put o.dst undef) _
 rw [hN]
 exact hK a _ (h _ ⟨hS.growN hg (fun b hb => by injection hb with hb; rw [← hb]; exact hgv) (fun b hb' => by injection hb' with hb'; rw [← hb']; exact ⟨cells, hb⟩) hn⟩ ⟨Kd.R_lower (Kd.S_R hS2) (Nat.zero_le _)⟩)
end
theorem root_small : volSmall [root0] := ⟨by simp, by intro x hx; obtain rfl : x = root0 := (by simpa using hx); simp [root0] <;> decide, by intro x hx; obtain rfl : x = root0 := (by simpa using hx); simp [root0] <;> decide, by intro x hx; obtain rfl : x = root0 := (by simpa using hx); simp [root0] <;> decide⟩
def CallD (w0 w : World) (g : Nat) (lc : List Int) (e : Ending) (w' : World) : Prop := ∃ (kd n m : Int) (p q d : ByteArray), e = .returned (.agg #[.int .i64 kd, .string p, .string q, .int .i64 n, .int .i64 m, .string d]) ∧ Cur w0 w' g lc ∧ w.grownBy w' (some g)
theorem call7_any {w0 w : World} {g : Nat} {lc : List Int} (hc : Cur w0 w g lc) : Calls Tryz.prog 65 #[.pointer (some ⟨g, 0, none⟩)] w (CallD w0 w g lc) := by
 have hu98 := Tryz.underlying98
 have HS := zM (SC.start hc)
 clear hc
 go_enter Tryz.func65, Tryz.ntmps65
 go_wp2_with (first | ((with_reducible refine gD 2 rfl ?_); refine cB #[.int .i64 0, .string ⟨#[]⟩, .string ⟨#[]⟩, .int .i64 0, .int .i64 0, .string ⟨#[]⟩] 98 HS ?_; clear HS; intro g2 w2 HS _) | (go_at_call 63; refine (new_any _).mono ?_; rintro e w3 ⟨v3, rfl, hv, -, hb⟩; have HV := zM hv; replace HS := zM (HS.out.calls hb); clear hv hb) | (go_at_call 90; refine (callon_any HS.out.cur 2 v3 [root0] HV.out root_small).mono ?_; rintro e w5 ⟨kd, n, m, p, q, d, rfl, hc, hb⟩; replace HS := zM (HS.out.draw hb hc); clear hc hb; obtain ⟨p0, p1, p2, p3, p4, p5⟩ := HS.out.cells6 0 rfl) | ((with_reducible refine gS 98 2 rfl ?_); refine cS 0 [.int .i64 kd, .string p, .string q, .int .i64 n, .int .i64 m, .string d] HS ?_; clear HS; intro w6 HS _))
 refine cC 0 HS ?_
 unfold CallD
 exact ⟨_, _, _, _, _, _, rfl, HS.out.cur, HS.out.st.grown⟩
theorem root_mode (m : Int) : WfD 2 ([root0].set 0 (setI 2 m [root0][0])) ∧ Sz 1 ([root0].set 0 (setI 2 m [root0][0])) := by
 have e : [root0].set 0 (setI 2 m [root0][0]) = [{ root0 with f2 := m }] := rfl
 rw [e]
 constructor
 ·refine ⟨by decide, by simp, ?_, ⟨{ root0 with f2 := m }, by simp, rfl⟩, ?_, ?_, ?_, ?_, ?_, ?_⟩ <;> intro x hx <;> (obtain rfl : x = { root0 with f2 := m } := by simpa using hx) <;> simp [root0] <;> decide
 ·refine ⟨by simp, ?_, ?_, ?_⟩ <;> intro x hx <;> (obtain rfl : x = { root0 with f2 := m } := by simpa using hx) <;> simp [root0] <;> decide
def VolD (w0 w : World) (g : Nat) (lc : List Int) (e : Ending) (w' : World) : Prop := ∃ (nx : Int) (v : Value) (l : List S37), e = .returned (.agg #[.int .i64 nx, v]) ∧ Kd.S k37 37 w' w.heap.size (fun _ => True) v l ∧ 0 < l.length ∧ Sz 2000 l ∧ Cur w0 w' g lc ∧ w.grownBy w' (some g)
theorem vol4_any {w0 w : World} {g : Nat} {lc : List Int} (hc : Cur w0 w g lc) (m : Int) (hm : 1 ≤ m ∧ m ≤ 1000) : Calls Tryz.prog 25 #[.pointer (some ⟨g, 0, none⟩), .int .i64 m] w (VolD w0 w g lc) := by
 have hu26 := Tryz.underlying26
 have hu37 := Tryz.underlying37
 have HS := zM (SC.start hc)
 clear hc
 go_enter Tryz.func25, Tryz.ntmps25
 go_upto_region 2 with (first | ((with_reducible refine gD 4 rfl ?_); refine cB #[.int .i64 0, .slice none 0 0] 26 HS ?_; clear HS; intro g4 w4 HS _) | (go_at_call 63; refine (new_any _).mono ?_; rintro e w3 ⟨v3, rfl, hv, hf, hb⟩; obtain ⟨gv, c3, rfl, -, -, -⟩ := Kd.R_form hv (by decide); have Hgv := zM (Nat.le_trans HS.out.st.grown.size (hf gv (by simp [Value.ownBlock]))); have HV := zM hv; replace HS := zM (HS.out.calls hb); clear hv hf hb) | ((with_reducible refine gD 5 rfl ?_); refine cB #[.int .i64 0, .slice none 0 0] 26 HS ?_; intro g5 w5 n0_ n1_; replace HV := zM (Kd.R_below HV.out n1_.out.1); clear HS; have HS := n0_; clear n0_ n1_) | ((with_reducible refine gS 26 5 rfl ?_); refine cS 0 [.int .i64 2, .slice (some ⟨gv, 0, none⟩) 1 c3] HS ?_; intro w6 n0_ n1_; replace HV := zM (R_box HV.out (HS.out.get 0 rfl) (by decide) n1_.out); clear HS; have HS := n0_; clear n0_ n1_))
 have hne_ : g5 ∉ [g] := by simpa using HS.out.neC 0 rfl
 have hz0 := Kx.box HS.out.st 0 rfl hne_ 0 rfl
 have hz1 := Kx.box HS.out.st 0 rfl hne_ 1 rfl
 clear hne_
 try simp only [Act.put, List.setIfInBounds_toArray, List.set_cons_zero, List.set_cons_succ]
 refine wp_region_mixL (KxS [g] w6) [([0, 1, 2], 3), ([], 4)] [5, 6] 7 (by kernel_rfl) (by kernel_rfl) (fun _ _ _ _ h => h) (KxS.drew _ _) ?_
 have hK := KxS.drew [g] w6
 replace HS := zM (HS.out.drew)
 replace HV := zM (Kd.R_below HV.out (below_drew1 (Below.refl _ _)))
 refine mixL_seg ?_
 simp only [pickO, List.map]
 repeat (go_big_quiet_step (fail))
 refine wpQuiet_nil ?_
 refine sc_lit (Kd.int .i64) 3 rfl (N := 11) rfl (xs := ([511, 511, 493, 1023, 2047] : List Int)) (inner := [.int .i64 511, .int .i64 511, .int .i64 493, .int .i64 1023, .int .i64 2047]) ?b2 (reps_ints _ _ _ _) (by simp) HS.out ?_; (case b2 => first | (go_simp; done) | (go_simp; rfl)); intro Am cm w7 n0_ HL_ hgl_; replace HV := zM (Kd.R_below HV.out (below_grown hgl_.out)); clear HS; have HS := n0_; clear n0_; have HG := hgl_; clear hgl_
 refine ⟨hK.grow HG.out (by simp), fun hK => ?_⟩
 clear HG
 refine mixL_seg ?_
 simp only [pickO, List.map]
 repeat (go_big_quiet_step (fail))
 refine wpQuiet_nil ?_
 go_wp2_with (first | (go_at_call 27; refine (drInts_any HS.out.cur HL_.out (by simp)).mono ?_; rintro e w8 ⟨md, rfl, hc, hb⟩; have HG := zM hb; have n0_ := zM (HS.out.draw hb hc); have n1_ := zM (HS.out.growV hb HV.out); clear HS HV; have HS := n0_; have HV := n1_; clear n0_ n1_; clear hc hb; clear HL_))
 refine ⟨hK.grow HG.out (by simp), fun hK => ?_⟩
 clear HG
 refine mixL_end ?_
 try simp only [Act.put, List.setIfInBounds_toArray, List.set_cons_zero, List.set_cons_succ]
 simp only [pickO, List.map]
 repeat (go_big_quiet_step (fail))
 refine wpQuiet_nil ?_
 refine sc_volI rfl rfl (.tmp 14) (.tmp 12) rfl 0 2 _ md (by simp) rfl rfl rfl (by kernel_rfl) HV.out (by decide) HS.out Hgv.out rfl ?_; intro w9 n0_ n1_ _; clear HS HV; have HS := n0_; have HV := n1_; clear n0_ n1_
 have HW := zM (root_mode md)
 generalize [root0].set 0 (setI 2 md [root0][0]) = l0 at HV HW
 go_wp2_with (first | (go_at_call 26; (with_reducible refine (drBelow_any HS.out.cur _).mono ?_); rintro e w10 ⟨n6, rfl, hvn6, hc, hb⟩; have n0_ := zM (HS.out.draw hb hc); have n1_ := zM (HS.out.growV hb HV.out); clear HS HV; have HS := n0_; have HV := n1_; clear n0_ n1_; clear hc hb))
 obtain ⟨K, hKn⟩ := Int.eq_ofNat_of_zero_le hvn6.1
 have HKm := zM (show K ≤ 1000 from by have := hvn6.2.1 (by omega); omega)
 go_loopg [6] K (fun kq v6 w' => ∃ (nx : Int) (v : Value) (l : List S37) (x : Int), v6 = .int .i64 x ∧ Aside0 (x = (kq : Int) ∧ kq ≤ K) ∧ Aside0 (VolO w' v l) ∧ Aside0 (WfD nx l ∧ Sz (1 + (K - kq)) l) ∧ Aside0 (SC w0 g lc w w' [(g5, 26, #[.int .i64 nx, v]), (g4, 26, #[.int .i64 0, .slice none 0 0])]))
 case atStart => exact ⟨2, _, l0, n6, rfl, ⟨hKn, Nat.le_refl _⟩, HV, ⟨HW.out.1, by rw [Nat.sub_self]; exact HW.out.2⟩, HS⟩
 case round =>
  clear HS HV HW hKn hvn6
  obtain ⟨nx, v, l, x, rfl, HX, HV, HW, HS⟩ := hrel
  obtain ⟨w11, hw_⟩ : ∃ q, q = wr := ⟨_, rfl⟩
  subst hw_
  obtain ⟨q0, q1⟩ := HS.out.cells2 0 rfl
  obtain ⟨A, c, rfl, -, -⟩ := HV.out.reads
  cases gk with
  | zero =>
   have hp : decide ((0 : Int) < x) = false := decide_eq_false (by have := HX.out.1; omega)
   have HSm := zM (HW.out.2.small (by have := HKm.out; omega))
   go_wp2_with (first | (go_at_call 66; refine (copy_any _ nx _ l HV.out HSm.out).mono ?_; rintro e w12 ⟨vy, rfl, hY, hb⟩; obtain ⟨Ay, cy, rfl⟩ := Kd.S_slice hY; have HY := zM (Kd.S_lower hY HS.out.st.grown.size); replace HS := zM (HS.out.calls hb); clear hY hb; clear q0 q1; obtain ⟨q0, q1⟩ := HS.out.cells2 1 rfl) | ((with_reducible refine gS 26 4 rfl ?_); refine cS 1 [.int .i64 nx, .slice Ay l.length cy] HS ?_; intro w13 n0_ n1_; replace HY := zM (S_box HY.out (HS.out.get 1 rfl) (by decide) n1_.out); clear HS; have HS := n0_; clear n0_ n1_))
   refine cC 1 HS ?_
   unfold VolD
   obtain ⟨y, hy, -⟩ := HW.out.1.root
   exact ⟨_, _, l, rfl, HY.out, List.length_pos_of_mem hy, HW.out.2.mono (by have := HKm.out; omega), HS.out.cur, HS.out.st.grown⟩
  | succ k1 =>
   have hp : (0 : Int) < x := by have := HX.out.1; omega
   have hw2 : wrap64 (x - 1) = x - 1 := by have := HX.out; have := HKm.out; exact w64 (by omega) (by omega)
   go_upto_region 6 with (fail)
   clear q0 q1
   have hne_ : g5 ∉ [g] := by simpa using HS.out.neC 0 rfl
   have hz0 := Kx.box HS.out.st 0 rfl hne_ 0 rfl
   have hz1 := Kx.box HS.out.st 0 rfl hne_ 1 rfl
   clear hne_
   try simp only [Act.put, List.setIfInBounds_toArray, List.set_cons_zero, List.set_cons_succ]
   refine wp_region_mixX (KxS [g] w11) [([0, 1, 3], 2), ([], 4), ([], 5)] [6, 7] 9 8 (by kernel_rfl) (by kernel_rfl) (fun _ _ _ _ h => h) (KxS.drew _ _) ?_
   have hK := KxS.drew [g] w11
   replace HS := zM (HS.out.drew)
   replace HV := zM (Kd.R_below HV.out (below_drew1 (Below.refl _ _)))
   refine mixL_seg ?_
   simp only [pickO, List.map]
   repeat (go_big_quiet_step (fail))
   refine wpQuiet_nil ?_
   go_wp2_with (go_at_call 29; refine (cred5_any HS.out.cur).mono ?_; rintro e w12 hq; unfold CredD at hq; obtain ⟨u, d, Ag, cg, gs, rfl, -, hR, hc, hb⟩ := hq; have HR := zM hR; have HG := zM hb; have n0_ := zM (HS.out.growV hb HV.out); have n1_ := zM (HS.out.draw hb hc); clear HV HS; have HV := n0_; have HS := n1_; clear n0_ n1_; clear hR hc hb)
   refine ⟨hK.grow HG.out (by simp), fun hK => ?_⟩
   clear HG
   refine mixL_seg ?_
   simp only [pickO, List.map]
   repeat (go_big_quiet_step (fail))
   refine wpQuiet_nil ?_
   go_wp2_with (go_at_call 65; refine (call7_any HS.out.cur).mono ?_; rintro e w13 hq; unfold CallD at hq; obtain ⟨kd, n, m', p, q, dt, rfl, hc, hb⟩ := hq; have HG := zM hb; have n0_ := zM (HS.out.growR hb HR.out (by decide)); have n1_ := zM (HS.out.growV hb HV.out); have n2_ := zM (HS.out.draw hb hc); clear HR HV HS; have HR := n0_; have HV := n1_; have HS := n2_; clear n0_ n1_ n2_; clear hc hb)
   refine ⟨hK.grow HG.out (by simp), fun hK => ?_⟩
   clear HG
   refine mixL_seg ?_
   simp only [pickO, List.map]
   repeat (go_big_quiet_step (fail))
   refine wpQuiet_nil ?_
   go_wp2_with (go_at_call 64; refine (do_any _ nx _ l _ HV.out HW.out.2 (by have := HKm.out; omega) HW.out.1 u d Ag cg gs ⟨(Kd.R_reads' HR.out).2.2, (Kd.R_reads' HR.out).2.1⟩ kd p q dt n m').mono ?_; rintro e w14 hq; unfold DoP at hq; obtain ⟨nx2, v2, l2, r2, s2, rfl, hv2, hw2', hz2, hb⟩ := hq; obtain ⟨A2, c2, rfl, -, -⟩ := hv2.reads; have HG := zM hb; replace HS := zM (HS.out.calls hb); clear hb HV; have HV := zM hv2; have HW2 := zM (And.intro hw2' hz2); clear hv2 hw2' hz2)
   refine ⟨hK.grow HG.out (by simp), fun hK => ?_⟩
   clear HG
   refine mixX_end ?_
   simp only [pickO, List.map]
   repeat (go_big_quiet_step (fail))
   refine wpQuiet_nil ?_
   refine ⟨?_, ?_⟩
   ·go_wp2
    refine ⟨hK, ?_⟩
    refine cS 0 [.int .i64 nx2, .slice A2 l2.length c2] HS ?_; intro w15 n0_ n1_; replace HV := zM (R_box HV.out (HS.out.get 0 rfl) (by decide) n1_.out); clear HS; have HS := n0_; clear n0_ n1_
    go_wp2
    go_roundg k1
    case measure => omega
    case rel => exact ⟨nx2, _, l2, x - 1, by first | rfl | rw [hw2], ⟨by have := HX.out; omega, by have := HX.out; omega⟩, HV, ⟨HW2.out.1, HW2.out.2.mono (by have := HX.out; omega)⟩, HS⟩
   ·refine cS 0 [.int .i64 nx2, .slice A2 l2.length c2] HS ?_; intro w15 n0_ n1_; replace HV := zM (R_box HV.out (HS.out.get 0 rfl) (by decide) n1_.out); clear HS; have HS := n0_; clear n0_ n1_
    refine qm_nil ?_
    go_wp2
    (try refine ⟨rfl, ?_⟩)
    go_wp2
    go_roundg k1
    case measure => omega
    case rel => exact ⟨nx2, _, l2, x - 1, by first | rfl | rw [hw2], ⟨by have := HX.out; omega, by have := HX.out; omega⟩, HV, ⟨HW2.out.1, HW2.out.2.mono (by have := HX.out; omega)⟩, HS⟩
def AnyD (w0 w : World) (g : Nat) (lc : List Int) (e : Ending) (w' : World) : Prop := ∃ (nx : Int) (A : Option Addr) (c : Nat) (l : List S37), e = .returned (.agg #[.int .i64 nx, .slice A l.length c]) ∧ VolO w' (.slice A l.length c) l ∧ volSmall l ∧ Cur w0 w' g lc ∧ w.grownBy w' (some g)
theorem anyv_any {w0 w : World} {g : Nat} {lc : List Int} (hc : Cur w0 w g lc) (m0 : Int) (hm : 1 ≤ m0 ∧ m0 ≤ 1000) : Calls Tryz.prog 10 #[.pointer (some ⟨g, 0, none⟩), .int .i64 m0] w (AnyD w0 w g lc) := by
 have hu26 := Tryz.underlying26
 have hu37 := Tryz.underlying37
 have hu24 := Tryz.underlying24
 have hu35 := Tryz.underlying35
 have HS := zM (SC.start hc)
 clear hc
 go_enter Tryz.func10, Tryz.ntmps10
 go_upto_if 12 with (first | ((with_reducible refine gD 4 rfl ?_); refine cB #[.int .i64 0, .slice none 0 0] 26 HS ?_; clear HS; intro g4 w4 HS _) | (go_at_call 25; refine (vol4_any HS.out.cur m0 hm).mono ?_; rintro e w9 hq; unfold VolD at hq; obtain ⟨nx, vq, l, rfl, hY, hpos, hz, hc, hb⟩ := hq; obtain ⟨gv, cv, rfl, hgv, -, -⟩ := Kd.S_form hY hpos; have Hgv := zM (Nat.le_trans HS.out.st.grown.size hgv); have HY := zM (Kd.S_lower hY HS.out.st.grown.size); have HZ := zM hz; have HP := zM hpos; replace HS := zM (HS.out.draw hb hc); clear hY hpos hz hc hb hgv) | ((with_reducible refine gD 5 rfl ?_); refine cB #[.int .i64 0, .slice none 0 0] 26 HS ?_; intro g5 w5 n0_ n1_; replace HY := zM (Kd.S_below HY.out n1_.out.1); clear HS; have HS := n0_; clear n0_ n1_) | ((with_reducible refine gS 26 5 rfl ?_); refine cS 0 [.int .i64 nx, .slice (some ⟨gv, 0, none⟩) l.length cv] HS ?_; intro w6 n0_ n1_; replace HY := zM (S_box HY.out (HS.out.get 0 rfl) (by decide) n1_.out); clear HS; have HS := n0_; clear n0_ n1_) | (go_at_call 14; (with_reducible refine (drOnce_any HS.out.cur _).mono ?_); rintro e w7 ⟨o1, rfl, hc, hb⟩; replace HY := zM (S_boxC HS.out hb HY.out); replace HS := zM (HS.out.draw hb hc); clear hc hb))
 obtain ⟨z0, z1⟩ := HS.out.cells2 0 rfl; obtain ⟨y0, y1⟩ := HS.out.cells2 1 rfl
 cases o1
 case false =>
  go_wp2_with (first | ((with_reducible refine gS 26 4 rfl ?_); refine cS 1 [.int .i64 nx, .slice (some ⟨gv, 0, none⟩) l.length cv] HS ?_; intro w8 n0_ n1_; replace HY := zM (S_box HY.out (HS.out.get 1 rfl) (by decide) n1_.out); clear HS; have HS := n0_; clear n0_ n1_))
  refine cC 1 HS ?_
  unfold AnyD
  exact ⟨_, _, _, l, rfl, Kd.R_lower (Kd.S_R HY.out) (Nat.zero_le _), HZ.out.small (by decide), HS.out.cur, HS.out.st.grown⟩
 clear y0 y1
 go_upto_region 5 with (first | (go_at_call 26; (with_reducible refine (drBelow_any HS.out.cur _).mono ?_); rintro e w9 ⟨k, rfl, hvk, hc, hb⟩; replace HY := zM (S_boxC HS.out hb HY.out); replace HS := zM (HS.out.draw hb hc); clear hc hb; clear z0 z1; obtain ⟨z0, z1⟩ := HS.out.cells2 0 rfl))
 obtain ⟨kn, rfl⟩ := Int.eq_ofNat_of_zero_le hvk.1
 have hkn : kn < l.length := by have := hvk.2.1 (by have := HP.out; omega); omega
 have hkni : (kn : Int) < (l.length : Int) := by omega
 clear hvk z0 z1
 go_upto_block 0 with (first | (go_at_call 26; (with_reducible refine (drBelow_any HS.out.cur _).mono ?_); rintro e w10 ⟨sw, rfl, hvsw, hc, hb⟩; replace HY := zM (S_boxC HS.out hb HY.out); replace HS := zM (HS.out.draw hb hc); clear hc hb))
 clear hvsw
 try simp only [Act.put, List.setIfInBounds_toArray, List.set_cons_zero, List.set_cons_succ]
 go_cut [] (fun w' => ∃ (nx : Int) (v : Value) (l : List S37), Aside0 (VolO w' v l) ∧ Aside0 (volSmall l) ∧ Aside0 (SC w0 g lc w w' [(g5, 26, #[.int .i64 nx, v]), (g4, 26, #[.int .i64 0, .slice none 0 0])]))
 case first =>
  obtain ⟨w11, hw_⟩ : ∃ q, q = w10 := ⟨_, rfl⟩
  subst hw_
  have HV := zM (show VolO w11 (.slice (some ⟨gv, 0, none⟩) l.length cv) l from Kd.R_lower (Kd.S_R HY.out) (Nat.zero_le _))
  cases c0 : (sw == 0)
  case true =>
   go_wp2_with (first | ((with_reducible refine gD 31 rfl ?_); refine sc_lit (Kd.int .i64) 3 rfl (N := 31) rfl (xs := ([0, 1, 2, 100000, 100001] : List Int)) (inner := [.int .i64 0, .int .i64 1, .int .i64 2, .int .i64 100000, .int .i64 100001]) ?b2 (reps_ints _ _ _ _) (by simp) HS.out ?_; (case b2 => first | (go_simp; done) | (go_simp; rfl)); intro Am cm w12 n0_ HL_ hgl_; replace HV := zM (Kd.R_below HV.out (below_grown hgl_.out)); clear HS; have HS := n0_; clear n0_; clear hgl_) | (go_at_call 27; refine (drInts_any HS.out.cur HL_.out (by simp)).mono ?_; rintro e w13 ⟨m, rfl, hc, hb⟩; have n0_ := zM (HS.out.draw hb hc); have n1_ := zM (HS.out.growV hb HV.out); clear HS HV; have HS := n0_; have HV := n1_; clear n0_ n1_; clear hc hb; clear HL_) | ((with_reducible refine gate_store (t := 3) rfl ?_); refine cS 0 [.int .i64 _] HS ?_; intro wS_ n0_ n1_; replace HV := zM (R_box HV.out (HS.out.get 0 rfl) (by decide) n1_.out); clear HS; have HS := n0_; clear n0_ n1_))
   go_meet
   case rel => exact ⟨_, _, l, HV, ⟨HZ.out.small (by decide)⟩, HS⟩
  cases c1 : (sw == 1)
  case true =>
   go_upto_region 10 with (fail)
   have hne_ : g5 ∉ [g] := by simpa using HS.out.neC 0 rfl
   have hz0 := Kx.box HS.out.st 0 rfl hne_ 0 rfl
   have hz1 := Kx.box HS.out.st 0 rfl hne_ 1 rfl
   clear hne_
   try simp only [Act.put, List.setIfInBounds_toArray, List.set_cons_zero, List.set_cons_succ]
   refine wp_region_mixL (KxS [g] w11) [([0, 1, 2, 3], 4)] [5, 6] 7 (by kernel_rfl) (by kernel_rfl) (fun _ _ _ _ h => h) (KxS.drew _ _) ?_
   have hK := KxS.drew [g] w11
   replace HS := zM (HS.out.drew)
   replace HV := zM (Kd.R_below HV.out (below_drew1 (Below.refl _ _)))
   refine mixL_seg ?_
   simp only [pickO, List.map]
   repeat (go_big_quiet_step (fail))
   refine wpQuiet_nil ?_
   go_wp2_with (first | (go_at_call 26; (with_reducible refine (drBelow_any HS.out.cur _).mono ?_); rintro e w12 ⟨m, rfl, hvm, hc, hb⟩; have HG := zM hb; have n0_ := zM (HS.out.draw hb hc); have n1_ := zM (HS.out.growV hb HV.out); clear HS HV; have HS := n0_; have HV := n1_; clear n0_ n1_; clear hc hb))
   refine ⟨hK.grow HG.out (by simp), fun hK => ?_⟩
   clear HG
   refine mixL_end ?_
   try simp only [Act.put, List.setIfInBounds_toArray, List.set_cons_zero, List.set_cons_succ]
   simp only [pickO, List.map]
   repeat (go_big_quiet_step (fail))
   refine wpQuiet_nil ?_
   refine sc_volI rfl rfl (.tmp 42) (.tmp 40) rfl kn 1 _ m (by simp) rfl rfl rfl (by kernel_rfl) HV.out hkn HS.out Hgv.out rfl ?_; intro w14 n0_ n1_ _; clear HS HV; have HS := n0_; have HV := n1_; clear n0_ n1_
   go_wp2
   go_meet
   case rel => exact ⟨nx, _, _, HV, ⟨volSmall_setI (HZ.out.small (by decide)) kn hkn _ _⟩, HS⟩
  cases c2 : (sw == 2)
  case true =>
   go_upto_region 12 with (fail)
   have hne_ : g5 ∉ [g] := by simpa using HS.out.neC 0 rfl
   have hz0 := Kx.box HS.out.st 0 rfl hne_ 0 rfl
   have hz1 := Kx.box HS.out.st 0 rfl hne_ 1 rfl
   clear hne_
   try simp only [Act.put, List.setIfInBounds_toArray, List.set_cons_zero, List.set_cons_succ]
   refine wp_region_mixL (KxS [g] w11) [([0, 1, 2, 3], 4), ([], 5)] [6, 7] 8 (by kernel_rfl) (by kernel_rfl) (fun _ _ _ _ h => h) (KxS.drew _ _) ?_
   have hK := KxS.drew [g] w11
   replace HS := zM (HS.out.drew)
   replace HV := zM (Kd.R_below HV.out (below_drew1 (Below.refl _ _)))
   refine mixL_seg ?_
   simp only [pickO, List.map]
   repeat (go_big_quiet_step (fail))
   refine wpQuiet_nil ?_
   refine sc_lit (Kd.int .i64) 3 rfl (N := 49) rfl (xs := ([(-1), 0, 511, 2047, 2048] : List Int)) (inner := [.int .i64 (-1), .int .i64 0, .int .i64 511, .int .i64 2047, .int .i64 2048]) ?b2 (reps_ints _ _ _ _) (by simp) HS.out ?_; (case b2 => first | (go_simp; done) | (go_simp; rfl)); intro Am cm w12 n0_ HL_ hgl_; replace HV := zM (Kd.R_below HV.out (below_grown hgl_.out)); clear HS; have HS := n0_; clear n0_; have HG := hgl_; clear hgl_
   refine ⟨hK.grow HG.out (by simp), fun hK => ?_⟩
   clear HG
   refine mixL_seg ?_
   simp only [pickO, List.map]
   repeat (go_big_quiet_step (fail))
   refine wpQuiet_nil ?_
   go_wp2_with (first | (go_at_call 27; refine (drInts_any HS.out.cur HL_.out (by simp)).mono ?_; rintro e w13 ⟨m, rfl, hc, hb⟩; have HG := zM hb; have n0_ := zM (HS.out.draw hb hc); have n1_ := zM (HS.out.growV hb HV.out); clear HS HV; have HS := n0_; have HV := n1_; clear n0_ n1_; clear hc hb; clear HL_))
   refine ⟨hK.grow HG.out (by simp), fun hK => ?_⟩
   clear HG
   refine mixL_end ?_
   try simp only [Act.put, List.setIfInBounds_toArray, List.set_cons_zero, List.set_cons_succ]
   simp only [pickO, List.map]
   repeat (go_big_quiet_step (fail))
   refine wpQuiet_nil ?_
   refine sc_volI rfl rfl (.tmp 52) (.tmp 50) rfl kn 2 _ m (by simp) rfl rfl rfl (by kernel_rfl) HV.out hkn HS.out Hgv.out rfl ?_; intro w14 n0_ n1_ _; clear HS HV; have HS := n0_; have HV := n1_; clear n0_ n1_
   go_wp2
   go_meet
   case rel => exact ⟨nx, _, _, HV, ⟨volSmall_setI (HZ.out.small (by decide)) kn hkn _ _⟩, HS⟩
  cases c3 : (sw == 3)
  case true =>
   have hs5 : ∀ y : Kx [g] w11, y.W.cell? ⟨gv, kn * 9 + 5, none⟩ = some (.string l[kn].f5) := fun y => y.cell (vol_cells HV.out kn hkn) (by simpa using HS.out.far HV.out (by decide) _ rfl (by omega))
   have hd5 : l[kn].f5.size ≤ 1048000 := HZ.out.dat _ (List.getElem_mem hkn)
   have hsm : volSmall (l.set kn { l[kn] with f5 := l[kn].f5 ++ ⟨#[120]⟩ }) := volSmall_set (HZ.out.small (by decide)) kn _ (by show (l[kn].f5 ++ (⟨#[120]⟩ : ByteArray)).size ≤ _; rw [ByteArray.size_append]; have e1 : (⟨#[120]⟩ : ByteArray).size = 1 := rfl; omega) (Nat.le_trans (HZ.out.nms l[kn] (List.getElem_mem hkn)) (by decide)) (HZ.out.nam l[kn] (List.getElem_mem hkn))
   go_upto_region 14 with (fail)
   have hne_ : g5 ∉ [g] := by simpa using HS.out.neC 0 rfl
   have hz0 := Kx.box HS.out.st 0 rfl hne_ 0 rfl
   have hz1 := Kx.box HS.out.st 0 rfl hne_ 1 rfl
   clear hne_
   try simp only [Act.put, List.setIfInBounds_toArray, List.set_cons_zero, List.set_cons_succ]
   refine wp_region_mixL (KxS [g] w11) [] [0, 1, 2, 3, 4, 5, 6, 7, 8, 9, 10, 11] 12 (by kernel_rfl) (by kernel_rfl) (fun _ _ _ _ h => h) (KxS.drew _ _) ?_
   have hK := KxS.drew [g] w11
   replace HS := zM (HS.out.drew)
   replace HV := zM (Kd.R_below HV.out (below_drew1 (Below.refl _ _)))
   refine mixL_end ?_
   try simp only [Act.put, List.setIfInBounds_toArray, List.set_cons_zero, List.set_cons_succ]
   simp only [pickO, List.map]
   repeat (go_big_quiet_step (fail))
   refine wpQuiet_nil ?_
   refine sc_volT rfl rfl (.tmp 66) (.tmp 64) rfl kn _ (l[kn].f5 ++ ⟨#[120]⟩) rfl rfl rfl (by kernel_rfl) HV.out hkn HS.out Hgv.out rfl ?_; intro w14 n0_ n1_ _; clear HS HV; have HS := n0_; have HV := n1_; clear n0_ n1_
   go_wp2
   go_meet
   case rel => exact ⟨nx, _, _, HV, ⟨hsm⟩, HS⟩
  cases c4 : (sw == 4)
  case true =>
   clear HV
   obtain ⟨cs_, hrow⟩ := HS.out.cur.row
   obtain ⟨oki, A6, c6, h6, hc6, hoki, hgl, hH⟩ := vol_lend (Kd.S_types HY.out hrow (by decide)) kn hkn
   have H6 := zM h6
   have HH := zM (Kd.H_mono hH (ok' := fun k => k ≠ g ∧ k < w11.heap.size) (fun k hk => ⟨hk.1.2, hk.2⟩))
   have HOk := zM (fun k (hk : oki k) => (hoki k hk).1.1.2)
   have HgN := zM hgl
   obtain ⟨B6, hB6⟩ : ∃ q, q = (Value.slice A6 l[kn].f6.length c6).ownBlock.toList := ⟨_, rfl⟩
   have hB : ∀ k, k ∈ B6 ↔ (Value.slice A6 l[kn].f6.length c6).ownBlock = some k := fun k => by rw [hB6, Option.mem_toList]
   have hX5 : g5 ∉ g :: B6 := by
    rw [List.mem_cons, hB]
    exact fun h => h.elim (HS.out.neC 0 rfl) (fun h => Kd.R_ne h6 (HS.out.get 0 rfl) (by decide) h.symm)
   have hXv : gv ∉ g :: B6 := by
    rw [List.mem_cons, hB]
    exact fun h => h.elim (HS.out.far (Kd.S_R HY.out) (by decide) _ rfl (by omega)) (fun h => (hoki gv (h6.1 gv h)).2 rfl)
   have HBr := zM (fun b (hb : (Value.slice A6 l[kn].f6.length c6).ownBlock = some b) => (Or.inl (List.mem_cons_of_mem _ ((hB b).2 hb)) : b ∈ g :: B6 ∨ w11.heap.size ≤ b))
   have HN6 := zM (HZ.out.nms _ (List.getElem_mem hkn))
   have HNn := zM (HZ.out.nam _ (List.getElem_mem hkn))
   have HN5 := zM (HZ.out.dat _ (List.getElem_mem hkn))
   have hs6 : ∀ y : Kx (g :: B6) w11, y.W.cell? ⟨gv, kn * 9 + 6, none⟩ = some (.slice A6 l[kn].f6.length c6) := fun y => y.cell hc6 hXv
   clear h6 hc6 hoki hgl hH HY hrow hB hB6 hXv
   go_upto_region 16 with (fail)
   have hz0 := Kx.box HS.out.st 0 rfl hX5 0 rfl
   have hz1 := Kx.box HS.out.st 0 rfl hX5 1 rfl
   clear hX5
   try simp only [Act.put, List.setIfInBounds_toArray, List.set_cons_zero, List.set_cons_succ]
   refine wp_region_mixL (KxS (g :: B6) w11) [([0, 1, 2, 3, 4, 5, 6, 7, 8, 9, 12], 10), ([], 11), ([], 13), ([14], 15), ([], 16)] [17, 18] 19 (by kernel_rfl) (by kernel_rfl) (fun _ _ _ _ h => h) (KxS.drew _ _) ?_
   have hK := KxS.drew (g :: B6) w11
   replace HS := zM (HS.out.drew)
   replace H6 := zM (Kd.R_below H6.out (below_drew1 (Below.refl _ _)))
   replace HH := zM (H_below HH.out (below_drew1 (Below.refl _ _)))
   refine mixL_seg ?_
   simp only [pickO, List.map]
   repeat (go_big_quiet_step (fail))
   refine wpQuiet_nil ?_
   refine sc_lit Kd.string 9 rfl (N := 79) rfl (xs := ([(⟨#[122, 122]⟩ : ByteArray), (⟨#[122, 46]⟩ : ByteArray), (⟨#[]⟩ : ByteArray), (⟨#[90]⟩ : ByteArray)] : List ByteArray)) (inner := [.string ⟨#[122, 122]⟩, .string ⟨#[122, 46]⟩, .string ⟨#[]⟩, .string ⟨#[90]⟩]) ?b2 (reps_strs _ _ _ _) (by simp) HS.out ?_; (case b2 => first | (go_simp; done) | (go_simp; rfl)); intro As cs w12 n0_ HL_ hgl_; replace H6 := zM (Kd.R_below H6.out (below_grown hgl_.out)); replace HH := zM (H_below HH.out (below_grown hgl_.out)); clear HS; have HS := n0_; clear n0_; have HG := hgl_; clear hgl_
   refine ⟨hK.grow HG.out (by simp), fun hK => ?_⟩
   clear HG
   refine mixL_seg ?_
   simp only [pickO, List.map]
   repeat (go_big_quiet_step (fail))
   refine wpQuiet_nil ?_
   go_wp2_with (first | (go_at_call 28; refine (drStrs_any HS.out.cur 100 (by decide) (by simp) HL_.out).mono ?_; rintro e w13 ⟨s, rfl, hvs, hc, hb⟩; have HG := zM hb; replace H6 := zM (Kd.R_grown H6.out hb (fun k hk e => HOk.out k hk (by injection e))); replace HH := zM (Kd.H_other HH.out hb (fun k hk e => hk.1 (by injection e))); replace HS := zM (HS.out.draw hb hc); clear hc hb; clear HL_))
   refine ⟨hK.grow HG.out (by simp), fun hK => ?_⟩
   clear HG
   refine mixL_seg ?_
   simp only [pickO, List.map]
   repeat (go_big_quiet_step (fail))
   refine wpQuiet_nil ?_
   go_wp2_with (first | (go_at_call 26; (with_reducible refine (drBelow_any HS.out.cur _).mono ?_); rintro e w14 ⟨q, rfl, hvq, hc, hb⟩; have HG := zM hb; replace H6 := zM (Kd.R_grown H6.out hb (fun k hk e => HOk.out k hk (by injection e))); replace HH := zM (Kd.H_other HH.out hb (fun k hk e => hk.1 (by injection e))); replace HS := zM (HS.out.draw hb hc); clear hc hb))
   refine ⟨hK.grow HG.out (by simp), fun hK => ?_⟩
   clear HG
   refine mixL_seg ?_
   simp only [pickO, List.map]
   repeat (go_big_quiet_step (fail))
   refine wpQuiet_nil ?_
   have hsz14 := KxS.size hK; have hK14 := hK; go_wp2; have HG := zM (grown_below (below_alloc (Below.refl w14.heap.size w14) (.cells #[.string s, .int .i64 q] 59)) none)
   refine ⟨hK.grow HG.out (by simp), fun hK => ?_⟩
   clear HG
   refine mixL_seg ?_
   simp only [pickO, List.map]
   repeat (go_big_quiet_step (fail))
   refine wpQuiet_nil ?_
   refine Kd.R_append k59 (w0 := w14) w.heap.size rfl (.tmp 77) (.tmp 84) 35 59 (.agg #[.string ⟨#[]⟩, .int .i64 0]) 24 rfl hu35 info59 rfl (by decide) (by decide) (.slice A6 l[kn].f6.length c6) l[kn].f6 ⟨s, q⟩ [.string s, .int .i64 q] (fun k => oki k ∨ w11.heap.size ≤ k) (fun _ => False) rfl rfl (k59_mkM _ _ _ ⟨s, q⟩) (fun _ h => h.elim) (fun k hk => .inr (Nat.le_trans hsz14 hk)) (Kd.R_mono H6.out (fun _ hk => .inl hk)) (Below.refl _ _) HS.out.st.grown.size (by have := HN6.out; omega) ?_; intro v6 w16 hR _ hg _; obtain ⟨A1, c1, rfl⟩ := Kd.R_slice hR; have HR := zM hR; replace HH := zM (Kd.H_grown HH.out hg (fun k hk => H6.out.1 k hk)); have HG6 := zM hg; replace HS := zM (HS.out.growN hg (fun b hb => Kd.R_base H6.out b hb) (Kd.R_typed H6.out) rfl); have HG := HG6; clear hR hg; clear hK; have hK := hK14
   refine ⟨hK.grow HG.out HBr.out, fun hK => ?_⟩
   clear HG
   refine mixL_end ?_
   try simp only [Act.put, List.setIfInBounds_toArray, List.set_cons_zero, List.set_cons_succ]
   simp only [pickO, List.map]
   repeat (go_big_quiet_step (fail))
   refine wpQuiet_nil ?_
   refine sc_namS rfl rfl (.tmp 87) (.tmp 85) rfl (N := w11.heap.size) rfl rfl rfl (by kernel_rfl) (Kd.H_mono HH.out (fun _ hk => hk.2)) hkn HgN.out HR.out HS.out Hgv.out rfl ?_; intro w19 n0_ HV; clear HS; have HS := n0_; clear n0_
   go_wp2
   go_meet
   case rel => exact ⟨nx, _, _, HV, ⟨volSmall_set (HZ.out.small (by decide)) kn _ (Nat.le_trans HN5.out (by decide)) (by rw [List.length_append]; have := HN6.out; simp only [List.length_singleton]; omega) (fun d hd => by rcases List.mem_append.1 hd with hd | hd; exact HNn.out d hd; rw [List.mem_singleton.1 hd]; exact Nat.le_trans hvs (by decide))⟩, HS⟩
  cases c5 : (sw == 5)
  case true =>
   go_upto_region 18 with (fail)
   have hne_ : g5 ∉ [g] := by simpa using HS.out.neC 0 rfl
   have hz0 := Kx.box HS.out.st 0 rfl hne_ 0 rfl
   have hz1 := Kx.box HS.out.st 0 rfl hne_ 1 rfl
   clear hne_
   try simp only [Act.put, List.setIfInBounds_toArray, List.set_cons_zero, List.set_cons_succ]
   refine wp_region_mixL (KxS [g] w11) [([0, 1, 2, 3], 4), ([], 5)] [6, 7] 8 (by kernel_rfl) (by kernel_rfl) (fun _ _ _ _ h => h) (KxS.drew _ _) ?_
   have hK := KxS.drew [g] w11
   replace HS := zM (HS.out.drew)
   replace HV := zM (Kd.R_below HV.out (below_drew1 (Below.refl _ _)))
   refine mixL_seg ?_
   simp only [pickO, List.map]
   repeat (go_big_quiet_step (fail))
   refine wpQuiet_nil ?_
   refine sc_lit (Kd.int .i64) 3 rfl (N := 94) rfl (xs := ([(-1), 1, 5, 400, 401] : List Int)) (inner := [.int .i64 (-1), .int .i64 1, .int .i64 5, .int .i64 400, .int .i64 401]) ?b2 (reps_ints _ _ _ _) (by simp) HS.out ?_; (case b2 => first | (go_simp; done) | (go_simp; rfl)); intro Am cm w12 n0_ HL_ hgl_; replace HV := zM (Kd.R_below HV.out (below_grown hgl_.out)); clear HS; have HS := n0_; clear n0_; have HG := hgl_; clear hgl_
   refine ⟨hK.grow HG.out (by simp), fun hK => ?_⟩
   clear HG
   refine mixL_seg ?_
   simp only [pickO, List.map]
   repeat (go_big_quiet_step (fail))
   refine wpQuiet_nil ?_
   go_wp2_with (first | (go_at_call 27; refine (drInts_any HS.out.cur HL_.out (by simp)).mono ?_; rintro e w13 ⟨m, rfl, hc, hb⟩; have HG := zM hb; have n0_ := zM (HS.out.draw hb hc); have n1_ := zM (HS.out.growV hb HV.out); clear HS HV; have HS := n0_; have HV := n1_; clear n0_ n1_; clear hc hb; clear HL_))
   refine ⟨hK.grow HG.out (by simp), fun hK => ?_⟩
   clear HG
   refine mixL_end ?_
   try simp only [Act.put, List.setIfInBounds_toArray, List.set_cons_zero, List.set_cons_succ]
   simp only [pickO, List.map]
   repeat (go_big_quiet_step (fail))
   refine wpQuiet_nil ?_
   refine sc_volI rfl rfl (.tmp 97) (.tmp 95) rfl kn 7 _ m (by simp) rfl rfl rfl (by kernel_rfl) HV.out hkn HS.out Hgv.out rfl ?_; intro w14 n0_ n1_ _; clear HS HV; have HS := n0_; have HV := n1_; clear n0_ n1_
   go_wp2
   go_meet
   case rel => exact ⟨nx, _, _, HV, ⟨volSmall_setI (HZ.out.small (by decide)) kn hkn _ _⟩, HS⟩
  cases c6 : (sw == 6)
  case true =>
   go_upto_region 20 with (fail)
   have hne_ : g5 ∉ [g] := by simpa using HS.out.neC 0 rfl
   have hz0 := Kx.box HS.out.st 0 rfl hne_ 0 rfl
   have hz1 := Kx.box HS.out.st 0 rfl hne_ 1 rfl
   clear hne_
   try simp only [Act.put, List.setIfInBounds_toArray, List.set_cons_zero, List.set_cons_succ]
   refine wp_region_mixL (KxS [g] w11) [([0, 1, 2, 3], 4), ([], 5)] [6, 7] 8 (by kernel_rfl) (by kernel_rfl) (fun _ _ _ _ h => h) (KxS.drew _ _) ?_
   have hK := KxS.drew [g] w11
   replace HS := zM (HS.out.drew)
   replace HV := zM (Kd.R_below HV.out (below_drew1 (Below.refl _ _)))
   refine mixL_seg ?_
   simp only [pickO, List.map]
   repeat (go_big_quiet_step (fail))
   refine wpQuiet_nil ?_
   refine sc_lit (Kd.int .i64) 3 rfl (N := 104) rfl (xs := ([(-1), 1, 24, 25] : List Int)) (inner := [.int .i64 (-1), .int .i64 1, .int .i64 24, .int .i64 25]) ?b2 (reps_ints _ _ _ _) (by simp) HS.out ?_; (case b2 => first | (go_simp; done) | (go_simp; rfl)); intro Am cm w12 n0_ HL_ hgl_; replace HV := zM (Kd.R_below HV.out (below_grown hgl_.out)); clear HS; have HS := n0_; clear n0_; have HG := hgl_; clear hgl_
   refine ⟨hK.grow HG.out (by simp), fun hK => ?_⟩
   clear HG
   refine mixL_seg ?_
   simp only [pickO, List.map]
   repeat (go_big_quiet_step (fail))
   refine wpQuiet_nil ?_
   go_wp2_with (first | (go_at_call 27; refine (drInts_any HS.out.cur HL_.out (by simp)).mono ?_; rintro e w13 ⟨m, rfl, hc, hb⟩; have HG := zM hb; have n0_ := zM (HS.out.draw hb hc); have n1_ := zM (HS.out.growV hb HV.out); clear HS HV; have HS := n0_; have HV := n1_; clear n0_ n1_; clear hc hb; clear HL_))
   refine ⟨hK.grow HG.out (by simp), fun hK => ?_⟩
   clear HG
   refine mixL_end ?_
   try simp only [Act.put, List.setIfInBounds_toArray, List.set_cons_zero, List.set_cons_succ]
   simp only [pickO, List.map]
   repeat (go_big_quiet_step (fail))
   refine wpQuiet_nil ?_
   refine sc_volI rfl rfl (.tmp 107) (.tmp 105) rfl kn 8 _ m (by simp) rfl rfl rfl (by kernel_rfl) HV.out hkn HS.out Hgv.out rfl ?_; intro w14 n0_ n1_ _; clear HS HV; have HS := n0_; have HV := n1_; clear n0_ n1_
   go_wp2
   go_meet
   case rel => exact ⟨nx, _, _, HV, ⟨volSmall_setI (HZ.out.small (by decide)) kn hkn _ _⟩, HS⟩
  cases c7 : (sw == 7)
  case true =>
   obtain ⟨z0, z1⟩ := HS.out.cells2 0 rfl
   go_wp2_with (first | (refine gate_builtin (b := .append) (xs := #[.tmp 111, .tmp 116]) rfl ?_; at_builtin; refine Kd.R_append k37 (w0 := w11) 0 rfl (.tmp 111) (.tmp 116) 24 37 (.agg #[.int .i64 0, .int .i64 0, .int .i64 0, .int .i64 0, .int .i64 0, .string ⟨#[]⟩, .slice none 0 0, .int .i64 0, .int .i64 0]) 96 rfl hu24 info37 rfl (by decide) (by decide) (.slice (some ⟨gv, 0, none⟩) l.length cv) l ⟨wrap64 (nx - 1), 1, 0, 0, 0, ⟨#[]⟩, [], 0, 0⟩ [.int .i64 (wrap64 (nx - 1)), .int .i64 1, .int .i64 0, .int .i64 0, .int .i64 0, .string ⟨#[]⟩, .slice none 0 0, .int .i64 0, .int .i64 0] (fun _ => True) (fun _ => False) rfl rfl (k37_mkM _ _ _ ⟨wrap64 (nx - 1), 1, 0, 0, 0, ⟨#[]⟩, [], 0, 0⟩ (Kd.R_nil _ _ _ _ _)) (fun _ h => h.elim) (fun _ _ => trivial) HV.out (Below.refl _ _) (Nat.zero_le _) (by have := HZ.out.len; omega) ?_; intro v6 w16 hR _ hg _; obtain ⟨A1, c1, rfl⟩ := Kd.R_slice hR; generalize (l ++ [(⟨wrap64 (nx - 1), 1, 0, 0, 0, ⟨#[]⟩, [], 0, 0⟩ : S37)]).length = n1 at hR ⊢; have n0_ := zM (HS.out.growN hg (fun b hb => by simp [Value.ownBlock] at hb; rw [← hb]; exact Hgv.out) (Kd.R_typed HV.out) rfl); have n1_ := zM (hR); clear HS HV; have HS := n0_; have HV := n1_; clear n0_ n1_; clear hR hg; clear z0 z1; obtain ⟨z0, z1⟩ := HS.out.cells2 0 rfl) | ((with_reducible refine gate_store (t := 24) rfl ?_); refine cS 0 [.slice A1 _ c1] HS ?_; intro wS_ n0_ n1_; replace HV := zM (R_box HV.out (HS.out.get 0 rfl) (by decide) n1_.out); clear HS; have HS := n0_; clear n0_ n1_))
   go_meet
   case rel => exact ⟨_, _, _, HV, ⟨volSmall_app (HZ.out.small (by decide)) (by have := HZ.out.len; omega) _ (show (⟨#[]⟩ : ByteArray).size ≤ 1048576 from by decide) (show ([] : List S59).length ≤ 1048576 from by decide) (by simp)⟩, HS⟩
  go_upto_region 6 with (fail)
  have hne_ : g5 ∉ [g] := by simpa using HS.out.neC 0 rfl
  have hz0 := Kx.box HS.out.st 0 rfl hne_ 0 rfl
  have hz1 := Kx.box HS.out.st 0 rfl hne_ 1 rfl
  clear hne_
  try simp only [Act.put, List.setIfInBounds_toArray, List.set_cons_zero, List.set_cons_succ]
  refine wp_region_mixL (KxS [g] w11) [([0, 1, 2, 3], 4)] [5, 6] 7 (by kernel_rfl) (by kernel_rfl) (fun _ _ _ _ h => h) (KxS.drew _ _) ?_
  have hK := KxS.drew [g] w11
  replace HS := zM (HS.out.drew)
  replace HV := zM (Kd.R_below HV.out (below_drew1 (Below.refl _ _)))
  refine mixL_seg ?_
  simp only [pickO, List.map]
  repeat (go_big_quiet_step (fail))
  refine wpQuiet_nil ?_
  go_wp2_with (first | (go_at_call 26; (with_reducible refine (drBelow_any HS.out.cur _).mono ?_); rintro e w12 ⟨m, rfl, hvm, hc, hb⟩; have HG := zM hb; have n0_ := zM (HS.out.draw hb hc); have n1_ := zM (HS.out.growV hb HV.out); clear HS HV; have HS := n0_; have HV := n1_; clear n0_ n1_; clear hc hb))
  refine ⟨hK.grow HG.out (by simp), fun hK => ?_⟩
  clear HG
  refine mixL_end ?_
  try simp only [Act.put, List.setIfInBounds_toArray, List.set_cons_zero, List.set_cons_succ]
  simp only [pickO, List.map]
  repeat (go_big_quiet_step (fail))
  refine wpQuiet_nil ?_
  refine sc_volI rfl rfl (.tmp 27) (.tmp 25) rfl kn 0 _ m (by simp) rfl rfl rfl (by kernel_rfl) HV.out hkn HS.out Hgv.out rfl ?_; intro w14 n0_ n1_ _; clear HS HV; have HS := n0_; have HV := n1_; clear n0_ n1_
  go_wp2
  go_meet
  case rel => exact ⟨nx, _, _, HV, ⟨volSmall_setI (HZ.out.small (by decide)) kn hkn _ _⟩, HS⟩
 case rest =>
 clear HS HY HZ
 obtain ⟨nx', v', l', HV, HSm, HS⟩ := hcut
 obtain ⟨w20, hw_⟩ : ∃ q, q = wc := ⟨_, rfl⟩
 subst hw_
 obtain ⟨A', c', rfl, -, -⟩ := HV.out.reads
 obtain ⟨z0, z1⟩ := HS.out.cells2 0 rfl; obtain ⟨y0, y1⟩ := HS.out.cells2 1 rfl
 go_wp2_with (first | ((with_reducible refine gS 26 4 rfl ?_); refine cS 1 [.int .i64 nx', .slice A' l'.length c'] HS ?_; intro w21 n0_ n1_; replace HV := zM (R_box HV.out (HS.out.get 1 rfl) (by decide) n1_.out); clear HS; have HS := n0_; clear n0_ n1_))
 refine cC 1 HS ?_
 unfold AnyD
 exact ⟨_, _, _, l', rfl, HV.out, HSm.out, HS.out.cur, HS.out.st.grown⟩
end Go.Proofs.YtiopcpkfjikfdaaGreatDoor.PFnClean
