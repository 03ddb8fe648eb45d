/- Written by a program of mine (qprint.py, over the kit's print.py, and texts by hand) for the law FnExactWalk: the functions that it reaches, as Lean functions, and that the program answers as they do. -/
import Derived.Test.YtiopcpkfjikfdaaDoorQFnExactWalkx0
import Derived.Test.YtiopcpkfjikfdaaDoorQFnExactWalkx2
import Derived.Test.YtiopcpkfjikfdaaDoorQFnExactWalkx3
import Derived.Test.YtiopcpkfjikfdaaDoorQFnExactWalkx4
import Derived.Test.YtiopcpkfjikfdaaDoorQFnExactWalkx5
import Derived.Test.YtiopcpkfjikfdaaDoorQFnExactWalkx6
import Derived.Test.YtiopcpkfjikfdaaDoorQFnExactWalkx7
import Derived.Test.YtiopcpkfjikfdaaDoorQFnExactWalkx8
namespace Go.Proofs.YtiopcpkfjikfdaaDoor.PFnExactWalk
open Go.RowKit Go.Proofs.YtiopcpkfjikfdaaDoorW.PrintWords Go.Proofs.YtiopcpkfjikfdaaDoorW.PrintLast Go.Proofs.YtiopcpkfjikfdaaDoorW.PrintMore
attribute [local go_sem] max2_int min2_int max_two min_two max_three min_three max_four min_four   -- for this text's walks alone
set_option linter.unusedVariables false
set_option linter.unusedSimpArgs false

section
open Go.Proofs.YtiopcpkfjikfdaaDoor.Mth Go.Proofs.YtiopcpkfjikfdaaDoor.Str
/-! ### the reference's callees, as plain functions -/
theorem l1In_eq (a b c : Int) : spec_l1In.f a b c = some (decide (b ≤ a ∧ a ≤ c)) := by
 unfold spec_l1In.f
 by_cases h : a ≥ b
 ·rw [if_pos h]; have : b ≤ a := h; simp [this]
 ·rw [if_neg h]; have : ¬ b ≤ a := h; simp [this]
theorem byte_spec (x : Int) : spec_l2Byte.f x = some (nameByte x) := by
 unfold spec_l2Byte.f nameByte
 repeat' split
 all_goals (congr 1; apply Bool.eq_iff_iff.2; simp only [beq_iff_eq, decide_eq_true_eq, true_iff, false_iff, iff_true]; omega)
theorem name_spec_loop (s : ByteArray) (hs : s.size ≤ 8) : ∀ (d i : Nat), i + d = s.size → Ev (fun k => spec_NameOk.l0 k s (i : Int)) (((bytesOf s).drop i).all nameByte) := by
 intro d
 induction d with
 | zero =>
  intro i hi
  rw [all_end s _ i (by omega)]
  exact Ev.step (spec_NameOk.l0.eq_2 _ _) (ev_neg (by omega) (ev_now rfl))
 | succ d ih =>
  intro i hi
  rw [all_drop s _ i (by omega)]
  refine Ev.step (spec_NameOk.l0.eq_2 _ _) (ev_pos (by omega) (ev_pos (by omega) (ev_of (byte_spec _) ?_)))
  have e3 : wrap64 ((i : Int) + 1) = ((i + 1 : Nat) : Int) := w64 (by omega) (by omega)
  rw [e3]
  by_cases h : nameByte (bt s (i : Int)) = true
  ·rw [h, Bool.true_and]
   exact ev_pos rfl (ih (i + 1) (by omega))
  ·have h' : nameByte (bt s (i : Int)) = false := by simpa using h
   rw [h', Bool.false_and]
   exact ev_neg (by simp) (ev_now rfl)
theorem name_spec (s : ByteArray) : Ev (fun k => spec_NameOk.f k s) (nameOkL (bytesOf s)) := by
 unfold spec_NameOk.f nameOkL
 rw [bytesOf_length]
 by_cases h1 : 1 ≤ s.size ∧ s.size ≤ 8
 ·refine ev_of (l1In_eq _ _ _) (ev_pos (by simp; omega) ?_)
  have e1 := toList_iff s [46]
  have e2 := toList_iff s [46, 46]
  have m1 : ([46] : List UInt8).map (fun b => (b.toNat : Int)) = [46] := rfl
  have m2 : ([46, 46] : List UInt8).map (fun b => (b.toNat : Int)) = [46, 46] := rfl
  rw [m1] at e1; rw [m2] at e2
  by_cases c1 : bytesOf s = [46]
  ·refine ev_pos (e1.2 c1) ?_
   have : decide (1 ≤ s.size ∧ s.size ≤ 8 ∧ bytesOf s ≠ [46] ∧ bytesOf s ≠ [46, 46]) = false := by simp [c1]
   rw [this, Bool.false_and]
   exact Ev.step (spec_NameOk.j0.eq_2 _ _) (ev_pos rfl (ev_now rfl))
  ·refine ev_neg (fun h => c1 (e1.1 h)) ?_
   by_cases c2 : bytesOf s = [46, 46]
   ·have : decide (1 ≤ s.size ∧ s.size ≤ 8 ∧ bytesOf s ≠ [46] ∧ bytesOf s ≠ [46, 46]) = false := by simp [c2]
    rw [this, Bool.false_and]
    exact Ev.step (spec_NameOk.j0.eq_2 _ _) (ev_pos (beq_iff_eq.2 (e2.2 c2)) (ev_now rfl))
   ·have : decide (1 ≤ s.size ∧ s.size ≤ 8 ∧ bytesOf s ≠ [46] ∧ bytesOf s ≠ [46, 46]) = true := by simp [c1, c2, h1]
    rw [this, Bool.true_and]
    refine Ev.step (spec_NameOk.j0.eq_2 _ _) (ev_neg (fun h => c2 (e2.1 (beq_iff_eq.1 h))) ?_)
    have := name_spec_loop s h1.2 s.size 0 (by omega)
    simpa using this
 ·have : decide (1 ≤ s.size ∧ s.size ≤ 8 ∧ bytesOf s ≠ [46] ∧ bytesOf s ≠ [46, 46]) = false := by
   apply zG; rintro ⟨a, b, _⟩; exact h1 ⟨a, b⟩
  rw [this, Bool.false_and]
  refine ev_of (l1In_eq _ _ _) (ev_neg (by simp; omega) ?_)
  exact Ev.step (spec_NameOk.j0.eq_2 _ _) (ev_pos rfl (ev_now rfl))
theorem target_spec_loop (s : ByteArray) (hs : s.size ≤ 140737488351232) : ∀ (d i : Nat), i + d = s.size → Ev (fun k => spec_l4Target.l0 k s (i : Int)) (((bytesOf s).drop i).all slashByte) := by
 intro d
 induction d with
 | zero =>
  intro i hi
  rw [all_end s _ i (by omega)]
  exact Ev.step (spec_l4Target.l0.eq_2 _ _) (ev_neg (by omega) (ev_now rfl))
 | succ d ih =>
  intro i hi
  rw [all_drop s _ i (by omega)]
  refine Ev.step (spec_l4Target.l0.eq_2 _ _) (ev_pos (by omega) (ev_pos (by omega) ?_))
  have e3 : wrap64 ((i : Int) + 1) = ((i + 1 : Nat) : Int) := w64 (by omega) (by omega)
  rw [e3]
  unfold slashByte
  by_cases h47 : bt s (i : Int) = 47
  ·refine ev_pos h47 ?_
   rw [h47]
   have := ih (i + 1) (by omega)
   unfold slashByte at this
   simpa using this
  ·refine ev_neg h47 (ev_of (byte_spec _) ?_)
   rw [zG h47, Bool.false_or]
   by_cases h : nameByte (bt s (i : Int)) = true
   ·rw [h, Bool.true_and]
    exact ev_pos rfl (ih (i + 1) (by omega))
   ·have h' : nameByte (bt s (i : Int)) = false := by simpa using h
    rw [h', Bool.false_and]
    exact ev_neg (by simp) (ev_now rfl)
theorem target_spec (s : ByteArray) (hs : s.size ≤ 140737488351232) : Ev (fun k => spec_l4Target.f k s) (targetL (bytesOf s)) := by
 unfold spec_l4Target.f targetL
 rw [bytesOf_length]
 refine ev_of (l1In_eq _ _ _) ?_
 by_cases h : 1 ≤ s.size ∧ s.size ≤ 60
 ·rw [zE h, Bool.true_and]
  have := target_spec_loop s hs s.size 0 (by omega)
  exact ev_pos (by simp; omega) (by simpa using this)
 ·rw [zG h, Bool.false_and]
  exact ev_neg (by simp; omega) (ev_now rfl)
def atV (l : List S90) (id : Int) : Int := if inoI l id < l.length then (inoI l id : Int) else -1
theorem at_loop (nx : Int) (l : List S90) (hl : l.length ≤ 1048576) (id : Int) : ∀ (d i : Nat), i + d = l.length → (∀ j (hj : j < l.length), j < i → l[j].f0 ≠ id) → Ev (fun k => spec_l4At.l0 k id (i : Int) nx l) (atV l id) := by
 intro d
 induction d with
 | zero =>
  intro i hi h0
  have e : inoI l id = l.length := inoI_no l id (fun j hj => h0 j hj (by omega))
  have e2 : atV l id = -1 := by unfold atV; rw [if_neg (by omega)]
  rw [e2]
  exact Ev.step (spec_l4At.l0.eq_2 _ _ _ _) (ev_neg (by omega) (ev_now rfl))
 | succ d ih =>
  intro i hi h0
  have hlt : i < l.length := by omega
  have e3 : wrap64 ((i : Int) + 1) = ((i + 1 : Nat) : Int) := w64 (by omega) (by omega)
  refine Ev.step (spec_l4At.l0.eq_2 _ _ _ _) (ev_pos (by omega) (ev_pos (by omega) ?_))
  rw [rd45 l i hlt, e3]
  by_cases h : l[i].f0 = id
  ·have e : inoI l id = i := inoI_yes l id i hlt h (fun j hj => h0 j (by omega) hj)
   have e2 : atV l id = i := by unfold atV; rw [if_pos (by omega), e]
   rw [e2]
   exact ev_pos h (ev_now rfl)
  ·exact ev_neg h (ih (i + 1) (by omega) (fun j hj hji => by
    by_cases e : j = i
    ·subst e; exact h
    ·exact h0 j hj (by omega)))
theorem at_ev (nx : Int) (l : List S90) (hl : l.length ≤ 1048576) (id : Int) : Ev (fun k => spec_l4At.f k nx l id) (atV l id) := by
 unfold spec_l4At.f
 exact at_loop nx l hl id l.length 0 (by omega) (fun j _ hj => absurd hj (by omega))
theorem named_loop1 (nx : Int) (l : List S90) (id : Int) (x : Nat) (hx : x < l.length) (hx0 : l.length ≤ 1048576) (hd : l[x].f6.length ≤ 1048576) {R : Int} : ∀ (d y n : Nat), y + d = l[x].f6.length → n + d ≤ 2000000000000 →
  Ev (fun k => spec_l4Named.l0 k id ((n + cntD id (l[x].f6.drop y) : Nat) : Int) ((x + 1 : Nat) : Int) nx l) R → Ev (fun k => spec_l4Named.l1 k id (n : Int) (x : Int) (y : Int) nx l) R := by
 intro d
 induction d with
 | zero =>
  intro y n hy hn H
  have e3 : wrap64 ((x : Int) + 1) = ((x + 1 : Nat) : Int) := w64 (by omega) (by omega)
  refine Ev.step (spec_l4Named.l1.eq_2 _ _ _ _ _ _) (ev_pos (by omega) (ev_pos (by omega) ?_))
  rw [rd45 l x hx, e3]
  refine ev_neg (by omega) ?_
  rw [List.drop_of_length_le (by omega)] at H
  exact H
 | succ d ih =>
  intro y n hy hn H
  have hyt : y < l[x].f6.length := by omega
  have e3 : wrap64 ((y : Int) + 1) = ((y + 1 : Nat) : Int) := w64 (by omega) (by omega)
  have e4 : wrap64 ((n : Int) + 1) = ((n + 1 : Nat) : Int) := w64 (by omega) (by omega)
  refine Ev.step (spec_l4Named.l1.eq_2 _ _ _ _ _ _) (ev_pos (by omega) (ev_pos (by omega) ?_))
  rw [rd45 l x hx, rd68 _ y hyt, e3, e4]
  have hs : cntD id (l[x].f6.drop y) = (if l[x].f6[y].f1 = id then 1 else 0) + cntD id (l[x].f6.drop (y + 1)) := by
   rw [List.drop_eq_getElem_cons hyt]
   unfold cntD
   rw [List.filter_cons]
   by_cases e : l[x].f6[y].f1 = id <;> simp [e, Nat.add_comm]
  rw [hs] at H
  refine ev_pos (by omega) (ev_pos (by omega) ?_)
  by_cases e : l[x].f6[y].f1 = id
  ·rw [if_pos e] at H
   exact ev_pos e (ih (y + 1) (n + 1) (by omega) (by omega) (by rw [show n + 1 + cntD id (l[x].f6.drop (y + 1)) = n + (1 + cntD id (l[x].f6.drop (y + 1))) from by omega]; exact H))
  ·rw [if_neg e, Nat.zero_add] at H
   exact ev_neg e (ih (y + 1) n (by omega) (by omega) H)
theorem named_loop0 (nx : Int) (l : List S90) (hs : volSmall l) (id : Int) : ∀ (d x : Nat), x + d = l.length → Ev (fun k => spec_l4Named.l0 k id ((namedN (l.take x) id : Nat) : Int) (x : Int) nx l) ((namedN l id : Nat) : Int) := by
 have hl := hs.1
 intro d
 induction d with
 | zero =>
  intro x hx
  rw [show l.take x = l from List.take_of_length_le (by omega)]
  exact Ev.step (spec_l4Named.l0.eq_2 _ _ _ _ _) (ev_neg (by omega) (ev_now rfl))
 | succ d ih =>
  intro x hx
  have hlt : x < l.length := by omega
  have h6 := hs.2.1 _ (List.getElem_mem hlt)
  have hn := namedN_le id (l.take x) (fun z hz => hs.2.1 z (List.mem_of_mem_take hz))
  rw [List.length_take] at hn
  refine Ev.step (spec_l4Named.l0.eq_2 _ _ _ _ _) (ev_pos (by omega) ?_)
  refine named_loop1 nx l id x hlt hl h6 l[x].f6.length 0 _ (by omega) (by omega) ?_
  rw [List.drop_zero, ← namedN_snoc l id x hlt]
  exact ih (x + 1) (by omega)
theorem named_ev (nx : Int) (l : List S90) (hs : volSmall l) (id : Int) : Ev (fun k => spec_l4Named.f k nx l id) ((namedN l id : Nat) : Int) := by
 unfold spec_l4Named.f
 exact named_loop0 nx l hs id l.length 0 (by omega)
theorem bytes_loop (nx : Int) (l : List S90) (hs : volSmall l) : ∀ (d x : Nat), x + d = l.length → Ev (fun k => spec_l4Bytes.l0 k ((totalN (l.take x) : Nat) : Int) (x : Int) nx l) ((totalN l : Nat) : Int) := by
 have hl := hs.1
 intro d
 induction d with
 | zero =>
  intro x hx
  rw [show l.take x = l from List.take_of_length_le (by omega)]
  exact Ev.step (spec_l4Bytes.l0.eq_2 _ _ _ _) (ev_neg (by omega) (ev_now rfl))
 | succ d ih =>
  intro x hx
  have hlt : x < l.length := by omega
  have h6 := hs.2.2.1 _ (List.getElem_mem hlt)
  have hn := totalN_le (l.take x) (fun z hz => hs.2.2.1 z (List.mem_of_mem_take hz))
  rw [List.length_take] at hn
  refine Ev.step (spec_l4Bytes.l0.eq_2 _ _ _ _) (ev_pos (by omega) (ev_pos (by omega) ?_))
  rw [rd45 l x hlt, w64 (n := (x : Int) + 1) (by omega) (by omega), w64 (n := ((totalN (l.take x) : Nat) : Int) + (l[x].f5.size : Int)) (by omega) (by omega)]
  have h := ih (x + 1) (by omega)
  rw [totalN_snoc l x hlt] at h
  exact h
theorem bytes_ev (nx : Int) (l : List S90) (hs : volSmall l) : Ev (fun k => spec_l4Bytes.f k nx l) ((totalN l : Nat) : Int) := by
 unfold spec_l4Bytes.f
 exact bytes_loop nx l hs l.length 0 (by omega)
/-! what lies below, as the reference has it: places, by going over all -/
def markD (l : List S90) (st : List Bool × List Bool) (d : S117) : List Bool × List Bool := if inoI l d.f1 < l.length then (st.1.set (inoI l d.f1) true, st.2.set (inoI l d.f1) true) else st
def markDs (l : List S90) (st : List Bool × List Bool) (ds : List S117) : List Bool × List Bool := ds.foldl (markD l) st
def rowS (l : List S90) (st : List Bool × List Bool) (i : Nat) : List Bool × List Bool := if st.2.getD i false = true then markDs l st (iAt l i).f6 else st
def passFrom (l : List S90) : Nat → Nat → List Bool × List Bool → List Bool × List Bool
 | 0, _, st => st
 | d + 1, i, st => passFrom l d (i + 1) (rowS l st i)
def passes (l : List S90) : Nat → List Bool × List Bool → List Bool × List Bool
 | 0, st => st
 | d + 1, st => passes l d (passFrom l l.length 0 st)
def belowBits (l : List S90) (id : Int) : List Bool := if inoI l id < l.length then (passes l l.length (List.replicate l.length false, (List.replicate l.length false).set (inoI l id) true)).1 else List.replicate l.length false
def Len2 (l : List S90) (st : List Bool × List Bool) : Prop := st.1.length = l.length ∧ st.2.length = l.length
theorem markD_len {l : List S90} {st : List Bool × List Bool} (h : Len2 l st) (d : S117) : Len2 l (markD l st d) := by
 unfold markD
 split
 ·exact ⟨by rw [List.length_set]; exact h.1, by rw [List.length_set]; exact h.2⟩
 ·exact h
theorem markDs_len {l : List S90} : ∀ (ds : List S117) {st : List Bool × List Bool}, Len2 l st → Len2 l (markDs l st ds)
 | [], _, h => h
 | d :: ds, _, h => by
  unfold markDs
  rw [List.foldl_cons]
  exact markDs_len ds (markD_len h d)
theorem rowS_len {l : List S90} {st : List Bool × List Bool} (h : Len2 l st) (i : Nat) : Len2 l (rowS l st i) := by
 unfold rowS
 split
 ·exact markDs_len _ h
 ·exact h
theorem passFrom_len {l : List S90} : ∀ (d i : Nat) {st : List Bool × List Bool}, Len2 l st → Len2 l (passFrom l d i st)
 | 0, _, _, h => h
 | d + 1, i, _, h => passFrom_len d (i + 1) (rowS_len h i)
theorem passes_len {l : List S90} : ∀ (d : Nat) {st : List Bool × List Bool}, Len2 l st → Len2 l (passes l d st)
 | 0, _, h => h
 | d + 1, _, h => passes_len d (passFrom_len _ _ h)
theorem belowBits_len (l : List S90) (id : Int) : (belowBits l id).length = l.length := by
 unfold belowBits
 split
 ·exact (passes_len l.length (st := (List.replicate l.length false, (List.replicate l.length false).set (inoI l id) true)) ⟨by simp, by simp⟩).1
 ·simp
theorem rdB (l : List Bool) (i : Nat) : rdOf false l (i : Int) = l.getD i false := by unfold rdOf; rw [Int.toNat_natCast]
theorem below_l2 (nx : Int) (l : List S90) (hs : volSmall l) (x8 : Int) (i : Nat) (hi : i < l.length) {R : List Bool} : ∀ (d j : Nat) (st : List Bool × List Bool), j + d = l[i].f6.length → Len2 l st →
  Ev (fun k => spec_l4Below.l1 k (markDs l st (l[i].f6.drop j)).1 (markDs l st (l[i].f6.drop j)).2 x8 ((i + 1 : Nat) : Int) nx l) R → Ev (fun k => spec_l4Below.l2 k st.1 st.2 x8 (i : Int) (j : Int) nx l) R := by
 have hl := hs.1
 have h6 := hs.2.1 _ (List.getElem_mem hi)
 intro d
 induction d with
 | zero =>
  intro j st hj hst H
  refine Ev.step (spec_l4Below.l2.eq_2 _ _ _ _ _ _ _) (ev_pos (by omega) (ev_pos (by omega) ?_))
  rw [rd45 l i hi, w64 (n := (i : Int) + 1) (by omega) (by omega)]
  refine ev_neg (by omega) ?_
  rw [List.drop_of_length_le (by omega)] at H
  exact H
 | succ d ih =>
  intro j st hj hst H
  have hjt : j < l[i].f6.length := by omega
  rw [List.drop_eq_getElem_cons hjt] at H
  have H2 : Ev (fun k => spec_l4Below.l1 k (markDs l (markD l st l[i].f6[j]) (l[i].f6.drop (j + 1))).1 (markDs l (markD l st l[i].f6[j]) (l[i].f6.drop (j + 1))).2 x8 ((i + 1 : Nat) : Int) nx l) R := H
  have nxt := ih (j + 1) (markD l st l[i].f6[j]) (by omega) (markD_len hst _) H2
  refine Ev.step (spec_l4Below.l2.eq_2 _ _ _ _ _ _ _) (ev_pos (by omega) (ev_pos (by omega) ?_))
  rw [rd45 l i hi, rd68 _ j hjt, w64 (n := (j : Int) + 1) (by omega) (by omega)]
  refine ev_pos (by omega) (ev_pos (by omega) (Ev.bind (at_ev nx l hl _) ?_))
  unfold atV
  unfold markD at nxt
  by_cases h : inoI l l[i].f6[j].f1 < l.length
  ·rw [if_pos h] at nxt ⊢
   refine ev_pos (by omega) (ev_pos (by omega) (ev_pos (by rw [hst.1]; omega) (ev_pos (by rw [hst.2]; omega) ?_)))
   rw [Int.toNat_natCast]
   exact nxt
  ·rw [if_neg h] at nxt ⊢
   exact ev_neg (by omega) nxt
theorem below_l1 (nx : Int) (l : List S90) (hs : volSmall l) (x8 : Nat) (h8 : x8 < l.length) {R : List Bool} : ∀ (d i : Nat) (st : List Bool × List Bool), i + d = l.length → Len2 l st →
  Ev (fun k => spec_l4Below.l0 k (passFrom l d i st).1 (passFrom l d i st).2 ((x8 + 1 : Nat) : Int) nx l) R → Ev (fun k => spec_l4Below.l1 k st.1 st.2 (x8 : Int) (i : Int) nx l) R := by
 have hl := hs.1
 intro d
 induction d with
 | zero =>
  intro i st hi hst H
  refine Ev.step (spec_l4Below.l1.eq_2 _ _ _ _ _ _) (ev_neg (by omega) ?_)
  rw [w64 (n := (x8 : Int) + 1) (by omega) (by omega)]
  exact H
 | succ d ih =>
  intro i st hi hst H
  have hlt : i < l.length := by omega
  have nxt := ih (i + 1) (rowS l st i) (by omega) (rowS_len hst i) H
  refine Ev.step (spec_l4Below.l1.eq_2 _ _ _ _ _ _) (ev_pos (by omega) (ev_pos (by omega) (ev_pos (by rw [hst.2]; omega) ?_)))
  rw [rdB, w64 (n := (i : Int) + 1) (by omega) (by omega)]
  unfold rowS at nxt
  by_cases h : st.2.getD i false = true
  ·rw [if_pos h] at nxt
   refine ev_pos h (below_l2 nx l hs _ i hlt l[i].f6.length 0 st (by omega) hst ?_)
   rw [List.drop_zero, ← iAt_eq l i hlt]
   exact nxt
  ·rw [if_neg h] at nxt
   exact ev_neg h nxt
theorem below_l0 (nx : Int) (l : List S90) (hs : volSmall l) : ∀ (d x8 : Nat) (st : List Bool × List Bool), x8 + d = l.length → Len2 l st →
  Ev (fun k => spec_l4Below.l0 k st.1 st.2 (x8 : Int) nx l) (passes l d st).1 := by
 have hl := hs.1
 intro d
 induction d with
 | zero =>
  intro x8 st hx hst
  exact Ev.step (spec_l4Below.l0.eq_2 _ _ _ _ _) (ev_neg (by omega) (ev_now rfl))
 | succ d ih =>
  intro x8 st hx hst
  refine Ev.step (spec_l4Below.l0.eq_2 _ _ _ _ _) (ev_pos (by omega) ?_)
  exact below_l1 nx l hs x8 (by omega) l.length 0 st (by omega) hst (ih (x8 + 1) _ (by omega) (passFrom_len _ _ hst))
theorem below_ev (nx : Int) (l : List S90) (hs : volSmall l) (id : Int) : Ev (fun k => spec_l4Below.f k nx l id) (belowBits l id) := by
 have hl := hs.1
 unfold spec_l4Below.f belowBits
 rw [Int.toNat_natCast]
 refine ev_pos (by omega) (ev_pos (by omega) (ev_some (ev_some (Ev.bind (at_ev nx l hl id) ?_))))
 unfold atV
 by_cases h : inoI l id < l.length
 ·rw [if_pos h, if_pos h]
  refine ev_neg (by omega) (ev_pos (by omega) (ev_pos (by rw [List.length_replicate]; omega) ?_))
  rw [Int.toNat_natCast]
  exact below_l0 nx l hs l.length 0 (List.replicate l.length false, (List.replicate l.length false).set (inoI l id) true) (by omega) ⟨by simp, by simp⟩
 ·rw [if_neg h, if_neg h]
  exact ev_pos (by omega) (ev_now rfl)
/-! what a directory uses, as the reference has it -/
def useFrom (l : List S90) (bs : List Bool) : Nat → Nat → Nat × Nat → Nat × Nat
 | 0, _, p => p
 | d + 1, i, p => useFrom l bs d (i + 1) (if bs.getD i false = true then (p.1 + (iAt l i).f5.size, p.2 + 1) else p)
def useS (l : List S90) (id : Int) : Nat × Nat := useFrom l (belowBits l id) l.length 0 (0, 0)
theorem use_loop (nx : Int) (l : List S90) (hs : volSmall l) (bs : List Bool) (hb : bs.length = l.length) : ∀ (d i : Nat) (p : Nat × Nat), i + d = l.length → p.1 + d * 1048576 ≤ 2000000000000 → p.2 + d ≤ 2000000000000 →
  Ev (fun k => spec_l4Usage.l0 k bs (p.1 : Int) (p.2 : Int) (i : Int) nx l) (((useFrom l bs d i p).1 : Int), ((useFrom l bs d i p).2 : Int)) := by
 have hl := hs.1
 intro d
 induction d with
 | zero =>
  intro i p hi h1 h2
  exact Ev.step (spec_l4Usage.l0.eq_2 _ _ _ _ _ _) (ev_neg (by omega) (ev_now rfl))
 | succ d ih =>
  intro i p hi h1 h2
  have hlt : i < l.length := by omega
  have h5 := hs.2.2.1 _ (List.getElem_mem hlt)
  obtain ⟨a, b⟩ := p
  rw [Nat.succ_mul] at h1
  have ih' := ih (i + 1)
  generalize d * 1048576 = q at h1 ih'
  have h1' : a + (q + 1048576) ≤ 2000000000000 := h1
  have h2' : b + (d + 1) ≤ 2000000000000 := h2
  clear h1 h2 ih
  have h1b : a + q ≤ 2000000000000 := by omega
  have h2b : b + d ≤ 2000000000000 := by omega
  have h1c : ∀ z, z ≤ 1048576 → a + z + q ≤ 2000000000000 := fun z hz => by omega
  have h2c : b + 1 + d ≤ 2000000000000 := by omega
  dsimp only
  refine Ev.step (spec_l4Usage.l0.eq_2 _ _ _ _ _ _) (ev_pos (by omega) (ev_pos (by omega) ?_))
  rw [rdB, w64 (n := (i : Int) + 1) (by omega) (by omega), useFrom]
  by_cases h : bs.getD i false = true
  ·rw [if_pos h, iAt_eq l i hlt]
   refine ev_pos h (ev_pos (by omega) ?_)
   rw [rd45 l i hlt, w64 (n := (a : Int) + (l[i].f5.size : Int)) (by omega) (by omega), w64 (n := (b : Int) + 1) (by omega) (by omega)]
   exact ih' (a + l[i].f5.size, b + 1) (by omega) (h1c _ h5) h2c
  ·rw [if_neg h]
   exact ev_neg h (ih' (a, b) (by omega) h1b h2b)
theorem use_ev (nx : Int) (l : List S90) (hs : volSmall l) (id : Int) : Ev (fun k => spec_l4Usage.f k nx l id) (((useS l id).1 : Int), ((useS l id).2 : Int)) := by
 have hl := hs.1
 unfold spec_l4Usage.f
 have h1 : (0 : Nat) + l.length * 1048576 ≤ 2000000000000 := by omega
 have h2 : (0 : Nat) + l.length ≤ 2000000000000 := by omega
 have h := use_loop nx l hs (belowBits l id) (belowBits_len l id) l.length 0 (0, 0) (Nat.zero_add _) h1 h2
 exact Ev.bind (below_ev nx l hs id) h
def overAtS (l : List S90) (x : S90) : Bool := x.f1 == 2 && (!(x.f7 == 0 && x.f8 == 0) && overV x.f7 x.f8 (((useS l x.f0).1 : Nat) : Int) (((useS l x.f0).2 : Nat) : Int))
def overFrom (l : List S90) : Nat → Nat → Bool
 | 0, _ => false
 | d + 1, i => overAtS l (iAt l i) || overFrom l d (i + 1)
theorem over_j1 (nx : Int) (l : List S90) (hs : volSmall l) (i : Nat) (hi : i < l.length) (x : S90) (R : Bool) (nxt : Ev (fun k => spec_l4Over.l0 k ((i + 1 : Nat) : Int) nx l) R) (b : Bool) :
  Ev (fun k => spec_l4Over.j1 k (i : Int) b nx l x.f0 x.f1 x.f2 x.f3 x.f4 x.f5 x.f6 x.f7 x.f8) (if b = true then R else (overV x.f7 x.f8 (((useS l x.f0).1 : Nat) : Int) (((useS l x.f0).2 : Nat) : Int) || R)) := by
 have hl := hs.1
 have e3 : wrap64 ((i : Int) + 1) = ((i + 1 : Nat) : Int) := w64 (by omega) (by omega)
 refine Ev.step (spec_l4Over.j1.eq_2 _ _ _ _ _ _ _ _ _ _ _ _ _) ?_
 rw [e3]
 cases b with
 | true => exact ev_pos rfl nxt
 | false =>
  refine ev_neg (by simp) (Ev.bind (use_ev nx l hs x.f0) ?_)
  dsimp only
  generalize (((useS l x.f0).1 : Nat) : Int) = ub
  generalize (((useS l x.f0).2 : Nat) : Int) = un
  unfold overV
  by_cases h7 : x.f7 > 0
  ·refine ev_pos h7 ?_
   by_cases hb : ub > x.f7
   ·rw [zE (Or.inl ⟨h7, hb⟩)]
    exact ev_pos hb (ev_now rfl)
   ·refine ev_neg hb ?_
    by_cases h8 : x.f8 > 0
    ·refine ev_pos h8 ?_
     by_cases hn : un > x.f8
     ·rw [zE (Or.inr ⟨h8, hn⟩)]
      exact ev_pos hn (ev_now rfl)
     ·rw [zG (by omega)]
      exact ev_neg hn nxt
    ·rw [zG (by omega)]
     exact ev_neg h8 nxt
  ·refine ev_neg h7 ?_
   by_cases h8 : x.f8 > 0
   ·refine ev_pos h8 ?_
    by_cases hn : un > x.f8
    ·rw [zE (Or.inr ⟨h8, hn⟩)]
     exact ev_pos hn (ev_now rfl)
    ·rw [zG (by omega)]
     exact ev_neg hn nxt
   ·rw [zG (by omega)]
    exact ev_neg h8 nxt
theorem over_loop (nx : Int) (l : List S90) (hs : volSmall l) : ∀ (d i : Nat), i + d = l.length → Ev (fun k => spec_l4Over.l0 k (i : Int) nx l) (overFrom l d i) := by
 intro d
 induction d with
 | zero =>
  intro i hi
  exact Ev.step (spec_l4Over.l0.eq_2 _ _ _) (ev_neg (by omega) (ev_now rfl))
 | succ d ih =>
  intro i hi
  have hlt : i < l.length := by omega
  have nxt := fun b => over_j1 nx l hs i hlt l[i] _ (ih (i + 1) (by omega)) b
  refine Ev.step (spec_l4Over.l0.eq_2 _ _ _) (ev_pos (by omega) (ev_pos (by omega) ?_))
  rw [rd45 l i hlt, overFrom, iAt_eq l i hlt]
  unfold overAtS
  by_cases h2 : l[i].f1 = 2
  ·refine ev_pos h2 ?_
   have e2 : (l[i].f1 == 2) = true := by simpa using h2
   rw [e2, Bool.true_and]
   by_cases h7 : l[i].f7 = 0
   ·refine ev_pos h7 ?_
    have h := nxt (l[i].f8 == 0)
    have e7 : (l[i].f7 == 0) = true := by simpa using h7
    rw [e7, Bool.true_and]
    cases h8 : l[i].f8 == 0 with
    | true => rw [h8, if_pos rfl] at h; simpa using h
    | false => rw [h8, if_neg (by simp)] at h; simpa using h
   ·refine ev_neg h7 ?_
    have h := nxt false
    have e7 : (l[i].f7 == 0) = false := by simpa using h7
    rw [if_neg (by simp)] at h
    simpa [e7] using h
  ·refine ev_neg h2 ?_
   have h := nxt true
   have e2 : (l[i].f1 == 2) = false := by simpa using h2
   rw [if_pos rfl] at h
   simpa [e2] using h
theorem over_ev (nx : Int) (l : List S90) (hs : volSmall l) : Ev (fun k => spec_l4Over.f k nx l) (overFrom l l.length 0) := by
 unfold spec_l4Over.f
 exact over_loop nx l hs l.length 0 (by omega)
end

section
open Go.Proofs.YtiopcpkfjikfdaaDoor.Mth Go.Proofs.YtiopcpkfjikfdaaDoor.Str
/-! ### the reference's own: is an inode right -/
theorem l1In_any (a b c : Int) (w : World) : Calls Tryd.prog 35 #[.int .i64 a, .int .i64 b, .int .i64 c] w fun e w' => e = .returned (.bool (rgB a b c)) ∧ Drawn0 w w' := spec_l1In.calls a b c _ w (l1In_eq a b c)
theorem nameS_any (s : ByteArray) (w : World) : Calls Tryd.prog 91 #[.string s] w fun e w' => e = .returned (.bool (nmB s)) ∧ Drawn0 w w' := by
 obtain ⟨K, hK⟩ := name_spec s
 exact spec_NameOk.calls K s _ w (hK K (Nat.le_refl _))
theorem targetS_any (s : ByteArray) (hs : s.size ≤ 1048576) (w : World) : Calls Tryd.prog 90 #[.string s] w fun e w' => e = .returned (.bool (tgB s)) ∧ Drawn0 w w' := by
 obtain ⟨K, hK⟩ := target_spec s (by omega)
 exact spec_l4Target.calls K s _ w (hK K (Nat.le_refl _))
theorem atS_any (nx : Int) (A : Option Addr) (c : Nat) (l : List S90) (id : Int) (w : World) (hr : Kd.C k90 w A l.length l) (hc : l.length ≤ c) (hs : volSmall l) : Calls Tryd.prog 65 #[.agg #[.int .i64 nx, .slice A l.length c], .int .i64 id] w fun e w' => e = .returned (.int .i64 (atV l id)) ∧ Below w.heap.size w w' := by
 obtain ⟨K, hK⟩ := at_ev nx l hs.1 id
 exact spec_l4At.calls K nx A c l id _ w hr hc (hK K (Nat.le_refl _))
theorem atV_neg (l : List S90) (id : Int) : decide (atV l id < 0) = !decide (inoI l id < l.length) := by
 unfold atV
 by_cases h : inoI l id < l.length
 ·rw [if_pos h, zE h]; simp
 ·rw [if_neg h, zG h]; rfl
def nameAtS (l : List S90) (ds : List S117) (i : Nat) : Bool := nmB (dAt ds i).f0 && ((i == 0 || lessS (dAt ds (i - 1)).f0 (dAt ds i).f0) && (!((dAt ds i).f1 == 1) && decide (inoI l (dAt ds i).f1 < l.length)))
def namesFromS (l : List S90) (ds : List S117) : Nat → Nat → Bool
 | 0, _ => true
 | k + 1, i => nameAtS l ds i && namesFromS l ds k (i + 1)
def plainB (p q : Int) (ds : List S117) : Bool := decide (ds.length = 0) && (p == 0 && q == 0)
def inodeOkS (l : List S90) (x1 x2 x3 x4 p q : Int) (s : ByteArray) (ds : List S117) : Bool :=
 rgB x2 0 2047 && (rgB x3 0 1000 && (rgB x4 0 1000 && (if x1 = 1 then plainB p q ds && decide (s.size ≤ 64) else if x1 = 3 then plainB p q ds && (tgB s && x2 == 511) else if x1 = 2 then decide (s.size = 0) && (decide (ds.length ≤ 12) && (rgB p 0 400 && (rgB q 0 24 && namesFromS l ds ds.length 0))) else false)))
theorem nameAtS_eq (l : List S90) (ds : List S117) (i : Nat) : nameAtS l ds i = nameAtB l ds i := by
 unfold nameAtS nameAtB
 generalize nmB (dAt ds i).f0 = a
 generalize (i == 0 || lessS (dAt ds (i - 1)).f0 (dAt ds i).f0) = b
 generalize ((dAt ds i).f1 == 1) = c
 generalize decide (inoI l (dAt ds i).f1 < l.length) = d
 cases a <;> cases b <;> cases c <;> cases d <;> rfl
theorem namesFromS_eq (l : List S90) (ds : List S117) : ∀ k i, namesFrom l ds k i = (namesFromS l ds k i && decide (ds.length ≤ 12))
 | 0, _ => by rw [namesFrom, namesFromS, Bool.true_and]
 | k + 1, i => by rw [namesFrom, namesFromS, namesFromS_eq l ds k (i + 1), nameAtS_eq, Bool.and_assoc]
theorem inodeOkS_eq (l : List S90) (x1 x2 x3 x4 p q : Int) (s : ByteArray) (ds : List S117) : inodeOkS l x1 x2 x3 x4 p q s ds = inodeOkV l x1 x2 x3 x4 p q s ds := by
 unfold inodeOkS inodeOkV plainB
 congr 1; congr 1; congr 1
 have e0 : decide (0 < ds.length) = !decide (ds.length = 0) := by
  by_cases h : ds.length = 0
  ·rw [zE h, zG (by omega)]; rfl
  ·rw [zG h, zE (by omega)]; rfl
 rw [e0]
 by_cases h2 : x1 = 2
 ·subst h2
  rw [if_neg (by decide), if_neg (by decide), if_pos rfl, if_neg (by decide), if_neg (by decide), if_pos rfl, namesOkB, namesFromS_eq]
  generalize decide (s.size = 0) = a
  generalize decide (ds.length ≤ 12) = b
  generalize rgB p 0 400 = c
  generalize rgB q 0 24 = d
  generalize namesFromS l ds ds.length 0 = e
  cases a <;> cases b <;> cases c <;> cases d <;> cases e <;> rfl
 ·have e2 : (x1 == 2) = false := by simpa using h2
  rw [e2, if_neg h2]
  generalize decide (ds.length = 0) = a
  generalize (p == 0) = b
  generalize (q == 0) = d
  by_cases h1 : x1 = 1
  ·rw [if_pos h1, if_pos h1]
   cases a <;> cases b <;> cases d <;> simp
  ·rw [if_neg h1, if_neg h1]
   by_cases h3 : x1 = 3
   ·rw [if_pos h3, if_pos h3]
    cases a <;> cases b <;> cases d <;> simp
   ·rw [if_neg h3, if_neg h3]
    simp [h2]
set_option maxHeartbeats 8000000 in
set_option maxRecDepth 100000 in
theorem inodeS_any (w : World) (nx : Int) (A : Option Addr) (c : Nat) (l : List S90) (hr : Kd.C k90 w A l.length l) (hc : l.length ≤ c) (hsv : volSmall l) (x0 x1 x2 x3 x4 p q : Int) (s : ByteArray) (A6 : Option Addr) (c6 : Nat) (ds : List S117) (hR : Kd.C k117 w A6 ds.length ds) (hS : dSmall ds) (hs : s.size ≤ 1048576) :
  Calls Tryd.prog 58 #[.agg #[.int .i64 nx, .slice A l.length c], .agg #[.int .i64 x0, .int .i64 x1, .int .i64 x2, .int .i64 x3, .int .i64 x4, .string s, .slice A6 ds.length c6, .int .i64 p, .int .i64 q]] w fun e w' =>
   e = .returned (.bool (inodeOkS l x1 x2 x3 x4 p q s ds)) ∧ Below w.heap.size w w' := by
 have hu29 := Tryd.underlying45
 have hu45 := Tryd.underlying90
 have hu68 := Tryd.underlying117
 have hm : ds.length ≤ 9223372036854775807 := hR.2.1
 have hml : l.length ≤ 9223372036854775807 := hr.2.1
 have HT := zM (targetS_any s hs)
 have HAt := zM (fun W (hW : Below w.heap.size w W) id => atS_any nx A c l id W (Kd.C_below hr hW) hc hsv)
 have HR := zM hR
 have HS := zM hS
 clear hr hR hS
 cases r1 : rgB x2 0 2047 with
 | false =>
  have HF := zM (show inodeOkS l x1 x2 x3 x4 p q s ds = false from by unfold inodeOkS plainB; simp [r1])
  clear HT HAt HR HS hs
  go_enter Tryd.func58, Tryd.ntmps58
  go_wp2_with (first | (go_at_call 35; refine (l1In_any _ _ _ _).mono ?_; rintro e w1 ⟨rfl, ⟨n, rfl⟩⟩))
  go_ret
  exact ⟨by rw [HF.out]; first | rfl | simp, by repeat (first | exact Below.refl _ _ | apply zA | apply zN | apply zD)⟩
 | true =>
 cases r2 : rgB x3 0 1000 with
 | false =>
  have HF := zM (show inodeOkS l x1 x2 x3 x4 p q s ds = false from by unfold inodeOkS plainB; simp [r1, r2])
  clear HT HAt HR HS hs
  go_enter Tryd.func58, Tryd.ntmps58
  go_wp2_with (first | (go_at_call 35; refine (l1In_any _ _ _ _).mono ?_; rintro e w1 ⟨rfl, ⟨n, rfl⟩⟩))
  go_ret
  exact ⟨by rw [HF.out]; first | rfl | simp, by repeat (first | exact Below.refl _ _ | apply zA | apply zN | apply zD)⟩
 | true =>
 cases r3 : rgB x4 0 1000 with
 | false =>
  have HF := zM (show inodeOkS l x1 x2 x3 x4 p q s ds = false from by unfold inodeOkS plainB; simp [r1, r2, r3])
  clear HT HAt HR HS hs
  go_enter Tryd.func58, Tryd.ntmps58
  go_wp2_with (first | (go_at_call 35; refine (l1In_any _ _ _ _).mono ?_; rintro e w1 ⟨rfl, ⟨n, rfl⟩⟩))
  go_ret
  exact ⟨by rw [HF.out]; first | rfl | simp, by repeat (first | exact Below.refl _ _ | apply zA | apply zN | apply zD)⟩
 | true =>
 by_cases k2 : x1 = 2
 ·subst k2
  have HF0 := zM (show inodeOkS l 2 x2 x3 x4 p q s ds = (decide (s.size = 0) && (decide (ds.length ≤ 12) && (rgB p 0 400 && (rgB q 0 24 && namesFromS l ds ds.length 0)))) from by unfold inodeOkS; simp [r1, r2, r3])
  have e6i : decide ((ds.length : Int) = 0) = decide (ds.length = 0) := decide_eq_decide.2 (by omega)
  have e6j : ((ds.length : Int) == 0) = decide (ds.length = 0) := by apply Bool.eq_iff_iff.2; simp
  by_cases e0 : s.size = 0
  ·have e1 := nil_forms s e0
   have e2 : (s.toList == ([] : List UInt8)) = true := by rw [e1]; rfl
   have e3 : s.toList.isEmpty = true := by rw [e1]; rfl
   by_cases e12 : ds.length ≤ 12
   ·have e12d : decide (12 < (ds.length : Int)) = false := zG (by omega)
    have e12n : decide (12 < ds.length) = false := zG (by omega)
    cases r5 : rgB p 0 400 with
    | false =>
     have HF := zM (show inodeOkS l 2 x2 x3 x4 p q s ds = false from by rw [HF0.out]; simp [r5])
     clear HT HAt HR HS hs HF0
     cases d1 : decide (ds.length = 0) <;> cases d2 : (p == 0)
     all_goals
      rw [d1] at e6i e6j
      go_enter Tryd.func58, Tryd.ntmps58
      go_wp2_with (go_at_call 35; refine (l1In_any _ _ _ _).mono ?_; rintro e w1 ⟨rfl, ⟨n, rfl⟩⟩)
      go_ret
      exact ⟨by rw [HF.out]; rfl, by repeat (first | exact Below.refl _ _ | apply zA | apply zN | apply zD)⟩
    | true =>
     cases r6 : rgB q 0 24 with
     | false =>
      have HF := zM (show inodeOkS l 2 x2 x3 x4 p q s ds = false from by rw [HF0.out]; simp [r6])
      clear HT HAt HR HS hs HF0
      cases d1 : decide (ds.length = 0) <;> cases d2 : (p == 0)
      all_goals
       rw [d1] at e6i e6j
       go_enter Tryd.func58, Tryd.ntmps58
       go_wp2_with (go_at_call 35; refine (l1In_any _ _ _ _).mono ?_; rintro e w1 ⟨rfl, ⟨n, rfl⟩⟩)
       go_ret
       exact ⟨by rw [HF.out]; rfl, by repeat (first | exact Below.refl _ _ | apply zA | apply zN | apply zD)⟩
     | true =>
      have HF := zM (show inodeOkS l 2 x2 x3 x4 p q s ds = namesFromS l ds ds.length 0 from by rw [HF0.out]; simp [e0, e12, r5, r6])
      clear HF0 HT hs e0
      cases d1 : decide (ds.length = 0) <;> cases d2 : (p == 0)
      all_goals
       rw [d1] at e6i e6j
       go_enter Tryd.func58, Tryd.ntmps58
       go_wp2_with (go_at_call 35; refine (l1In_any _ _ _ _).mono ?_; rintro e w1 ⟨rfl, ⟨n, rfl⟩⟩)
       generalize hq : (w.alloc (.cells #[.int .i64 nx, .slice A l.length c] 45)).alloc (.cells #[.int .i64 x0, .int .i64 2, .int .i64 x2, .int .i64 x3, .int .i64 x4, .string s, .slice A6 ds.length c6, .int .i64 p, .int .i64 q] 90) = w1
       have HB1 := zM (show Below w.heap.size w w1 from by rw [← hq]; exact zA (zA (Below.refl _ _) _) _)
       have HK0 := zM (show w1.heap[w.heap.size]? = some (.cells #[.int .i64 nx, .slice A l.length c] 45 (0, 0)) from by rw [← hq]; exact zB (heap_alloc_new w _) _)
       have HK1 := zM (show w1.heap[w.heap.size + 1]? = some (.cells #[.int .i64 x0, .int .i64 2, .int .i64 x2, .int .i64 x3, .int .i64 x4, .string s, .slice A6 ds.length c6, .int .i64 p, .int .i64 q] 90 (0, 0)) from by
        rw [← hq]
        have h1 := heap_alloc_new (w.alloc (.cells #[.int .i64 nx, .slice A l.length c] 45)) (.cells #[.int .i64 x0, .int .i64 2, .int .i64 x2, .int .i64 x3, .int .i64 x4, .string s, .slice A6 ds.length c6, .int .i64 p, .int .i64 q] 90)
        rw [show (w.alloc (.cells #[.int .i64 nx, .slice A l.length c] 45)).heap.size = w.heap.size + 1 from by simp] at h1
        exact h1)
       have HR1 := zM (Kd.C_below HR.out HB1.out)
       have HA1 := zM (fun W (hW : Below w1.heap.size w1 W) id => HAt.out W (zH HB1.out HB1.out.size hW) id)
       generalize w.heap.size + 1 = gb1 at HK1 ⊢
       obtain ⟨gb0, hgb⟩ : ∃ q, q = w.heap.size := ⟨_, rfl⟩
       rw [← hgb] at HK0 ⊢
       have HGB := zM hgb
       clear hq hgb HR HAt r1 r2 r3 r5 r6
       go_loopg [6] ds.length (fun kq v6 w' => ∃ (x : Nat), v6 = .int .i64 (x : Int) ∧ Aside0 (x + kq = ds.length ∧ namesFromS l ds kq x = namesFromS l ds ds.length 0) ∧ Aside0 (Below w1.heap.size w1 w'))
       case atStart => exact ⟨0, rfl, ⟨by omega, rfl⟩, ⟨by repeat (first | exact Below.refl _ _ | apply zA | apply zN | apply zD)⟩⟩
       case round =>
        obtain ⟨x, rfl, HX, HB⟩ := hrel
        have hl : gk ≤ ds.length ∧ x ≤ ds.length := by have := HX.out.1; omega
        have hK6 : wr.cell? ⟨gb1, 6, none⟩ = some (.slice A6 ds.length c6) := (HB.out.cell (p := ⟨gb1, 6, none⟩) (blk_lt HK1.out)).trans ((zC HK1.out 6).trans rfl)
        by_cases hlt : x < ds.length
        ·cases gk with
         | zero => have := HX.out.1; omega
         | succ k1 =>
         obtain ⟨adN, eA, hy0, hy1⟩ := dir_at HR1.out HB.out x hlt
         subst eA
         obtain ⟨sn, hsn⟩ : ∃ q, q = ds[x].f0 := ⟨_, rfl⟩
         obtain ⟨v, hv⟩ : ∃ q, q = ds[x].f1 := ⟨_, rfl⟩
         rw [← hsn] at hy0
         rw [← hv] at hy1
         have HNF := zM (show namesFromS l ds (k1 + 1) x = (nmB sn && ((x == 0 || lessS (dAt ds (x - 1)).f0 sn) && (!(v == 1) && decide (inoI l v < l.length))) && namesFromS l ds k1 (x + 1)) from by
          rw [namesFromS, nameAtS, dAt_eq ds x hlt, ← hsn, ← hv])
         obtain ⟨sp, hsp⟩ : ∃ q, q = (dAt ds (x - 1)).f0 := ⟨_, rfl⟩
         rw [← hsp] at HNF
         have HN0 := nameS_any sn
         have HI0 := fun (W : World) (hW : Below w1.heap.size w1 W) => HA1.out W hW v
         have HAv := zM (atV_neg l v)
         generalize atV l v = av at HI0 HAv
         have HJ := zM (show 0 < x → ∃ j : Int, wrap64 ((x : Int) - 1) = j ∧ 0 ≤ j ∧ j < (ds.length : Int) ∧ ∀ W, Below w1.heap.size w1 W → ∃ ad, some adN = some ad ∧ W.cell? (ad.add (j.toNat * 2)) = some (.string sp) from fun hx => ⟨((x - 1 : Nat) : Int), by unfold wrap64; omega, by omega, by omega, fun W hW => by
          obtain ⟨ad, e1, h1, -⟩ := dir_at HR1.out hW (x - 1) (by omega)
          rw [← dAt_eq ds (x - 1) (by omega), ← hsp] at h1
          exact ⟨ad, e1, by rw [Int.toNat_natCast]; exact h1⟩⟩)
         clear hl hsn hv hsp
         go_wp2
         generalize hq : wr.alloc (.cells #[.string sn, .int .i64 v] 117) = wi
         have HBi := zM (show Below w1.heap.size w1 wi from by rw [← hq]; exact zA HB.out _)
         have hd0 : ∀ y : Grow wi, y.W.cell? ⟨wr.heap.size, 0, none⟩ = some (.string sn) := fun y => y.cell (by rw [← hq]; exact (zC (heap_alloc_new wr _) 0).trans rfl)
         have hd1 : ∀ y : Grow wi, y.W.cell? ⟨wr.heap.size, 1, none⟩ = some (.int .i64 v) := fun y => y.cell (by rw [← hq]; exact (zC (heap_alloc_new wr _) 1).trans rfl)
         have hn6 : ∀ y : Grow wi, y.W.cell? ⟨gb1, 6, none⟩ = some (.slice (some adN) ds.length c6) := fun y => y.cell ((HBi.out.cell (p := ⟨gb1, 6, none⟩) (blk_lt HK1.out)).trans ((zC HK1.out 6).trans rfl))
         have hv0 : ∀ y : Grow wi, y.W.cell? ⟨gb0, 0, none⟩ = some (.int .i64 nx) := fun y => y.cell ((HBi.out.cell (p := ⟨gb0, 0, none⟩) (blk_lt HK0.out)).trans ((zC HK0.out 0).trans rfl))
         have hv1 : ∀ y : Grow wi, y.W.cell? ⟨gb0, 1, none⟩ = some (.slice A l.length c) := fun y => y.cell ((HBi.out.cell (p := ⟨gb0, 1, none⟩) (blk_lt HK0.out)).trans ((zC HK0.out 1).trans rfl))
         generalize wr.heap.size = gd at hd0 hd1 ⊢
         clear hy0 hy1 HB hq hK6
         have HI1 := zM (fun (y : Grow wi) => HI0 y.W (zH HBi.out HBi.out.size y.hb))
         clear HI0
         cases b1 : nmB sn with
         | false =>
          have HG := zM (show namesFromS l ds (k1 + 1) x = false from by rw [HNF.out, b1]; rfl)
          rw [b1] at HN0
          have HN := zM HN0
          have HI := HI1
          clear HN0 HI1 b1
          refine wp_region_grow (by kernel_rfl) (by kernel_rfl) ?_
          repeat (go_big_quiet_step (first | (go_at_call 91; exact grow_draw (HN.out _)) | (go_at_call 65; exact grow_call (HI.out _))))
          refine wpQuiet_nil ?_
          rintro _ ⟨yw, rfl⟩
          have HBy := zM (zH HBi.out HBi.out.size yw.hb)
          generalize yw.W = wy at HBy ⊢

          go_wp2
          go_ret
          exact ⟨by rw [HF.out, ← HX.out.2, HG.out]; rfl, zH HB1.out HB1.out.size HBy.out⟩
         | true =>
          rw [b1] at HN0
          have HN := zM HN0
          clear HN0
          by_cases b4 : 0 < x
          ·obtain ⟨j, hj, hj0, hj1, hjc⟩ := HJ.out b4
           have hjw : IntKind.i64.wrap ((x : Int) - 1) = j := (i64_w _).trans hj
           have b4d : decide (0 < x) = true := zE b4
           have b4i : decide (0 < (x : Int)) = true := zE (by omega)
           have hp0 : ∀ y : Grow wi, y.W.cell? (adN.add (j.toNat * 2)) = some (.string sp) := fun y => by
            obtain ⟨ad, e1, h1⟩ := hjc y.W (zH HBi.out HBi.out.size y.hb)
            injection e1 with e1
            rw [e1]; exact h1
           replace hj0 := eq_true hj0
           replace hj1 := eq_true hj1
           have hx0 : (x == 0) = false := by rw [beq_eq_false_iff_ne]; omega
           cases b5 : lessS sp sn with
           | false =>
            have HG := zM (show namesFromS l ds (k1 + 1) x = false from by rw [HNF.out, b1, hx0, b5]; rfl)
            have b5' : Op.bytesLess sp.toList sn.toList = false := b5
            have HI := HI1
            clear HI1 b1 hx0 b4 hj hjc b5
            refine wp_region_grow (by kernel_rfl) (by kernel_rfl) ?_
            repeat (go_big_quiet_step (first | (go_at_call 91; exact grow_draw (HN.out _)) | (go_at_call 65; exact grow_call (HI.out _))))
            refine wpQuiet_nil ?_
            rintro _ ⟨yw, rfl⟩
            have HBy := zM (zH HBi.out HBi.out.size yw.hb)
            generalize yw.W = wy at HBy ⊢

            go_wp2
            go_ret
            exact ⟨by rw [HF.out, ← HX.out.2, HG.out]; rfl, zH HB1.out HB1.out.size HBy.out⟩
           | true =>
            have b5' : Op.bytesLess sp.toList sn.toList = true := b5
            cases b2 : (v == 1) with
            | true =>
             have HG := zM (show namesFromS l ds (k1 + 1) x = false from by rw [HNF.out, b1, hx0, b5, b2]; rfl)
             have HI := HI1
             clear HI1 b1 hx0 b4 hj hjc b5
             refine wp_region_grow (by kernel_rfl) (by kernel_rfl) ?_
             repeat (go_big_quiet_step (first | (go_at_call 91; exact grow_draw (HN.out _)) | (go_at_call 65; exact grow_call (HI.out _))))
             refine wpQuiet_nil ?_
             rintro _ ⟨yw, rfl⟩
             have HBy := zM (zH HBi.out HBi.out.size yw.hb)
             generalize yw.W = wy at HBy ⊢

             go_wp2
             go_ret
             exact ⟨by rw [HF.out, ← HX.out.2, HG.out]; rfl, zH HB1.out HB1.out.size HBy.out⟩
            | false =>
             cases b3 : decide (inoI l v < l.length) with
             | false =>
              have b3' : decide (av < 0) = true := by rw [HAv.out, b3]; rfl
              have HG := zM (show namesFromS l ds (k1 + 1) x = false from by rw [HNF.out, b1, hx0, b5, b2, b3]; rfl)
              have HI := HI1
              clear HI1 b1 b3 hx0 b4 hj hjc b5
              refine wp_region_grow (by kernel_rfl) (by kernel_rfl) ?_
              repeat (go_big_quiet_step (first | (go_at_call 91; exact grow_draw (HN.out _)) | (go_at_call 65; exact grow_call (HI.out _))))
              refine wpQuiet_nil ?_
              rintro _ ⟨yw, rfl⟩
              have HBy := zM (zH HBi.out HBi.out.size yw.hb)
              generalize yw.W = wy at HBy ⊢

              go_wp2
              go_ret
              exact ⟨by rw [HF.out, ← HX.out.2, HG.out]; rfl, zH HB1.out HB1.out.size HBy.out⟩
             | true =>
              have b3' : decide (av < 0) = false := by rw [HAv.out, b3]; rfl
              have HG := zM (show namesFromS l ds (k1 + 1) x = namesFromS l ds k1 (x + 1) from by rw [HNF.out, b1, hx0, b5, b2, b3]; rfl)
              have HI := HI1
              clear HI1 b1 b3 hx0 b4 hj hjc b5
              refine wp_region_grow (by kernel_rfl) (by kernel_rfl) ?_
              repeat (go_big_quiet_step (first | (go_at_call 91; exact grow_draw (HN.out _)) | (go_at_call 65; exact grow_call (HI.out _))))
              refine wpQuiet_nil ?_
              rintro _ ⟨yw, rfl⟩
              have HBy := zM (zH HBi.out HBi.out.size yw.hb)
              generalize yw.W = wy at HBy ⊢

              go_wp2
              go_roundg k1
              case measure => omega
              case rel => exact ⟨x + 1, by go_num, ⟨by have := HX.out.1; omega, by rw [← HX.out.2, HG.out]⟩, HBy⟩
          ·have hx0 : x = 0 := by omega
           subst hx0
           cases b2 : (v == 1) with
           | true =>
            have HG := zM (show namesFromS l ds (k1 + 1) 0 = false from by rw [HNF.out, b1, b2]; rfl)
            have HI := HI1
            clear HI1 b1 
            refine wp_region_grow (by kernel_rfl) (by kernel_rfl) ?_
            repeat (go_big_quiet_step (first | (go_at_call 91; exact grow_draw (HN.out _)) | (go_at_call 65; exact grow_call (HI.out _))))
            refine wpQuiet_nil ?_
            rintro _ ⟨yw, rfl⟩
            have HBy := zM (zH HBi.out HBi.out.size yw.hb)
            generalize yw.W = wy at HBy ⊢

            go_wp2
            go_ret
            exact ⟨by rw [HF.out, ← HX.out.2, HG.out]; rfl, zH HB1.out HB1.out.size HBy.out⟩
           | false =>
            cases b3 : decide (inoI l v < l.length) with
            | false =>
             have b3' : decide (av < 0) = true := by rw [HAv.out, b3]; rfl
             have HG := zM (show namesFromS l ds (k1 + 1) 0 = false from by rw [HNF.out, b1, b2, b3]; rfl)
             have HI := HI1
             clear HI1 b1 b3 
             refine wp_region_grow (by kernel_rfl) (by kernel_rfl) ?_
             repeat (go_big_quiet_step (first | (go_at_call 91; exact grow_draw (HN.out _)) | (go_at_call 65; exact grow_call (HI.out _))))
             refine wpQuiet_nil ?_
             rintro _ ⟨yw, rfl⟩
             have HBy := zM (zH HBi.out HBi.out.size yw.hb)
             generalize yw.W = wy at HBy ⊢

             go_wp2
             go_ret
             exact ⟨by rw [HF.out, ← HX.out.2, HG.out]; rfl, zH HB1.out HB1.out.size HBy.out⟩
            | true =>
             have b3' : decide (av < 0) = false := by rw [HAv.out, b3]; rfl
             have HG := zM (show namesFromS l ds (k1 + 1) 0 = namesFromS l ds k1 (0 + 1) from by rw [HNF.out, b1, b2, b3]; rfl)
             have HI := HI1
             clear HI1 b1 b3 
             refine wp_region_grow (by kernel_rfl) (by kernel_rfl) ?_
             repeat (go_big_quiet_step (first | (go_at_call 91; exact grow_draw (HN.out _)) | (go_at_call 65; exact grow_call (HI.out _))))
             refine wpQuiet_nil ?_
             rintro _ ⟨yw, rfl⟩
             have HBy := zM (zH HBi.out HBi.out.size yw.hb)
             generalize yw.W = wy at HBy ⊢

             go_wp2
             go_roundg k1
             case measure => omega
             case rel => exact ⟨0 + 1, by go_num, ⟨by have := HX.out.1; omega, by rw [← HX.out.2, HG.out]⟩, HBy⟩
        ·have HG := zM (show namesFromS l ds ds.length 0 = true from by
          have h1 := HX.out
          have e : gk = 0 := by omega
          rw [e] at h1; exact h1.2.symm)
         clear hl
         go_wp2
         go_ret
         exact ⟨by rw [HF.out, HG.out]; rfl, zH HB1.out HB1.out.size HB.out⟩
   ·have e12d : decide (12 < (ds.length : Int)) = true := zE (by omega)
    have e12n : decide (12 < ds.length) = true := zE (by omega)
    have HF := zM (show inodeOkS l 2 x2 x3 x4 p q s ds = false from by rw [HF0.out]; simp [e12])
    clear HT HAt HR HS hs HF0
    cases d1 : decide (ds.length = 0) <;> cases d2 : (p == 0)
    all_goals
     rw [d1] at e6i e6j
     go_enter Tryd.func58, Tryd.ntmps58
     go_wp2_with (go_at_call 35; refine (l1In_any _ _ _ _).mono ?_; rintro e w1 ⟨rfl, ⟨n, rfl⟩⟩)
     go_ret
     exact ⟨by rw [HF.out]; rfl, by repeat (first | exact Below.refl _ _ | apply zA | apply zN | apply zD)⟩
  ·have e1 := nil_not s e0
   have e2 : (s.toList == ([] : List UInt8)) = false := by rw [beq_eq_false_iff_ne]; exact e1
   have e3 : s.toList.isEmpty = false := by cases h : s.toList with
    | nil => exact absurd h e1
    | cons a b => rfl
   have HF := zM (show inodeOkS l 2 x2 x3 x4 p q s ds = false from by rw [HF0.out]; simp [e0])
   clear HT HAt HR HS hs HF0
   cases d1 : decide (ds.length = 0) <;> cases d2 : (p == 0)
   all_goals
    rw [d1] at e6i e6j
    go_enter Tryd.func58, Tryd.ntmps58
    go_wp2_with (go_at_call 35; refine (l1In_any _ _ _ _).mono ?_; rintro e w1 ⟨rfl, ⟨n, rfl⟩⟩)
    go_ret
    exact ⟨by rw [HF.out]; rfl, by repeat (first | exact Below.refl _ _ | apply zA | apply zN | apply zD)⟩
 ·have k2b : (x1 == 2) = false := by simpa using k2
  have e6i : decide ((ds.length : Int) = 0) = decide (ds.length = 0) := decide_eq_decide.2 (by omega)
  have e6j : ((ds.length : Int) == 0) = decide (ds.length = 0) := by apply Bool.eq_iff_iff.2; simp
  have HP : Aside0 (plainB p q ds = (decide (ds.length = 0) && (p == 0 && q == 0))) := ⟨rfl⟩
  by_cases k1 : x1 = 1
  ·subst k1
   clear k2
   cases d1 : decide (ds.length = 0) <;> cases d2 : (p == 0) <;> cases d3 : (q == 0)
   all_goals
    have HF := zM (show inodeOkS l 1 x2 x3 x4 p q s ds = (plainB p q ds && decide ((s.size : Int) ≤ 64)) from by unfold inodeOkS; simp only [r1, r2, r3, Bool.true_and, if_true]; congr 1; exact decide_eq_decide.2 (by omega))
    rw [d1] at e6i e6j
    clear HT HAt HR HS hs
    go_enter Tryd.func58, Tryd.ntmps58
    go_wp2_with (go_at_call 35; refine (l1In_any _ _ _ _).mono ?_; rintro e w1 ⟨rfl, ⟨n, rfl⟩⟩)
    go_ret
    exact ⟨by rw [HF.out, HP.out, d1, d2, d3]; first | rfl | simp, by repeat (first | exact Below.refl _ _ | apply zA | apply zN | apply zD)⟩
  ·have k1b : (x1 == 1) = false := by simpa using k1
   by_cases k3 : x1 = 3
   ·subst k3
    cases d1 : decide (ds.length = 0) <;> cases d2 : (p == 0) <;> cases d3 : (q == 0) <;> cases t1 : tgB s
    all_goals
     have HF := zM (show inodeOkS l 3 x2 x3 x4 p q s ds = (plainB p q ds && (tgB s && x2 == 511)) from by unfold inodeOkS; simp [r1, r2, r3])
     rw [d1] at e6i e6j
     rw [t1] at HT
     clear HAt HR HS hs k2 k1
     go_enter Tryd.func58, Tryd.ntmps58
     go_wp2_with (first | (go_at_call 35; refine (l1In_any _ _ _ _).mono ?_; rintro e w1 ⟨rfl, ⟨n, rfl⟩⟩) | (go_at_call 90; refine (HT.out _).mono ?_; rintro e w1 ⟨rfl, ⟨n, rfl⟩⟩))
     go_ret
     exact ⟨by rw [HF.out, HP.out, d1, d2, d3, t1]; first | rfl | simp, by repeat (first | exact Below.refl _ _ | apply zA | apply zN | apply zD)⟩
   ·have k3b : (x1 == 3) = false := by simpa using k3
    cases d1 : decide (ds.length = 0) <;> cases d2 : (p == 0) <;> cases d3 : (q == 0)
    all_goals
     have HF := zM (show inodeOkS l x1 x2 x3 x4 p q s ds = false from by unfold inodeOkS; simp [k1, k2, k3])
     rw [d1] at e6i e6j
     clear HT HAt HR HS hs k2 k1 k3
     go_enter Tryd.func58, Tryd.ntmps58
     go_wp2_with (go_at_call 35; refine (l1In_any _ _ _ _).mono ?_; rintro e w1 ⟨rfl, ⟨n, rfl⟩⟩)
     go_ret
     exact ⟨by rw [HF.out]; first | rfl | simp, by repeat (first | exact Below.refl _ _ | apply zA | apply zN | apply zD)⟩
end

end Go.Proofs.YtiopcpkfjikfdaaDoor.PFnExactWalk
