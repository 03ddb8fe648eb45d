import Derived.Test.YtiopcpkfjikfdaaGreatDoorQFnCleanx16
namespace Go.Proofs.YtiopcpkfjikfdaaGreatDoor.PFnClean
open Go.RowKit Go.Proofs.YtiopcpkfjikfdaaGreatDoorW.PrintWords Go.Proofs.YtiopcpkfjikfdaaGreatDoorW.PrintLast Go.Proofs.YtiopcpkfjikfdaaGreatDoorW.PrintMore
attribute [local go_sem] max2_int min2_int max_two min_two max_three min_three max_four min_four   -- for this text's walks alone
set_option linter.unusedVariables false
set_option linter.unusedSimpArgs false
section
open Go.Proofs.YtiopcpkfjikfdaaGreatDoor.Mth Go.Proofs.YtiopcpkfjikfdaaGreatDoor.Str
structure Shut (l : List S37) : Prop where
 inj : ∀ i j (hi : i < l.length) (hj : j < l.length), l[i].f0 = l[j].f0 → i = j
 led : ∀ x ∈ l, ∀ d ∈ x.f6, inoI l d.f1 < l.length
theorem inoI_self {l : List S37} (h : Shut l) (i : Nat) (hi : i < l.length) : inoI l l[i].f0 = i :=
 inoI_yes l _ i hi rfl (fun j hj e => by have := h.inj j i (by omega) hi e; omega)
theorem inoI_id (l : List S37) (v : Int) (h : inoI l v < l.length) : l[inoI l v].f0 = v := by
 have h1 : ((fun x : S37 => x.f0 == v) l[inoI l v]) = true := List.findIdx_getElem (w := h)
 simpa using h1
/-- an id's names -/
def nmsOf (l : List S37) (v : Int) : List S59 := match l[inoI l v]? with
 | some x => x.f6
 | none => []
theorem nmsOf_at {l : List S37} (h : Shut l) (i : Nat) (hi : i < l.length) : nmsOf l l[i].f0 = l[i].f6 := by
 unfold nmsOf
 rw [inoI_self h i hi, List.getElem?_eq_getElem hi]
inductive Rch (l : List S37) (id : Int) : Int → Prop where
  | one {d : S59} (h : d ∈ nmsOf l id) : Rch l id d.f1
  | step {u : Int} {d : S59} (hu : Rch l id u) (h : d ∈ nmsOf l u) : Rch l id d.f1
theorem addAll_mem : ∀ (ds : List S59) (out : List Int) (v : Int), v ∈ addAll out ds ↔ v ∈ out ∨ ∃ d ∈ ds, d.f1 = v
 | [], out, v => by simp [addAll]
 | d :: ds, out, v => by
  have ih := addAll_mem ds (addD out d) v
  have e : addAll out (d :: ds) = addAll (addD out d) ds := rfl
  rw [e, ih]
  have hd : v ∈ addD out d ↔ v ∈ out ∨ d.f1 = v := by
   unfold addD
   by_cases h : out.contains d.f1 = true
   ·rw [if_pos h]
    rw [List.contains_iff_mem] at h
    constructor
    ·exact Or.inl
    ·rintro (h1 | rfl)
     ·exact h1
     ·exact h
   ·rw [if_neg h, List.mem_append, List.mem_singleton]
    constructor
    ·rintro (h1 | rfl)
     ·exact Or.inl h1
     ·exact Or.inr rfl
    ·rintro (h1 | rfl)
     ·exact Or.inl h1
     ·exact Or.inr rfl
  rw [hd]
  constructor
  ·rintro ((h | h) | ⟨d', h1, h2⟩)
   ·exact Or.inl h
   ·exact Or.inr ⟨d, by simp, h⟩
   ·exact Or.inr ⟨d', by simp [h1], h2⟩
  ·rintro (h | ⟨d', h1, h2⟩)
   ·exact Or.inl (Or.inl h)
   ·rcases List.mem_cons.1 h1 with rfl | h1
    ·exact Or.inl (Or.inr h2)
    ·exact Or.inr ⟨d', h1, h2⟩
theorem addAll_prefix : ∀ (ds : List S59) (out : List Int), ∃ t, addAll out ds = out ++ t
 | [], out => ⟨[], by simp [addAll]⟩
 | d :: ds, out => by
  obtain ⟨t, ht⟩ := addAll_prefix ds (addD out d)
  have e : addAll out (d :: ds) = addAll (addD out d) ds := rfl
  rw [e, ht]
  unfold addD
  split
  ·exact ⟨t, rfl⟩
  ·exact ⟨d.f1 :: t, by rw [List.append_assoc]; rfl⟩
theorem bfs_spec (l : List S37) (id : Int) : ∀ (k i : Nat) (out : List Int), PFnClean.Met l out → (∀ v ∈ out, Rch l id v) → i + k = (allIds l).length + 2 → i ≤ (id :: out).length →
  (∀ m, m < i → ∀ d ∈ nmsOf l ((id :: out).getD m 0), d.f1 ∈ out) → (∀ v ∈ bfs l id k i out, Rch l id v) ∧ ∀ u ∈ id :: bfs l id k i out, ∀ d ∈ nmsOf l u, d.f1 ∈ bfs l id k i out := by
 intro k
 induction k with
 | zero =>
  intro i out hm hs hk hi hp
  have := hm.len
  rw [List.length_cons] at hi
  omega
 | succ k ih =>
  intro i out hm hs hk hi hp
  by_cases hlt : i < (id :: out).length
  ·have hst : bfs l id (k + 1) i out = bfs l id k (i + 1) (addAll out (nmsOf l ((id :: out).getD i 0))) := by
    rw [bfs, if_pos hlt]
    unfold nmsOf
    cases l[inoI l ((id :: out).getD i 0)]? <;> rfl
   rw [hst]
   have hq : (id :: out).getD i 0 ∈ id :: out := by
    rw [List.getD_eq_getElem?_getD, List.getElem?_eq_getElem hlt]; exact List.getElem_mem hlt
   have hqr : (id :: out).getD i 0 = id ∨ Rch l id ((id :: out).getD i 0) := by
    rcases List.mem_cons.1 hq with h | h
    ·exact Or.inl h
    ·exact Or.inr (hs _ h)
   generalize hqe : (id :: out).getD i 0 = q at hq hqr ⊢
   have hall : ∀ d ∈ nmsOf l q, d.f1 ∈ allIds l := by
    intro d hd
    unfold nmsOf at hd
    split at hd
    ·rename_i x hx
     unfold allIds
     rw [List.mem_flatMap]
     exact ⟨x, List.mem_of_getElem? hx, List.mem_map_of_mem hd⟩
    ·cases hd
   obtain ⟨t, ht⟩ := addAll_prefix (nmsOf l q) out
   refine ih (i + 1) _ (addAll_met l _ _ hall hm) ?_ (by omega) ?_ ?_
   ·intro v hv
    rcases (addAll_mem _ _ _).1 hv with h | ⟨d, hd, rfl⟩
    ·exact hs v h
    ·rcases hqr with rfl | hr
     ·exact Rch.one hd
     ·exact Rch.step hr hd
   ·rw [ht, List.length_cons, List.length_append]
    rw [List.length_cons] at hlt
    omega
   ·intro m hmi d hd
    have hpre : (id :: addAll out (nmsOf l q)).getD m 0 = (id :: out).getD m 0 := by
     rw [ht, ← List.cons_append, List.getD_eq_getElem?_getD, List.getD_eq_getElem?_getD, List.getElem?_append_left (by omega)]
    rw [hpre] at hd
    by_cases e : m = i
    ·subst e
     rw [hqe] at hd
     exact (addAll_mem _ _ _).2 (Or.inr ⟨d, hd, rfl⟩)
    ·exact (addAll_mem _ _ _).2 (Or.inl (hp m (by omega) d hd))
  ·rw [bfs, if_neg hlt]
   refine ⟨hs, fun u hu d hd => ?_⟩
   obtain ⟨m, hm1, rfl⟩ := List.getElem_of_mem hu
   refine hp m (by omega) d ?_
   rw [List.getD_eq_getElem?_getD, List.getElem?_eq_getElem hm1]
   exact hd
theorem belowL_iff (l : List S37) (id v : Int) : v ∈ belowL l id ↔ Rch l id v := by
 have h := bfs_spec l id ((allIds l).length + 2) 0 [] ⟨by simp, by simp⟩ (by simp) (by omega) (by simp) (fun m hm => absurd hm (by omega))
 constructor
 ·exact h.1 v
 ·intro hr
  induction hr with
  | one hd => exact h.2 id (by simp) _ hd
  | step _ hd ih => exact h.2 _ (List.mem_cons_of_mem _ ih) _ hd
theorem belowL_nodup (l : List S37) (id : Int) : (belowL l id).Nodup := (bfs_met l id ((allIds l).length + 2) 0 [] ⟨by simp, by simp⟩).nd
theorem rch_led {l : List S37} (h : Shut l) {id v : Int} (hr : Rch l id v) : inoI l v < l.length := by
 have key : ∀ u d, d ∈ nmsOf l u → inoI l d.f1 < l.length := by
  intro u d hd
  unfold nmsOf at hd
  split at hd
  ·rename_i x hx; exact h.led x (List.mem_of_getElem? hx) d hd
  ·cases hd
 cases hr with
 | one hd => exact key _ _ hd
 | step _ hd => exact key _ _ hd
theorem getD_set (b : List Bool) (i j : Nat) (hi : i < b.length) : (b.set i true).getD j false = (b.getD j false || decide (i = j)) := by
 rw [List.getD_eq_getElem?_getD, List.getD_eq_getElem?_getD, List.getElem?_set]
 by_cases e : i = j
 ·subst e; simp [hi]
 ·simp [e]
structure Inv2 (l : List S37) (s : Nat) (st : List Bool × List Bool) : Prop where
 len : Len2 l st
 opn : ∀ j, st.2.getD j false = (st.1.getD j false || decide (s = j))
def Le1 (a b : List Bool × List Bool) : Prop := ∀ j, a.1.getD j false = true → b.1.getD j false = true
theorem Le1.refl (a : List Bool × List Bool) : Le1 a a := fun _ h => h
theorem Le1.trans {a b c : List Bool × List Bool} (h : Le1 a b) (k : Le1 b c) : Le1 a c := fun j hj => k j (h j hj)
theorem markD_inv {l : List S37} {s : Nat} {st : List Bool × List Bool} (h : Inv2 l s st) (d : S59) : Inv2 l s (markD l st d) ∧ Le1 st (markD l st d) ∧ (inoI l d.f1 < l.length → (markD l st d).1.getD (inoI l d.f1) false = true) := by
 refine ⟨⟨markD_len h.len d, ?_⟩, ?_, ?_⟩
 ·intro j
  unfold markD
  split
  ·rename_i hlt
   rw [getD_set _ _ _ (by rw [h.len.2]; exact hlt), getD_set _ _ _ (by rw [h.len.1]; exact hlt), h.opn j]
   cases st.1.getD j false <;> cases decide (s = j) <;> cases decide (inoI l d.f1 = j) <;> rfl
  ·exact h.opn j
 ·intro j hj
  unfold markD
  split
  ·rename_i hlt
   rw [getD_set _ _ _ (by rw [h.len.1]; exact hlt), hj]; rfl
  ·exact hj
 ·intro hlt
  unfold markD
  rw [if_pos hlt, getD_set _ _ _ (by rw [h.len.1]; exact hlt)]
  simp
theorem markDs_inv {l : List S37} {s : Nat} : ∀ (ds : List S59) {st : List Bool × List Bool}, Inv2 l s st → Inv2 l s (markDs l st ds) ∧ Le1 st (markDs l st ds) ∧ ∀ d ∈ ds, inoI l d.f1 < l.length → (markDs l st ds).1.getD (inoI l d.f1) false = true
 | [], _, h => ⟨h, Le1.refl _, fun d hd => by cases hd⟩
 | d :: ds, st, h => by
  obtain ⟨h1, h2, h3⟩ := markD_inv h d
  obtain ⟨k1, k2, k3⟩ := markDs_inv ds h1
  have e : markDs l st (d :: ds) = markDs l (markD l st d) ds := rfl
  rw [e]
  refine ⟨k1, h2.trans k2, fun d' hd hlt => ?_⟩
  rcases List.mem_cons.1 hd with rfl | hd
  ·exact k2 _ (h3 hlt)
  ·exact k3 d' hd hlt
theorem rowS_inv {l : List S37} {s : Nat} {st : List Bool × List Bool} (h : Inv2 l s st) (i : Nat) : Inv2 l s (rowS l st i) ∧ Le1 st (rowS l st i) ∧ (st.2.getD i false = true → ∀ d ∈ (iAt l i).f6, inoI l d.f1 < l.length → (rowS l st i).1.getD (inoI l d.f1) false = true) := by
 unfold rowS
 by_cases ho : st.2.getD i false = true
 ·rw [if_pos ho]
  obtain ⟨k1, k2, k3⟩ := markDs_inv (iAt l i).f6 h
  exact ⟨k1, k2, fun _ => k3⟩
 ·rw [if_neg ho]
  exact ⟨h, Le1.refl _, fun h1 => absurd h1 ho⟩
theorem passFrom_inv {l : List S37} {s : Nat} : ∀ (d i : Nat) {st : List Bool × List Bool}, Inv2 l s st → Inv2 l s (passFrom l d i st) ∧ Le1 st (passFrom l d i st) ∧
  ∀ j, i ≤ j → j < i + d → st.2.getD j false = true → ∀ e ∈ (iAt l j).f6, inoI l e.f1 < l.length → (passFrom l d i st).1.getD (inoI l e.f1) false = true
 | 0, i, _, h => ⟨h, Le1.refl _, fun j h1 h2 => by omega⟩
 | d + 1, i, st, h => by
  obtain ⟨h1, h2, h3⟩ := rowS_inv h i
  obtain ⟨k1, k2, k3⟩ := passFrom_inv d (i + 1) h1
  rw [show passFrom l (d + 1) i st = passFrom l d (i + 1) (rowS l st i) from rfl]
  refine ⟨k1, h2.trans k2, fun j hj1 hj2 ho e he hlt => ?_⟩
  by_cases hji : j = i
  ·subst hji; exact k2 _ (h3 ho e he hlt)
  ·refine k3 j (by omega) (by omega) ?_ e he hlt
   rw [h1.opn j]
   rw [h.opn j] at ho
   rcases Bool.or_eq_true_iff.1 ho with h4 | h4
   ·rw [h2 j h4]; rfl
   ·rw [h4]; simp
def cnt (b : List Bool) : Nat := b.count true
theorem cnt_le : ∀ (a b : List Bool), a.length = b.length → (∀ j, a.getD j false = true → b.getD j false = true) → cnt a ≤ cnt b ∧ (a = b ∨ cnt a < cnt b)
 | [], [], _, _ => ⟨Nat.le_refl _, Or.inl rfl⟩
 | [], _ :: _, h, _ => by cases h
 | _ :: _, [], h, _ => by cases h
 | x :: a, y :: b, h, hle => by
  have hl : a.length = b.length := by simpa using h
  have h0 : x = true → y = true := fun hx => by have := hle 0; simpa [hx] using this
  obtain ⟨ih1, ih2⟩ := cnt_le a b hl (fun j hj => by have := hle (j + 1); simpa using this (by simpa using hj))
  unfold cnt at ih1 ih2 ⊢
  rw [List.count_cons, List.count_cons]
  cases x with
  | true =>
   rw [h0 rfl]
   refine ⟨by omega, ?_⟩
   rcases ih2 with rfl | h2
   ·exact Or.inl rfl
   ·exact Or.inr (by omega)
  | false =>
   cases y with
   | true => exact ⟨by simp; omega, Or.inr (by simp; omega)⟩
   | false =>
    refine ⟨by simpa using ih1, ?_⟩
    rcases ih2 with rfl | h2
    ·exact Or.inl rfl
    ·exact Or.inr (by simpa using h2)
theorem ext_getD : ∀ (a b : List Bool), a.length = b.length → (∀ j, a.getD j false = b.getD j false) → a = b := by
 intro a b h hj
 apply List.ext_getElem h
 intro i h1 h2
 have := hj i
 rwa [List.getD_eq_getElem?_getD, List.getD_eq_getElem?_getD, List.getElem?_eq_getElem h1, List.getElem?_eq_getElem h2] at this
/-- whatever is open leads to what is in -/
def Closed2 (l : List S37) (st : List Bool × List Bool) : Prop := ∀ j, j < l.length → st.2.getD j false = true → ∀ e ∈ (iAt l j).f6, inoI l e.f1 < l.length → st.1.getD (inoI l e.f1) false = true
theorem pass_grows {l : List S37} {s : Nat} {st : List Bool × List Bool} (h : Inv2 l s st) : (passFrom l l.length 0 st = st ∧ Closed2 l st) ∨ cnt st.1 < cnt (passFrom l l.length 0 st).1 := by
 obtain ⟨k1, k2, k3⟩ := passFrom_inv l.length 0 h
 have hl : st.1.length = (passFrom l l.length 0 st).1.length := by rw [h.len.1, k1.len.1]
 rcases (cnt_le _ _ hl k2).2 with e | hlt
 ·left
  have e2 : (passFrom l l.length 0 st).2 = st.2 := by
   refine ext_getD _ _ (by rw [k1.len.2, h.len.2]) (fun j => ?_)
   rw [k1.opn j, h.opn j, e]
  have e3 : passFrom l l.length 0 st = st := Prod.ext e.symm e2
  refine ⟨e3, fun j hj ho x hx hlt => ?_⟩
  have := k3 j (Nat.zero_le _) (by omega) ho x hx hlt
  rwa [e3] at this
 ·exact Or.inr hlt
theorem passes_fix {l : List S37} {st : List Bool × List Bool} (h : passFrom l l.length 0 st = st) : ∀ k, passes l k st = st
 | 0 => rfl
 | k + 1 => by rw [passes, h]; exact passes_fix h k
theorem passes_inv {l : List S37} {s : Nat} : ∀ (k : Nat) {st : List Bool × List Bool}, Inv2 l s st → Inv2 l s (passes l k st) ∧ (Closed2 l (passes l k st) ∨ cnt st.1 + k ≤ cnt (passes l k st).1)
 | 0, st, h => ⟨h, Or.inr (Nat.le_refl _)⟩
 | k + 1, st, h => by
  rcases pass_grows h with ⟨e, hc⟩ | hlt
  ·rw [passes_fix e (k + 1)]
   exact ⟨h, Or.inl hc⟩
  ·have k1 := (passFrom_inv l.length 0 h).1
   obtain ⟨j1, j2⟩ := passes_inv k k1
   rw [passes]
   refine ⟨j1, ?_⟩
   rcases j2 with hc | hle
   ·exact Or.inl hc
   ·exact Or.inr (by omega)
theorem cnt_full (b : List Bool) (h : b.length ≤ cnt b) (j : Nat) (hj : j < b.length) : b.getD j false = true := by
 have h1 : b.count true = b.length := Nat.le_antisymm List.count_le_length h
 have h2 := List.count_eq_length.1 h1 (b[j]) (List.getElem_mem hj)
 rw [List.getD_eq_getElem?_getD, List.getElem?_eq_getElem hj]
 exact h2.symm
theorem mem_rch {l : List S37} (h : Shut l) {i : Nat} (hi : i < l.length) {d : S59} (hd : d ∈ l[i].f6) : d ∈ nmsOf l l[i].f0 := by rw [nmsOf_at h i hi]; exact hd
/-- what is in, is reached -/
structure Sound (l : List S37) (id : Int) (st : List Bool × List Bool) : Prop where
 in_ : ∀ j (hj : j < l.length), st.1.getD j false = true → Rch l id l[j].f0
 op_ : ∀ j (hj : j < l.length), st.2.getD j false = true → l[j].f0 = id ∨ Rch l id l[j].f0
theorem sound_mark {l : List S37} (h : Shut l) {id : Int} {st : List Bool × List Bool} (hl : Len2 l st) (hs : Sound l id st) (d : S59) (hr : Rch l id d.f1) : Sound l id (markD l st d) := by
 unfold markD
 split
 ·rename_i hlt
  have e := inoI_id l d.f1 hlt
  constructor
  ·intro j hj hb
   rw [getD_set _ _ _ (by rw [hl.1]; exact hlt)] at hb
   rcases Bool.or_eq_true_iff.1 hb with h1 | h1
   ·exact hs.in_ j hj h1
   ·have e2 : inoI l d.f1 = j := zO h1
    subst e2; rw [e]; exact hr
  ·intro j hj hb
   rw [getD_set _ _ _ (by rw [hl.2]; exact hlt)] at hb
   rcases Bool.or_eq_true_iff.1 hb with h1 | h1
   ·exact hs.op_ j hj h1
   ·have e2 : inoI l d.f1 = j := zO h1
    subst e2; rw [e]; exact Or.inr hr
 ·exact hs
theorem sound_marks {l : List S37} (h : Shut l) {id : Int} : ∀ (ds : List S59) {st : List Bool × List Bool}, Len2 l st → Sound l id st → (∀ d ∈ ds, Rch l id d.f1) → Sound l id (markDs l st ds)
 | [], _, _, hs, _ => hs
 | d :: ds, st, hl, hs, hr => sound_marks h ds (markD_len hl d) (sound_mark h hl hs d (hr d (by simp))) (fun d' hd => hr d' (by simp [hd]))
theorem sound_row {l : List S37} (h : Shut l) {id : Int} {st : List Bool × List Bool} (hl : Len2 l st) (hs : Sound l id st) (i : Nat) (hi : i < l.length) : Sound l id (rowS l st i) := by
 unfold rowS
 by_cases ho : st.2.getD i false = true
 ·rw [if_pos ho, iAt_eq l i hi]
  refine sound_marks h _ hl hs (fun d hd => ?_)
  have hm := mem_rch h hi hd
  rcases hs.op_ i hi ho with e | hr
  ·rw [e] at hm; exact Rch.one hm
  ·exact Rch.step hr hm
 ·rw [if_neg ho]; exact hs
theorem sound_pass {l : List S37} (h : Shut l) {id : Int} : ∀ (d i : Nat) {st : List Bool × List Bool}, i + d = l.length → Len2 l st → Sound l id st → Sound l id (passFrom l d i st)
 | 0, _, _, _, _, hs => hs
 | d + 1, i, st, hi, hl, hs => sound_pass h d (i + 1) (by omega) (rowS_len hl i) (sound_row h hl hs i (by omega))
theorem sound_passes {l : List S37} (h : Shut l) {id : Int} : ∀ (k : Nat) {st : List Bool × List Bool}, Len2 l st → Sound l id st → Sound l id (passes l k st)
 | 0, _, _, hs => hs
 | k + 1, st, hl, hs => sound_passes h k (passFrom_len _ _ hl) (sound_pass h l.length 0 (by omega) hl hs)
theorem bits_iff {l : List S37} (h : Shut l) (id : Int) (j : Nat) (hj : j < l.length) : (belowBits l id).getD j false = true ↔ Rch l id l[j].f0 := by
 unfold belowBits
 by_cases hs : inoI l id < l.length
 ·rw [if_pos hs]
  have hr : ∀ i, (List.replicate l.length false).getD i false = false := fun i => by
   rw [List.getD_eq_getElem?_getD, List.getElem?_replicate]; split <;> rfl
  have hlen : Len2 l (List.replicate l.length false, (List.replicate l.length false).set (inoI l id) true) := ⟨by simp, by simp⟩
  have hinv : Inv2 l (inoI l id) (List.replicate l.length false, (List.replicate l.length false).set (inoI l id) true) := ⟨hlen, fun i => by
   dsimp only
   rw [getD_set _ _ _ (by simpa using hs)]⟩
  have hsnd : Sound l id (List.replicate l.length false, (List.replicate l.length false).set (inoI l id) true) := by
   constructor
   ·intro i hi hb
    dsimp only at hb
    rw [hr i] at hb; cases hb
   ·intro i hi hb
    dsimp only at hb
    rw [getD_set _ _ _ (by simpa using hs), hr i, Bool.false_or] at hb
    have e : inoI l id = i := zO hb
    subst e
    exact Or.inl (inoI_id l id hs)
  obtain ⟨k1, k2⟩ := passes_inv l.length hinv
  constructor
  ·exact (sound_passes h l.length hlen hsnd).in_ j hj
  ·intro hrch
   rcases k2 with hc | hfull
   ·have key : ∀ u d, (u = id ∨ ∃ i, ∃ hi : i < l.length, u = l[i].f0 ∧ (passes l l.length (List.replicate l.length false, (List.replicate l.length false).set (inoI l id) true)).1.getD i false = true) → d ∈ nmsOf l u → ∀ i (hi : i < l.length), d.f1 = l[i].f0 → (passes l l.length (List.replicate l.length false, (List.replicate l.length false).set (inoI l id) true)).1.getD i false = true := by
     intro u d hu hd i hi he
     have hd' : ∃ m, ∃ hm : m < l.length, d ∈ l[m].f6 ∧ (passes l l.length (List.replicate l.length false, (List.replicate l.length false).set (inoI l id) true)).2.getD m false = true := by
      rcases hu with rfl | ⟨m, hm, rfl, hb⟩
      ·refine ⟨inoI l u, hs, ?_, ?_⟩
       ·unfold nmsOf at hd
        rw [List.getElem?_eq_getElem hs] at hd; exact hd
       ·rw [k1.opn]; simp
      ·rw [nmsOf_at h m hm] at hd
       exact ⟨m, hm, hd, by rw [k1.opn, hb]; rfl⟩
     obtain ⟨m, hm, hdm, hop⟩ := hd'
     have hin : inoI l d.f1 = i := by rw [he]; exact inoI_self h i hi
     have := hc m hm hop d (by rw [iAt_eq l m hm]; exact hdm) (by rw [hin]; exact hi)
     rwa [hin] at this
    have main : ∀ v, Rch l id v → ∀ i (hi : i < l.length), v = l[i].f0 → (passes l l.length (List.replicate l.length false, (List.replicate l.length false).set (inoI l id) true)).1.getD i false = true := by
     intro v hv
     induction hv with
     | one hd => exact fun i hi he => key id _ (Or.inl rfl) hd i hi he
     | @step u d hu hd ih =>
      intro i hi he
      have hlt : inoI l u < l.length := by
       unfold nmsOf at hd
       rcases Nat.lt_or_ge (inoI l u) l.length with h1 | h1
       ·exact h1
       ·rw [List.getElem?_eq_none h1] at hd; cases hd
      have eu := inoI_id l u hlt
      exact key u d (Or.inr ⟨inoI l u, hlt, eu.symm, ih _ hlt eu.symm⟩) hd i hi he
    exact main _ hrch j hj rfl
   ·refine cnt_full _ ?_ j (by rw [k1.len.1]; exact hj)
    rw [k1.len.1]
    omega
 ·rw [if_neg hs]
  constructor
  ·intro hb
   rw [List.getD_eq_getElem?_getD, List.getElem?_replicate] at hb
   split at hb <;> cases hb
  ·intro hrch
   exfalso
   have none_ : ∀ v, Rch l id v → False := by
    intro v hv
    induction hv with
    | one hd =>
     unfold nmsOf at hd
     rw [List.getElem?_eq_none (by omega)] at hd; cases hd
    | step _ _ ih => exact ih
   exact none_ _ hrch
theorem bits_contains {l : List S37} (h : Shut l) (id : Int) (j : Nat) (hj : j < l.length) : (belowBits l id).getD j false = (belowL l id).contains l[j].f0 := by
 apply Bool.eq_iff_iff.2
 rw [bits_iff h id j hj, List.contains_iff_mem, belowL_iff]
theorem useFrom_sum (l : List S37) (bs : List Bool) : ∀ (d i : Nat) (p : Nat × Nat), useFrom l bs d i p = (p.1 + (((List.range' i d).filter fun j => bs.getD j false).map fun j => (iAt l j).f5.size).sum, p.2 + ((List.range' i d).filter fun j => bs.getD j false).length)
 | 0, i, p => by simp [useFrom]
 | d + 1, i, p => by
  rw [useFrom, useFrom_sum l bs d (i + 1), List.range'_succ, List.filter_cons]
  by_cases h : bs.getD i false = true
  ·rw [if_pos h, if_pos h, List.map_cons, List.sum_cons, List.length_cons]
   exact Prod.ext (by dsimp only; omega) (by dsimp only; omega)
  ·rw [if_neg h, if_neg h]
theorem useS_eq {l : List S37} (h : Shut l) (id : Int) : useS l id = (usageN l (belowL l id), (belowL l id).length) := by
 have hp : (belowL l id).Perm (((List.range' 0 l.length).filter fun j => (belowBits l id).getD j false).map fun j => (iAt l j).f0) := by
  rw [List.perm_ext_iff_of_nodup (belowL_nodup l id)]
  ·intro v
   rw [belowL_iff, List.mem_map]
   constructor
   ·intro hr
    have hlt := rch_led h hr
    refine ⟨inoI l v, List.mem_filter.2 ⟨by rw [List.mem_range']; exact ⟨inoI l v, hlt, by omega⟩, ?_⟩, ?_⟩
    ·rw [bits_iff h id _ hlt, inoI_id l v hlt]; exact hr
    ·rw [iAt_eq l _ hlt, inoI_id l v hlt]
   ·rintro ⟨j, hj, rfl⟩
    obtain ⟨h1, h2⟩ := List.mem_filter.1 hj
    obtain ⟨m, hm, rfl⟩ := List.mem_range'.1 h1
    have hlt : 0 + 1 * m < l.length := by omega
    rw [iAt_eq l _ hlt]
    exact (bits_iff h id _ hlt).1 h2
  ·rw [List.Nodup, List.pairwise_map]
   have hnd : (((List.range' 0 l.length).filter fun j => (belowBits l id).getD j false)).Pairwise (fun a b => a < b) := List.Pairwise.filter _ List.pairwise_lt_range'
   refine (List.Pairwise.imp_of_mem ?_ hnd)
   intro a b ha hb hab e
   obtain ⟨h1, -⟩ := List.mem_filter.1 ha
   obtain ⟨h2, -⟩ := List.mem_filter.1 hb
   obtain ⟨m, hm, rfl⟩ := List.mem_range'.1 h1
   obtain ⟨m', hm', rfl⟩ := List.mem_range'.1 h2
   have ha' : 0 + 1 * m < l.length := by omega
   have hb' : 0 + 1 * m' < l.length := by omega
   rw [iAt_eq l _ ha', iAt_eq l _ hb'] at e
   have := h.inj _ _ ha' hb' e
   omega
 unfold useS
 rw [useFrom_sum]
 refine Prod.ext ?_ ?_
 ·dsimp only
  rw [Nat.zero_add]
  unfold usageN
  rw [List.Perm.sum_nat (hp.map (sizeAt l)), List.map_map]
  congr 1
  apply List.map_congr_left
  intro j hj
  obtain ⟨h1, -⟩ := List.mem_filter.1 hj
  obtain ⟨m, hm, rfl⟩ := List.mem_range'.1 h1
  have hlt : 0 + 1 * m < l.length := by omega
  show (iAt l (0 + 1 * m)).f5.size = sizeAt l (iAt l (0 + 1 * m)).f0
  rw [iAt_eq l _ hlt]
  unfold sizeAt
  rw [inoI_self h _ hlt, List.getElem?_eq_getElem hlt]
 ·dsimp only
  rw [Nat.zero_add, hp.length_eq, List.length_map]
theorem inos_and (nx : Int) (l : List S37) (R : Bool) : ∀ k i, (∀ j, i ≤ j → j < i + k → inoAtB nx l j = true) ∨ (inosFrom nx l k i = false ∧ inosFromS nx l k i = false)
 | 0, i => Or.inl (fun j h1 h2 => by omega)
 | k + 1, i => by
  cases h : inoAtB nx l i with
  | false => exact Or.inr ⟨by rw [inosFrom, h]; rfl, by rw [inosFromS, h]; rfl⟩
  | true =>
   rcases inos_and nx l R k (i + 1) with h1 | ⟨h1, h2⟩
   ·refine Or.inl (fun j hj1 hj2 => ?_)
    by_cases e : j = i
    ·subst e; exact h
    ·exact h1 j (by omega) (by omega)
   ·exact Or.inr ⟨by rw [inosFrom, h1, Bool.and_false], by rw [inosFromS, h2, Bool.and_false]⟩
theorem inos_all (nx : Int) (l : List S37) : ∀ k i, (∀ j, i ≤ j → j < i + k → inoAtB nx l j = true) → inosFrom nx l k i = reachFrom l (l.length - 1) 1 ∧ inosFromS nx l k i = reachFromS l (l.length - 1) 1
 | 0, i, _ => ⟨rfl, rfl⟩
 | k + 1, i, h => by
  obtain ⟨h1, h2⟩ := inos_all nx l k (i + 1) (fun j a b => h j (by omega) (by omega))
  rw [inosFrom, inosFromS, h i (Nat.le_refl _) (by omega), h1, h2]
  exact ⟨rfl, rfl⟩
theorem shut_of {nx : Int} {l : List S37} (h : ∀ j, j < l.length → inoAtB nx l j = true) : Shut l ∧ ∀ x ∈ l, inodeOkB l x = true := by
 have hok : ∀ x ∈ l, inodeOkB l x = true := by
  intro x hx
  obtain ⟨j, hj, rfl⟩ := List.getElem_of_mem hx
  have := h j hj
  unfold inoAtB at this
  rw [iAt_eq l j hj] at this
  simp only [Bool.and_eq_true] at this
  exact this.2.2
 have hup : ∀ j (hj : j < l.length) i (hi : i < j), (l[i]'(by omega)).f0 < l[j].f0 := by
  intro j
  induction j with
  | zero => intro _ i hi; omega
  | succ j ih =>
   intro hj i hi
   have h1 := h (j + 1) hj
   unfold inoAtB at h1
   simp only [Bool.and_eq_true] at h1
   have h2 := h1.2.1
   rw [show (j + 1 == 0) = false from rfl, Bool.false_or, iAt_eq l (j + 1) hj, show j + 1 - 1 = j from rfl, iAt_eq l j (by omega)] at h2
   have h3 : l[j].f0 < l[j + 1].f0 := zO h2
   by_cases e : i = j
   ·subst e; exact h3
   ·exact Int.lt_trans (ih (by omega) i (by omega)) h3
 refine ⟨⟨fun i j hi hj e => ?_, fun x hx d hd => ?_⟩, hok⟩
 ·rcases Nat.lt_trichotomy i j with h1 | h1 | h1
  ·have := hup j hj i h1; omega
  ·exact h1
  ·have := hup i hi j h1; omega
 ·have h1 := hok x hx
  unfold inodeOkB inodeOkV at h1
  simp only [Bool.and_eq_true] at h1
  obtain ⟨-, -, -, h2, h3⟩ := h1
  by_cases hk : x.f1 = 2
  ·rw [hk, if_neg (by decide), if_neg (by decide), if_pos rfl] at h3
   simp only [Bool.and_eq_true] at h3
   have h4 := h3.2.1
   have names : ∀ k i, namesFrom l x.f6 k i = true → ∀ j, i ≤ j → j < i + k → nameAtB l x.f6 j = true := by
    intro k
    induction k with
    | zero => intro i _ j h1 h2; omega
    | succ k ih =>
     intro i hn j hj1 hj2
     rw [namesFrom, Bool.and_eq_true] at hn
     by_cases e : j = i
     ·subst e; exact hn.1
     ·exact ih (i + 1) hn.2 j (by omega) (by omega)
   obtain ⟨j, hj, rfl⟩ := List.getElem_of_mem hd
   have h5 := names x.f6.length 0 h4 j (Nat.zero_le _) (by omega)
   unfold nameAtB at h5
   simp only [Bool.and_eq_true] at h5
   have h6 := zO h5.2.2.1
   rwa [dAt_eq _ j hj] at h6
  ·have e2 : (x.f1 == 2) = false := by simpa using hk
   rw [e2] at h2
   have : x.f6.length ≠ 0 := fun e => by rw [List.eq_nil_of_length_eq_zero e] at hd; cases hd
   rw [zE (show 0 < x.f6.length by omega)] at h2
   simp at h2
theorem over_eq {nx : Int} {l : List S37} (h : Shut l) (hok : ∀ x ∈ l, inodeOkB l x = true) (x : S37) (hx : x ∈ l) : overAtS l x = overB l x := by
 unfold overAtS overB
 rw [useS_eq h]
 dsimp only
 generalize ((usageN l (belowL l x.f0) : Nat) : Int) = a
 generalize (((belowL l x.f0).length : Nat) : Int) = b
 have h0 : overV 0 0 a b = false := by unfold overV; simp
 by_cases hk : x.f1 = 2
 ·have e2 : (x.f1 == 2) = true := by simpa using hk
  rw [e2, Bool.true_and]
  by_cases h7 : x.f7 = 0 ∧ x.f8 = 0
  ·rw [h7.1, h7.2, h0]; rfl
  ·have e : (x.f7 == 0 && x.f8 == 0) = false := by
    rw [Bool.and_eq_false_iff]
    by_cases h1 : x.f7 = 0
    ·exact Or.inr (by simpa using fun h2 => h7 ⟨h1, h2⟩)
    ·exact Or.inl (by simpa using h1)
   rw [e]; rfl
 ·have e2 : (x.f1 == 2) = false := by simpa using hk
  rw [e2, Bool.false_and]
  have h1 := hok x hx
  unfold inodeOkB inodeOkV at h1
  simp only [Bool.and_eq_true] at h1
  obtain ⟨-, -, -, h2, -⟩ := h1
  rw [e2] at h2
  simp at h2
  rw [h2.2.1, h2.2.2, h0]
theorem overFrom_eq {l : List S37} (h : ∀ x ∈ l, overAtS l x = overB l x) : ∀ d i, i + d = l.length → overFrom l d i = (l.drop i).any (overB l)
 | 0, i, hi => by rw [List.drop_of_length_le (by omega)]; rfl
 | d + 1, i, hi => by
  have hlt : i < l.length := by omega
  rw [overFrom, overFrom_eq h d (i + 1) (by omega), List.drop_eq_getElem_cons hlt, List.any_cons, iAt_eq l i hlt, h _ (List.getElem_mem hlt)]
theorem reach_eq {l : List S37} (h : Shut l) (he : endS l = endB l) : ∀ k i, i + k = l.length → reachFromS l k i = reachFrom l k i
 | 0, _, _ => he
 | k + 1, i, hi => by
  have hlt : i < l.length := by omega
  rw [reachFromS, reachFrom, reach_eq h he k (i + 1) (by omega), reachAtS, reachAtB, iAt_eq l i hlt, bits_contains h 1 i hlt]
theorem volOk_eq (nx : Int) (l : List S37) : volOkS nx l = volOkB nx l := by
 unfold volOkS volOkB
 cases hlen : rgB (l.length : Int) 1 24 with
 | false => simp
 | true =>
  have hl : 1 ≤ l.length := by have := zO hlen; omega
  have e : inosFromS nx l l.length 0 = inosFrom nx l l.length 0 := by
   rcases inos_and nx l true l.length 0 with h | ⟨h1, h2⟩
   ·obtain ⟨h1, h2⟩ := inos_all nx l l.length 0 h
    obtain ⟨hS, hok⟩ := shut_of (nx := nx) (fun j hj => h j (Nat.zero_le _) (by omega))
    rw [h1, h2]
    refine reach_eq hS ?_ _ _ (by omega)
    unfold endS endB
    rw [overFrom_eq (fun x hx => over_eq (nx := nx) hS hok x hx) l.length 0 (by omega), List.drop_zero]
   ·rw [h1, h2]
  rw [e]
end
section
open Go.Proofs.YtiopcpkfjikfdaaGreatDoor.Mth Go.Proofs.YtiopcpkfjikfdaaGreatDoor.Str
theorem wf_ok {nx : Int} {l : List S37} (h : volOkB nx l = true) : WfV l := by
 have hh := h
 unfold volOkB at h
 simp only [Bool.and_eq_true] at h
 obtain ⟨-, h1, h2, -, h5⟩ := h
 have hl : 1 ≤ l.length := by unfold rgB at h1; have := zO h1; omega
 have hso : Shut l ∧ ∀ x ∈ l, inodeOkB l x = true := by
  rcases inos_and nx l true l.length 0 with q | ⟨q, -⟩
  ·exact shut_of (nx := nx) (fun j hj => q j (Nat.zero_le _) (by omega))
  ·rw [q] at h5; cases h5
 refine ⟨?_, hso.1.led, fun x hx h3 => ?_⟩
 ·have e : (iAt l 0).f0 = 1 := by simpa using h2
  rw [iAt_eq l 0 (by omega)] at e
  rw [inoI_yes l 1 0 (by omega) e (fun j hj => absurd hj (by omega))]
  omega
 ·have q := hso.2 x hx
  unfold inodeOkB inodeOkV at q
  rw [h3] at q
  simp only [Bool.and_eq_true] at q
  have q3 := q.2.2.2.2
  simp at q3
  have q4 := q3.1
  unfold tgB targetL at q4
  rw [Bool.and_eq_true, decide_eq_true_eq, bytesOf_length] at q4
  exact q4.1.1
def walkT (nx : Int) (l : List S37) (u g : Int) (gs : List Int) (path : ByteArray) (fol : Bool) : Spot4 := if volOkB nx l = true ∧ credB u g gs = true ∧ okB path = true then walkV l (mayX u g gs 1) path fol else spE 22
end
