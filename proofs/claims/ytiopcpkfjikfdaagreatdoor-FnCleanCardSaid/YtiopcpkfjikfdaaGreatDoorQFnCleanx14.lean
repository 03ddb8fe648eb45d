import Derived.Test.YtiopcpkfjikfdaaGreatDoorQFnCleanx13
set_option maxHeartbeats 8000000
set_option maxRecDepth 100000
namespace Go.Proofs.YtiopcpkfjikfdaaGreatDoor.PFnClean
open Go.RowKit Go.Proofs.YtiopcpkfjikfdaaGreatDoorW.PrintWords Go.Proofs.YtiopcpkfjikfdaaGreatDoorW.PrintLast Go.Proofs.YtiopcpkfjikfdaaGreatDoorW.PrintMore
attribute [local go_sem] max2_int min2_int max_two min_two max_three min_three max_four min_four   -- for this text's walks alone
set_option linter.unusedVariables false
set_option linter.unusedSimpArgs false
section
open Go.Proofs.YtiopcpkfjikfdaaGreatDoor.Mth Go.Proofs.YtiopcpkfjikfdaaGreatDoor.Str
theorem path_spec_loop (s : ByteArray) (hs : s.size ≤ 60) : ∀ (d i : Nat), i + d = s.size → Ev (fun k => spec_PathOk.l0 k s (i : Int)) (((bytesOf s).drop i).all slashByte) := by
 intro d
 induction d with
 | zero =>
  intro i hi
  rw [all_end s _ i (by omega)]
  exact Ev.step (spec_PathOk.l0.eq_2 _ _) (ev_neg (by omega) (ev_now rfl))
 | succ d ih =>
  intro i hi
  rw [all_drop s _ i (by omega)]
  refine Ev.step (spec_PathOk.l0.eq_2 _ _) (ev_pos (by omega) (ev_pos (by omega) ?_))
  have e3 : wrap64 ((i : Int) + 1) = ((i + 1 : Nat) : Int) := w64 (by omega) (by omega)
  rw [e3]
  unfold slashByte
  by_cases h47 : bt s (i : Int) = 47
  ·refine ev_pos h47 ?_
   rw [h47]
   have := ih (i + 1) (by omega)
   unfold slashByte at this
   simpa using this
  ·refine ev_neg h47 (ev_of (byte_spec _) ?_)
   rw [zG h47, Bool.false_or]
   by_cases h : nameByte (bt s (i : Int)) = true
   ·rw [h, Bool.true_and]
    exact ev_pos rfl (ih (i + 1) (by omega))
   ·have h' : nameByte (bt s (i : Int)) = false := by simpa using h
    rw [h', Bool.false_and]
    exact ev_neg (by simp) (ev_now rfl)
theorem path_spec (s : ByteArray) : Ev (fun k => spec_PathOk.f k s) (pathOkL (bytesOf s)) := by
 unfold spec_PathOk.f pathOkL targetL
 rw [bytesOf_length, ← bt_get s 0]
 by_cases h1 : 1 ≤ s.size ∧ s.size ≤ 60
 ·refine ev_of (l1In_eq _ _ _) (ev_pos (by simp; omega) (ev_pos (by omega) ?_))
  rw [zE h1, Bool.true_and]
  by_cases h47 : bt s 0 = 47
  ·refine Ev.step (spec_PathOk.j0.eq_2 _ _) (ev_neg (by simp [h47]) ?_)
   have := path_spec_loop s h1.2 s.size 0 (by omega)
   simpa [h47] using this
  ·refine Ev.step (spec_PathOk.j0.eq_2 _ _) (ev_pos (by simp [h47]) (ev_now ?_))
   simp [h47]
 ·refine ev_of (l1In_eq _ _ _) (ev_neg (by simp; omega) ?_)
  rw [zG h1, Bool.false_and, Bool.false_and]
  exact Ev.step (spec_PathOk.j0.eq_2 _ _) (ev_pos rfl (ev_now rfl))
theorem path_impl (s : ByteArray) (hs : s.size ≤ 140737488351232) : Ev (fun k => impl_PathOk.f k s) (pathOkL (bytesOf s)) := by
 unfold impl_PathOk.f pathOkL
 refine Ev.bind (target_impl s hs) ?_
 by_cases h : targetL (bytesOf s) = true
 ·refine ev_pos h (ev_pos ?_ (ev_now ?_))
  ·unfold targetL at h
   simp [bytesOf_length] at h
   omega
  ·rw [← bt_get s 0, h, Bool.true_and]
   congr 1
 ·have h' : targetL (bytesOf s) = false := by simpa using h
  refine ev_neg h (ev_now ?_)
  rw [h', Bool.false_and]
def okB (s : ByteArray) : Bool := pathOkL (bytesOf s)
theorem okB_size (s : ByteArray) (h : okB s = true) : 1 ≤ s.size ∧ s.size ≤ 60 := by
 unfold okB pathOkL targetL at h
 rw [Bool.and_eq_true, Bool.and_eq_true, decide_eq_true_eq, bytesOf_length] at h
 exact h.1.1
end
section
open Go.Proofs.YtiopcpkfjikfdaaGreatDoor.Mth Go.Proofs.YtiopcpkfjikfdaaGreatDoor.Str
theorem rd_get (l : List Int) (i : Nat) (h : i < l.length) : rd l (i : Int) = l[i] := by
 unfold rd; rw [Int.toNat_natCast, List.getD_eq_getElem?_getD, List.getElem?_eq_getElem h]; rfl
def grpB (x : Int) : Bool := decide (0 ≤ x ∧ x ≤ 1000)
/-- is who calls right -/
def credB (u g : Int) (l : List Int) : Bool := decide ((0 ≤ u ∧ u ≤ 1000) ∧ (0 ≤ g ∧ g ≤ 1000) ∧ l.length ≤ 4) && l.all grpB
def inB (u g : Int) (l : List Int) (x : Int) : Bool := credB u g l && (decide (g = x) || l.contains x)
theorem cred_spec_loop (u g : Int) (l : List Int) (hl : l.length ≤ 4) : ∀ (d i : Nat), i + d = l.length → Ev (fun k => spec_CredOk.l0 k (i : Int) u g l) ((l.drop i).all grpB) := by
 intro d
 induction d with
 | zero =>
  intro i hi
  rw [List.drop_eq_nil_of_le (by omega)]
  exact Ev.step (fun _ => spec_CredOk.l0.eq_2 ..) (ev_neg (by omega) (ev_now rfl))
 | succ d ih =>
  intro i hi
  have hlt : i < l.length := by omega
  have e3 : wrap64 ((i : Int) + 1) = ((i + 1 : Nat) : Int) := w64 (by omega) (by omega)
  rw [List.drop_eq_getElem_cons hlt, List.all_cons]
  refine Ev.step (fun _ => spec_CredOk.l0.eq_2 ..) (ev_pos (by omega) (ev_pos (by omega) (ev_of (l1In_eq _ _ _) ?_)))
  rw [rd_get l i hlt, e3]
  have ih' := ih (i + 1) (by omega)
  unfold grpB at *
  generalize l[i] = x at *
  by_cases h : 0 ≤ x ∧ x ≤ 1000
  ·rw [zE h, Bool.true_and]; exact ev_pos rfl ih'
  ·rw [zG h, Bool.false_and]; exact ev_neg (by simp) (ev_now rfl)
theorem cred_spec (u g : Int) (l : List Int) : Ev (fun k => spec_CredOk.f k u g l) (credB u g l) := by
 have hjt : Ev (fun k => spec_CredOk.j0 k true u g l) false := Ev.step (fun _ => spec_CredOk.j0.eq_2 ..) (ev_pos rfl (ev_now rfl))
 unfold spec_CredOk.f credB
 by_cases h1 : 0 ≤ u ∧ u ≤ 1000
 ·refine ev_of (l1In_eq _ _ _) (ev_pos (by simpa using h1) (ev_of (l1In_eq _ _ _) ?_))
  by_cases h2 : 0 ≤ g ∧ g ≤ 1000
  ·refine ev_pos (by simpa using h2) ?_
   by_cases h3 : l.length ≤ 4
   ·rw [show decide ((0 ≤ u ∧ u ≤ 1000) ∧ (0 ≤ g ∧ g ≤ 1000) ∧ l.length ≤ 4) = true from zE ⟨h1, h2, h3⟩, Bool.true_and]
    refine Ev.step (fun _ => spec_CredOk.j0.eq_2 ..) (ev_neg (by simp; omega) ?_)
    have := cred_spec_loop u g l h3 l.length 0 (by omega)
    simpa using this
   ·rw [show decide ((0 ≤ u ∧ u ≤ 1000) ∧ (0 ≤ g ∧ g ≤ 1000) ∧ l.length ≤ 4) = false from zG (fun h => h3 h.2.2), Bool.false_and]
    exact Ev.step (fun _ => spec_CredOk.j0.eq_2 ..) (ev_pos (by simp; omega) (ev_now rfl))
  ·rw [show decide ((0 ≤ u ∧ u ≤ 1000) ∧ (0 ≤ g ∧ g ≤ 1000) ∧ l.length ≤ 4) = false from zG (fun h => h2 h.2.1), Bool.false_and]
   exact ev_neg (by simpa using h2) hjt
 ·rw [show decide ((0 ≤ u ∧ u ≤ 1000) ∧ (0 ≤ g ∧ g ≤ 1000) ∧ l.length ≤ 4) = false from zG (fun h => h1 h.1), Bool.false_and]
  exact ev_of (l1In_eq _ _ _) (ev_neg (by simpa using h1) hjt)
theorem wB_grp (x : Int) : wB x 0 1000 = grpB x := rfl
theorem cred_idx_loop (l : List Int) (hl : l.length ≤ 4) : ∀ (d i : Nat), i + d = l.length → ∃ r, Ev (fun k => credIdx.l0 k l (l.length : Int) (i : Int)) r ∧ (decide (r ≥ 0) = !(l.drop i).all grpB) := by
 intro d
 induction d with
 | zero =>
  intro i hi
  refine ⟨-1, Ev.step (fun _ => credIdx.l0.eq_2 ..) (ev_neg (by omega) (ev_now rfl)), ?_⟩
  rw [List.drop_eq_nil_of_le (by omega)]; rfl
 | succ d ih =>
  intro i hi
  have hlt : i < l.length := by omega
  have e3 : wrap64 ((i : Int) + 1) = ((i + 1 : Nat) : Int) := w64 (by omega) (by omega)
  rw [List.drop_eq_getElem_cons hlt, List.all_cons]
  cases hb : grpB l[i] with
  | false =>
   refine ⟨(i : Int), Ev.step (fun _ => credIdx.l0.eq_2 ..) (ev_pos (by omega) (ev_pos (by omega) (ev_pos (by omega) (ev_pos ?_ (ev_now rfl))))), ?_⟩
   ·rw [rd_get l i hlt, wB_grp]; exact hb
   ·simp
  | true =>
   obtain ⟨r, h1, h2⟩ := ih (i + 1) (by omega)
   refine ⟨r, Ev.step (fun _ => credIdx.l0.eq_2 ..) (ev_pos (by omega) (ev_pos (by omega) (ev_pos (by omega) (ev_neg ?_ ?_)))), ?_⟩
   ·rw [rd_get l i hlt, wB_grp, hb]; simp
   ·rw [e3]; exact h1
   ·rw [Bool.true_and]; exact h2
theorem cred_impl (u g : Int) (l : List Int) : Ev (fun k => impl_CredOk.f k u g l) (credB u g l) := by
 unfold impl_CredOk.f credB
 by_cases h1 : 0 ≤ u ∧ u ≤ 1000
 ·refine ev_pos (zE h1) ?_
  by_cases h2 : 0 ≤ g ∧ g ≤ 1000
  ·refine ev_pos (zE h2) ?_
   by_cases h3 : l.length ≤ 4
   ·rw [show decide ((0 ≤ u ∧ u ≤ 1000) ∧ (0 ≤ g ∧ g ≤ 1000) ∧ l.length ≤ 4) = true from zE ⟨h1, h2, h3⟩, Bool.true_and]
    refine ev_neg (by omega) ?_
    obtain ⟨r, hr1, hr2⟩ := cred_idx_loop l h3 l.length 0 (by omega)
    unfold credCf.f credIdx.f
    refine Ev.bind (Ev.bind hr1 (ev_now rfl)) (ev_now ?_)
    rw [hr2, List.drop_zero, Bool.not_not]
   ·rw [show decide ((0 ≤ u ∧ u ≤ 1000) ∧ (0 ≤ g ∧ g ≤ 1000) ∧ l.length ≤ 4) = false from zG (fun h => h3 h.2.2), Bool.false_and]
    exact ev_pos (by omega) (ev_now rfl)
  ·rw [show decide ((0 ≤ u ∧ u ≤ 1000) ∧ (0 ≤ g ∧ g ≤ 1000) ∧ l.length ≤ 4) = false from zG (fun h => h2 h.2.1), Bool.false_and]
   exact ev_neg (by unfold wB; simpa using h2) (ev_now rfl)
 ·rw [show decide ((0 ≤ u ∧ u ≤ 1000) ∧ (0 ≤ g ∧ g ≤ 1000) ∧ l.length ≤ 4) = false from zG (fun h => h1 h.1), Bool.false_and]
  exact ev_neg (by unfold wB; simpa using h1) (ev_now rfl)
theorem in_spec_loop (u g : Int) (l : List Int) (hl : l.length ≤ 4) (x : Int) : ∀ (d i : Nat) (b : Bool), i + d = l.length → Ev (fun k => spec_In.l0 k x b (i : Int) u g l) (b || (l.drop i).contains x) := by
 intro d
 induction d with
 | zero =>
  intro i b hi
  rw [List.drop_eq_nil_of_le (by omega)]
  refine Ev.step (fun _ => spec_In.l0.eq_2 ..) (ev_neg (by omega) (ev_now ?_))
  simp
 | succ d ih =>
  intro i b hi
  have hlt : i < l.length := by omega
  have e3 : wrap64 ((i : Int) + 1) = ((i + 1 : Nat) : Int) := w64 (by omega) (by omega)
  rw [List.drop_eq_getElem_cons hlt, List.contains_cons]
  refine Ev.step (fun _ => spec_In.l0.eq_2 ..) (ev_pos (by omega) ?_)
  rw [e3]
  cases b with
  | true =>
   have := ih (i + 1) true (by omega)
   refine ev_pos rfl ?_
   simpa using this
  | false =>
   refine ev_neg (by simp) (ev_pos (by omega) ?_)
   rw [rd_get l i hlt]
   have := ih (i + 1) (l[i] == x) (by omega)
   rw [Bool.false_or, Bool.beq_comm (a := x)]
   exact this
theorem in_spec (u g : Int) (l : List Int) (x : Int) : Ev (fun k => spec_In.f k u g l x) (inB u g l x) := by
 unfold spec_In.f inB
 refine Ev.bind (cred_spec u g l) ?_
 cases hc : credB u g l with
 | false => rw [Bool.false_and]; exact ev_neg (by simp) (ev_now rfl)
 | true =>
  rw [Bool.true_and]
  refine ev_pos rfl ?_
  have hl : l.length ≤ 4 := by
   unfold credB at hc
   simp only [Bool.and_eq_true, decide_eq_true_eq] at hc
   omega
  have := in_spec_loop u g l hl x l.length 0 (g == x) (by omega)
  rw [List.drop_zero] at this
  exact this
theorem contains_ev (l : List Int) (hl : l.length ≤ 1048576) (x : Int) : Ev (fun k => slices_Contains_int_int.f l x) (l.contains x) := ev_now rfl
theorem in_impl (u g : Int) (l : List Int) (x : Int) : Ev (fun k => impl_In.f k u g l x) (inB u g l x) := by
 unfold impl_In.f inB
 refine Ev.bind (cred_impl u g l) ?_
 cases hc : credB u g l with
 | false => rw [Bool.false_and]; exact ev_neg (by simp) (ev_now rfl)
 | true =>
  rw [Bool.true_and]
  refine ev_pos rfl ?_
  have hl : l.length ≤ 4 := by
   unfold credB at hc
   simp only [Bool.and_eq_true, decide_eq_true_eq] at hc
   omega
  by_cases hx : x = g
  ·refine ev_pos hx (ev_now ?_)
   rw [zE hx.symm, Bool.true_or]
  ·refine ev_neg hx ?_
   rw [zG (fun h => hx h.symm), Bool.false_or]
   exact Ev.bind (contains_ev l (by omega) x) (ev_now rfl)
/-- the bits that are asked for, of a mode -/
def bitsB (m want : Int) : Bool := Go.bits .and .i64 (Go.bits .and .i64 m 7) want == want
def mayB (u g : Int) (l : List Int) (kind mode nu ng want : Int) : Bool :=
  if credB u g l = true ∧ 0 ≤ want ∧ want ≤ 7 then
    (if u = 0 then decide (Go.bits .and .i64 want 1 = 0 ∨ kind ≠ 1 ∨ Go.bits .and .i64 mode 73 ≠ 0)
     else if u = nu then bitsB (mode / 64) want else if inB u g l ng = true then bitsB (mode / 8) want else bitsB mode want)
  else false
theorem may_impl (u g : Int) (l : List Int) (a0 kind mode nu ng : Int) (d : ByteArray) (ns : List S59) (a7 a8 want : Int) : Ev (fun k => impl_May.f k u g l a0 kind mode nu ng d ns a7 a8 want) (mayB u g l kind mode nu ng want) := by
 have hjt : Ev (fun k => impl_May.j0 k want true u g l a0 kind mode nu ng d ns a7 a8) false := Ev.step (fun _ => impl_May.j0.eq_2 ..) (ev_pos rfl (ev_now rfl))
 unfold impl_May.f mayB
 refine Ev.bind (cred_impl u g l) ?_
 by_cases hc : credB u g l = true
 ·refine ev_pos hc (ev_of (within_eq _ _ _) ?_)
  by_cases hw : 0 ≤ want ∧ want ≤ 7
  ·rw [if_pos ⟨hc, hw⟩]
   refine Ev.step (fun _ => impl_May.j0.eq_2 ..) (ev_neg (by simp; omega) ?_)
   by_cases hu : u = 0
   ·rw [if_pos hu]
    refine ev_pos hu ?_
    by_cases hk : kind = 1
    ·refine ev_pos hk ?_
     by_cases hm : Go.bits .and .i64 mode 73 = 0
     ·refine ev_pos hm (ev_now ?_)
      congr 1
      apply Bool.eq_iff_iff.2
      simp only [beq_iff_eq, decide_eq_true_eq]
      constructor
      ·intro h; exact .inl h
      ·rintro (h | h | h)
       ·exact h
       ·exact absurd hk h
       ·exact absurd hm h
     ·exact ev_neg hm (ev_now (by rw [zE (.inr (.inr hm))]))
    ·exact ev_neg hk (ev_now (by rw [zE (.inr (.inl hk))]))
   ·rw [if_neg hu]
    refine ev_neg hu ?_
    by_cases hn : u = nu
    ·exact ev_pos hn (ev_now (by rw [if_pos hn]; rfl))
    ·rw [if_neg hn]
     refine ev_neg hn (Ev.bind (in_impl u g l ng) ?_)
     by_cases hi : inB u g l ng = true
     ·exact ev_pos hi (ev_now (by rw [if_pos hi]; rfl))
     ·exact ev_neg hi (ev_now (by rw [if_neg hi]; rfl))
  ·rw [if_neg (fun h => hw h.2)]
   exact Ev.step (fun _ => impl_May.j0.eq_2 ..) (ev_pos (by simp; omega) (ev_now rfl))
 ·rw [if_neg (fun h => hc h.1)]
  exact ev_neg hc hjt
end
section
open Go.Proofs.YtiopcpkfjikfdaaGreatDoor.Mth Go.Proofs.YtiopcpkfjikfdaaGreatDoor.Str
theorem extract_mk (s : ByteArray) (a b : Nat) : s.extract a b = mkB ((s.data.toList.drop a).take (b - a)) := by
 rw [← mkB_data (s.extract a b), ByteArray.data_extract, Array.toList_extract, List.extract_eq_take_drop]
theorem bt_data (s : ByteArray) (i : Nat) (h : i < s.data.toList.length) : bt s (i : Int) = ((s.data.toList[i]).toNat : Int) := by
 unfold bt
 rw [dif_pos (show ((i : Int)).toNat < s.size by rw [Int.toNat_natCast]; rwa [Array.length_toList] at h)]
 rfl
theorem cutS_loop (s : ByteArray) (hs : s.size ≤ 1048576) : ∀ (d i f : Nat) (acc : List ByteArray), i + d = s.size → f ≤ i → acc.length ≤ i → Ev (fun k => spec_l6Cut.l0 k s acc (f : Int) (i : Int)) (acc ++ (cutL ((s.data.toList.drop f).take (i - f)) (s.data.toList.drop i)).map mkB) := by
 have hsz : s.data.toList.length = s.size := by rw [Array.length_toList]; rfl
 have hend : ∀ (acc : List ByteArray) (f i : Int), i = s.size + 1 → Ev (fun k => spec_l6Cut.l0 k s acc f i) acc := fun acc f i hi =>
  Ev.step (fun _ => spec_l6Cut.l0.eq_2 ..) (ev_neg (by omega) (ev_now rfl))
 intro d
 induction d with
 | zero =>
  intro i f acc hi hf ha
  have e3 : wrap64 ((i : Int) + 1) = (s.size : Int) + 1 := by have := w64 (n := (i : Int) + 1) (by omega) (by omega); omega
  have hd : s.data.toList.drop i = [] := List.drop_of_length_le (by omega)
  rw [hd, cutL]
  refine Ev.step (fun _ => spec_l6Cut.l0.eq_2 ..) (ev_pos (by omega) (ev_pos (by omega) (Ev.step (fun _ => spec_l6Cut.j1.eq_2 ..) (ev_pos rfl ?_))))
  by_cases h : f < i
  ·have hne : ¬ (s.data.toList.drop f).take (i - f) = [] := fun e => by
    have := congrArg List.length e
    rw [List.length_take, List.length_drop, hsz] at this
    simp at this; omega
   refine ev_pos (by omega) (ev_pos (by omega) (ev_pos (by omega) (ev_pos (by omega) (ev_pos (by omega) ?_))))
   rw [if_neg hne, Int.toNat_natCast, Int.toNat_natCast, extract_mk]
   exact hend _ _ _ (by omega)
  ·have he : (s.data.toList.drop f).take (i - f) = [] := by rw [show i - f = 0 by omega]; rfl
   refine ev_neg (by omega) ?_
   rw [if_pos he, List.map_nil, List.append_nil]
   exact hend _ _ _ (by omega)
 | succ d ih =>
  intro i f acc hi hf ha
  have hlt : i < s.data.toList.length := by omega
  have e3 : wrap64 ((i : Int) + 1) = ((i + 1 : Nat) : Int) := w64 (by omega) (by omega)
  have hb := bt_data s i hlt
  rw [List.drop_eq_getElem_cons hlt, cutL]
  refine Ev.step (fun _ => spec_l6Cut.l0.eq_2 ..) (ev_pos (by omega) (ev_neg (by omega) (ev_pos (by omega) (ev_pos (by omega) ?_))))
  rw [hb]
  by_cases h47 : s.data.toList[i] = 47
  ·rw [if_pos h47, h47]
   refine Ev.step (fun _ => spec_l6Cut.j1.eq_2 ..) (ev_pos rfl ?_)
   have ih' := fun acc ha => ih (i + 1) (i + 1) acc (by omega) (by omega) ha
   rw [Nat.sub_self, List.take_zero] at ih'
   by_cases h : f < i
   ·have hne : ¬ (s.data.toList.drop f).take (i - f) = [] := fun e => by
     have := congrArg List.length e
     rw [List.length_take, List.length_drop, hsz] at this
     simp at this; omega
    refine ev_pos (by omega) (ev_pos (by omega) (ev_pos (by omega) (ev_pos (by omega) (ev_pos (by omega) ?_))))
    rw [if_neg hne, Int.toNat_natCast, Int.toNat_natCast, extract_mk, e3, List.map_cons]
    have := ih' (acc ++ [mkB ((s.data.toList.drop f).take (i - f))]) (by rw [List.length_append]; simp; omega)
    rw [List.append_assoc] at this
    exact this
   ·have he : (s.data.toList.drop f).take (i - f) = [] := by rw [show i - f = 0 by omega]; rfl
    refine ev_neg (by omega) ?_
    rw [if_pos he, e3]
    exact ih' acc (by omega)
  ·have hb47 : (((s.data.toList[i]).toNat : Int) == 47) = false := by
    rw [beq_eq_false_iff_ne]
    intro e
    apply h47
    apply UInt8.toNat_inj.1
    have : (47 : UInt8).toNat = 47 := rfl
    omega
   rw [if_neg h47, hb47]
   refine Ev.step (fun _ => spec_l6Cut.j1.eq_2 ..) (ev_neg (by simp) ?_)
   rw [e3]
   have := ih (i + 1) f acc (by omega) (by omega) (by omega)
   have ht : (s.data.toList.drop f).take (i + 1 - f) = (s.data.toList.drop f).take (i - f) ++ [s.data.toList[i]] := by
    rw [show i + 1 - f = (i - f) + 1 by omega, List.take_succ_eq_append_getElem (by rw [List.length_drop]; omega)]
    congr 2
    rw [List.getElem_drop]
    congr 1; omega
   rw [ht] at this
   exact this
theorem cutS_ev (s : ByteArray) (hs : s.size ≤ 1048576) : Ev (fun k => spec_l6Cut.f k s) (piecesB s) := by
 unfold spec_l6Cut.f
 rw [pieces_cut]
 have := cutS_loop s hs s.size 0 0 [] (by omega) (by omega) (by simp)
 simpa using this
theorem cutS_any (s : ByteArray) (hs : s.size ≤ 1048576) (w : World) : Calls Tryz.prog 55 #[.string s] w fun e w' => ∃ v, e = .returned v ∧ Kd.R Kd.string 9 w' w.heap.size (fun _ => True) v (piecesB s) ∧ Below w.heap.size w w' := by
 obtain ⟨K, hK⟩ := cutS_ev s hs
 exact spec_l6Cut.calls K s _ w (hK K (Nat.le_refl _))
end
section
open Go.Proofs.YtiopcpkfjikfdaaGreatDoor.Mth Go.Proofs.YtiopcpkfjikfdaaGreatDoor.Str
theorem par_loop1 (nx : Int) (l : List S37) (id : Int) (x : Nat) (hx : x < l.length) (hx0 : l.length ≤ 1048576) (hd : l[x].f6.length ≤ 1048576) {R : Int} (hy : hasD id l[x].f6 = true → R = l[x].f0)
  (hn : hasD id l[x].f6 = false → Ev (fun k => spec_l4Parent.l0 k id ((x + 1 : Nat) : Int) nx l) R) : ∀ (d y : Nat), y + d = l[x].f6.length → (∀ j (hj : j < l[x].f6.length), j < y → (l[x].f6)[j].f1 ≠ id) →
  Ev (fun k => spec_l4Parent.l1 k id (x : Int) (y : Int) nx l) R := by
 intro d
 induction d with
 | zero =>
  intro y hyd H
  have e3 : wrap64 ((x : Int) + 1) = ((x + 1 : Nat) : Int) := w64 (by omega) (by omega)
  refine Ev.step (spec_l4Parent.l1.eq_2 _ _ _ _ _) (ev_pos (by omega) (ev_pos (by omega) ?_))
  rw [rd45 l x hx, e3]
  refine ev_neg (by omega) (hn ?_)
  unfold hasD
  rw [List.any_eq_false]
  intro z hz
  obtain ⟨j, hj, rfl⟩ := List.getElem_of_mem hz
  simpa using H j hj (by omega)
 | succ d ih =>
  intro y hyd H
  have hyt : y < l[x].f6.length := by omega
  have e3 : wrap64 ((y : Int) + 1) = ((y + 1 : Nat) : Int) := w64 (by omega) (by omega)
  refine Ev.step (spec_l4Parent.l1.eq_2 _ _ _ _ _) (ev_pos (by omega) (ev_pos (by omega) ?_))
  rw [rd45 l x hx, rd68 _ y hyt, e3]
  refine ev_pos (by omega) (ev_pos (by omega) ?_)
  by_cases e : l[x].f6[y].f1 = id
  ·have hh : hasD id l[x].f6 = true := by
    unfold hasD
    exact List.any_eq_true.2 ⟨_, List.getElem_mem hyt, by simpa using e⟩
   rw [hy hh]
   exact ev_pos e (ev_now rfl)
  ·refine ev_neg e (ih (y + 1) (by omega) ?_)
   intro j hj hjy
   by_cases ej : j = y
   ·subst ej; exact e
   ·exact H j hj (by omega)
theorem par_loop0 (nx : Int) (l : List S37) (hs : volSmall l) (id : Int) : ∀ (d x : Nat), x + d = l.length → (∀ j (hj : j < l.length), j < x → hasD id l[j].f6 = false) → Ev (fun k => spec_l4Parent.l0 k id (x : Int) nx l) (parentI l id) := by
 have hl := hs.1
 intro d
 induction d with
 | zero =>
  intro x hx H
  rw [parentI_no l id (fun j hj => H j hj (by omega))]
  exact Ev.step (spec_l4Parent.l0.eq_2 _ _ _ _) (ev_neg (by omega) (ev_now rfl))
 | succ d ih =>
  intro x hx H
  have hlt : x < l.length := by omega
  have h6 := hs.2.1 _ (List.getElem_mem hlt)
  refine Ev.step (spec_l4Parent.l0.eq_2 _ _ _ _) (ev_pos (by omega) ?_)
  refine par_loop1 nx l id x hlt hl h6 (fun hh => parentI_at l id x hlt (fun j hj => H j (by omega) hj) hh) (fun hh => ih (x + 1) (by omega) ?_) l[x].f6.length 0 (by omega) (fun j hj h => absurd h (by omega))
  intro j hj hjx
  by_cases ej : j = x
  ·subst ej; exact hh
  ·exact H j hj (by omega)
theorem parS_any (nx : Int) (A : Option Addr) (c : Nat) (l : List S37) (id : Int) (w : World) (hr : Kd.C k37 w A l.length l) (hc : l.length ≤ c) (hs : volSmall l) : Calls Tryz.prog 57 #[.agg #[.int .i64 nx, .slice A l.length c], .int .i64 id] w fun e w' => e = .returned (.int .i64 (parentI l id)) ∧ Below w.heap.size w w' := by
 obtain ⟨K, hK⟩ : Ev (fun k => spec_l4Parent.f k nx l id) (parentI l id) := by
  unfold spec_l4Parent.f
  exact par_loop0 nx l hs id l.length 0 (by omega) (fun j hj h => absurd h (by omega))
 exact spec_l4Parent.calls K nx A c l id _ w hr hc (hK K (Nat.le_refl _))
end
section
open Go.Proofs.YtiopcpkfjikfdaaGreatDoor.Mth Go.Proofs.YtiopcpkfjikfdaaGreatDoor.Str
abbrev Spot4 := Int × ByteArray × Int × Int
def spE (c : Int) : Spot4 := (0, ⟨#[]⟩, 0, c)
/-- the id that a name leads to from a directory, and its inode -/
def stepI (l : List S37) (v : Int) (p : ByteArray) : Int := lookD (iAt l (inoI l v)).f6 p
def nodeW (l : List S37) (v : Int) (p : ByteArray) : S37 := iAt l (inoI l (stepI l v p))
def walkF (l : List S37) (may : S37 → Bool) (fol : Bool) : Nat → Int → Nat → List ByteArray → Spot4
  | 0, v, _, _ => (0, ⟨#[]⟩, v, 0)
  | _ + 1, v, _, [] => (0, ⟨#[]⟩, v, 0)
  | k + 1, v, n, p :: t =>
    if may (iAt l (inoI l v)) = false then spE 13
    else if p = ⟨#[46]⟩ then walkF l may fol k v n t
    else if p = ⟨#[46, 46]⟩ then walkF l may fol k (parentI l v) n t
    else if 8 < p.size then spE 36
    else if stepI l v p = 0 then (if t = [] then (v, p, 0, 2) else spE 2)
    else if (nodeW l v p).f1 = 3 ∧ (t ≠ [] ∨ fol = true) then
      (if n = 8 then spE 40
       else if 40 < (piecesB (nodeW l v p).f5 ++ t).length then spE 36
       else walkF l may fol k (if bt (nodeW l v p).f5 0 = 47 then 1 else v) (n + 1) (piecesB (nodeW l v p).f5 ++ t))
    else if t = [] then (v, p, stepI l v p, 0)
    else if (nodeW l v p).f1 ≠ 2 then spE 20
    else walkF l may fol k (stepI l v p) n t
/-- what the walk needs of a volume -/
structure WfV (l : List S37) : Prop where
 root : inoI l 1 < l.length
 led : ∀ x ∈ l, ∀ d ∈ x.f6, inoI l d.f1 < l.length
 link : ∀ x ∈ l, x.f1 = 3 → 1 ≤ x.f5.size
theorem WfV.par {l : List S37} (h : WfV l) (v : Int) : inoI l (parentI l v) < l.length := by
 unfold parentI
 split
 ·rename_i x hx
  have hm := List.mem_of_find?_eq_some hx
  unfold inoI
  exact List.findIdx_lt_length_of_exists ⟨x, hm, by simp⟩
 ·exact h.root
theorem lookD_mem (p : ByteArray) : ∀ (ds : List S59), lookD ds p ≠ 0 → ∃ d ∈ ds, d.f1 = lookD ds p
 | [], h => absurd rfl h
 | d :: ds, h => by
  by_cases e : d.f0 = p
  ·exact ⟨d, by simp, by rw [lookD, if_pos e]⟩
  ·rw [lookD, if_neg e] at h ⊢
   obtain ⟨d', h1, h2⟩ := lookD_mem p ds h
   exact ⟨d', by simp [h1], h2⟩
theorem iAt_mem {l : List S37} {i : Nat} (h : i < l.length) : iAt l i ∈ l := by
 rw [iAt_eq l i h]; exact List.getElem_mem h
theorem WfV.step {l : List S37} (h : WfV l) (v : Int) (p : ByteArray) (hv : inoI l v < l.length) (h0 : stepI l v p ≠ 0) : inoI l (stepI l v p) < l.length := by
 unfold stepI at h0 ⊢
 obtain ⟨d, hd, e⟩ := lookD_mem p _ h0
 rw [← e]
 exact h.led _ (iAt_mem hv) d hd
theorem pieces_le (s : ByteArray) (h : s.size ≤ 1048576) : (piecesB s).length ≤ 1048577 := by
 have h1 := splitL_le s
 have h2 := List.length_filter_le neB (splitL s)
 unfold piecesB
 omega
def mW (n : Nat) (t : List ByteArray) : Nat := (8 - n) * 64 + t.length + 1
section
variable {l : List S37} {may : S37 → Bool} {fol : Bool} {k n : Nat} {v : Int} {p : ByteArray} {t : List ByteArray}
theorem wf_acc (h : may (iAt l (inoI l v)) = false) : walkF l may fol (k + 1) v n (p :: t) = spE 13 := by rw [walkF, if_pos h]
theorem wf_dot (h : ¬ may (iAt l (inoI l v)) = false) (h1 : p = ⟨#[46]⟩) : walkF l may fol (k + 1) v n (p :: t) = walkF l may fol k v n t := by rw [walkF, if_neg h, if_pos h1]
theorem wf_up (h : ¬ may (iAt l (inoI l v)) = false) (h1 : ¬ p = ⟨#[46]⟩) (h2 : p = ⟨#[46, 46]⟩) : walkF l may fol (k + 1) v n (p :: t) = walkF l may fol k (parentI l v) n t := by rw [walkF, if_neg h, if_neg h1, if_pos h2]
theorem wf_long (h : ¬ may (iAt l (inoI l v)) = false) (h1 : ¬ p = ⟨#[46]⟩) (h2 : ¬ p = ⟨#[46, 46]⟩) (h3 : 8 < p.size) : walkF l may fol (k + 1) v n (p :: t) = spE 36 := by rw [walkF, if_neg h, if_neg h1, if_neg h2, if_pos h3]
theorem wf_rest (h : ¬ may (iAt l (inoI l v)) = false) (h1 : ¬ p = ⟨#[46]⟩) (h2 : ¬ p = ⟨#[46, 46]⟩) (h3 : ¬ 8 < p.size) : walkF l may fol (k + 1) v n (p :: t) =
    (if stepI l v p = 0 then (if t = [] then (v, p, 0, 2) else spE 2)
    else if (nodeW l v p).f1 = 3 ∧ (t ≠ [] ∨ fol = true) then
      (if n = 8 then spE 40
       else if 40 < (piecesB (nodeW l v p).f5 ++ t).length then spE 36
       else walkF l may fol k (if bt (nodeW l v p).f5 0 = 47 then 1 else v) (n + 1) (piecesB (nodeW l v p).f5 ++ t))
    else if t = [] then (v, p, stepI l v p, 0)
    else if (nodeW l v p).f1 ≠ 2 then spE 20
    else walkF l may fol k (stepI l v p) n t) := by rw [walkF, if_neg h, if_neg h1, if_neg h2, if_neg h3]
end
def walkV (l : List S37) (may : S37 → Bool) (path : ByteArray) (fol : Bool) : Spot4 := walkF l may fol (mW 0 (piecesB path)) 1 0 (piecesB path)
theorem cutT (A : Option Addr) (c : Nat) (l : List ByteArray) (h1 : 1 ≤ l.length) (hc : l.length ≤ c) : ∃ A1 c1, ∃ ls : List ByteArray, ls = l.drop 1 ∧ ls.length ≤ c1 ∧ (∀ W : World, (Instr.slice 50 (.slice A l.length c) (some (.int .i64 1)) none none).run Tryz.prog W = .ok (.slice A1 ls.length c1) W) ∧
  ∀ W, Kd.C Kd.string W A l.length l → Kd.C Kd.string W A1 ls.length ls := by
 obtain ⟨i0, hi, hz⟩ := Option.map_eq_some_iff.1 info9
 simp only [Prod.mk.injEq] at hz
 have h := cut_from (P := Tryz.prog) 50 9 .i64 (by kernel_rfl) hi 1 hz.2.1 A l.length c 1 (by omega) (by omega)
 refine ⟨_, c - 1, l.drop 1, rfl, by rw [List.length_drop]; omega, fun W => ?_, fun W hC => Kd.C_drop hC h1 hc⟩
 rw [h W, List.length_drop]
 rfl
def mayX (u g : Int) (gs : List Int) (want : Int) (x : S37) : Bool := mayB u g gs x.f1 x.f2 x.f3 x.f4 want
section
open Go.Proofs.YtiopcpkfjikfdaaGreatDoorW.Mix
theorem mayS_any (u g : Int) (Ag : Option Addr) (cg : Nat) (gs : List Int) (want : Int) (x : S37) (A6 : Option Addr) (c6 : Nat) (w : World) (hr : Kd.C (Kd.int .i64) w Ag gs.length gs) (hc : gs.length ≤ cg) (h6 : Kd.C k59 w A6 x.f6.length x.f6) (hc6 : x.f6.length ≤ c6) :
  Calls Tryz.prog 56 #[.agg #[.int .i64 u, .int .i64 g, .slice Ag gs.length cg], .agg #[.int .i64 x.f0, .int .i64 x.f1, .int .i64 x.f2, .int .i64 x.f3, .int .i64 x.f4, .string x.f5, .slice A6 x.f6.length c6, .int .i64 x.f7, .int .i64 x.f8], .int .i64 want] w fun e w' => e = .returned (.bool (mayX u g gs want x)) ∧ Below w.heap.size w w' := by
 have hu29 := Tryz.underlying29
 have hu37 := Tryz.underlying37
 have HC := zM (fun (W : World) (hW : w.grownBy W none) => by
  obtain ⟨K, hK⟩ := cred_spec u g gs
  exact spec_CredOk.calls K u g Ag cg gs _ W (Kd.C_below hr (below_grown hW)) hc (hK K (Nat.le_refl _)))
 have HI := zM (fun (W : World) (hW : w.grownBy W none) => by
  obtain ⟨K, hK⟩ := in_spec u g gs x.f4
  exact spec_In.calls K u g Ag cg gs x.f4 _ W (Kd.C_below hr (below_grown hW)) hc (hK K (Nat.le_refl _)))
 have HE := zM (show mayX u g gs want x = if credB u g gs = true ∧ rgB want 0 7 = true then (if u = 0 then decide (Go.bits .and .i64 want 1 = 0 ∨ x.f1 ≠ 1 ∨ Go.bits .and .i64 x.f2 73 ≠ 0) else if u = x.f3 then bitsB (x.f2 / 64) want else if inB u g gs x.f4 = true then bitsB (x.f2 / 8) want else bitsB x.f2 want) else false from by unfold mayX mayB rgB; simp only [decide_eq_true_eq])
 generalize mayX u g gs want x = R at HE ⊢
 have HS := zM (St.start w none)
 clear hr hc h6 hc6
 generalize credB u g gs = ck at HC HE
 generalize inB u g gs x.f4 = ib at HI HE
 go_enter Tryz.func56, Tryz.ntmps56
 go_upto_region 1 with (first | ((with_reducible refine gD 3 rfl ?_); refine sB #[.int .i64 u, .int .i64 g, .slice Ag gs.length cg] 29 HS ?_; clear HS; intro g3 w3 HS _) | ((with_reducible refine gD 4 rfl ?_); refine sB #[.int .i64 x.f0, .int .i64 x.f1, .int .i64 x.f2, .int .i64 x.f3, .int .i64 x.f4, .string x.f5, .slice A6 x.f6.length c6, .int .i64 x.f7, .int .i64 x.f8] 37 HS ?_; clear HS; intro g4 w4 HS _))
 try simp only [Act.put, List.setIfInBounds_toArray, List.set_cons_zero, List.set_cons_succ]
 go_cut [15] (fun v_ w' => v_ = .bool (!(ck && rgB want 0 7)) ∧ Aside0 (St w none w' [(g4, 37, #[.int .i64 x.f0, .int .i64 x.f1, .int .i64 x.f2, .int .i64 x.f3, .int .i64 x.f4, .string x.f5, .slice A6 x.f6.length c6, .int .i64 x.f7, .int .i64 x.f8]), (g3, 29, #[.int .i64 u, .int .i64 g, .slice Ag gs.length cg])]))
 case first =>
  obtain ⟨y0, y1, y2⟩ := HS.out.cells3 1 rfl; obtain ⟨q0, q1, q2, q3, q4, q5, q6, q7, q8⟩ := HS.out.cells9 0 rfl
  cases ck <;> cases hw : rgB want 0 7
  all_goals
   go_wp2_with (first | (go_at_call 20; refine (HC.out _ HS.out.grown).mono ?_; rintro e w9 ⟨rfl, hb⟩; replace HS := zM (HS.out.call hb); clear hb; (try clear y0 y1 y2 q0 q1 q2 q3 q4 q5 q6 q7 q8); obtain ⟨y0, y1, y2⟩ := HS.out.cells3 1 rfl; obtain ⟨q0, q1, q2, q3, q4, q5, q6, q7, q8⟩ := HS.out.cells9 0 rfl) | (go_at_call 48; (with_reducible refine (l1In_any want 0 7 _).mono ?_); rintro e w10 ⟨rfl, hb'⟩; rw [hw]; have hb := hb'.below; clear hb'; replace HS := zM (HS.out.call hb); clear hb; (try clear y0 y1 y2 q0 q1 q2 q3 q4 q5 q6 q7 q8); obtain ⟨y0, y1, y2⟩ := HS.out.cells3 1 rfl; obtain ⟨q0, q1, q2, q3, q4, q5, q6, q7, q8⟩ := HS.out.cells9 0 rfl))
   go_meet
   case rel => exact ⟨by first | rfl | (rw [hw]; rfl), HS⟩
 case rest =>
 clear HS
 obtain ⟨rfl, HS⟩ := hcut
 obtain ⟨w12, hw_⟩ : ∃ q, q = wc := ⟨_, rfl⟩
 subst hw_
 obtain ⟨y0, y1, y2⟩ := HS.out.cells3 1 rfl; obtain ⟨q0, q1, q2, q3, q4, q5, q6, q7, q8⟩ := HS.out.cells9 0 rfl
 cases hq : (ck && rgB want 0 7)
 case false =>
  have hR : R = false := by rw [HE.out, if_neg (fun h => by rw [h.1, h.2] at hq; cases hq)]
  go_wp2
  go_ret
  exact ⟨by first | (rw [hR]; rfl) | rfl, below_grown HS.out.grown⟩
 simp only [Bool.and_eq_true] at hq
 have HE2 := zM (HE.out.trans (if_pos hq))
 clear HE hq
 cases cu : (u == 0)
 case true =>
  have HE3 := zM (HE2.out.trans (if_pos (by simpa using cu)))
  clear HE2
  have hR : R = ((Go.bits .and .i64 want 1 == 0) || ((x.f1 != 1) || (Go.bits .and .i64 x.f2 73 != 0))) := by
   rw [HE3.out, Bool.eq_iff_iff]
   simp only [decide_eq_true_eq, Bool.or_eq_true, beq_iff_eq, bne_iff_ne]
  have HR := zM hR
  clear hR HE3
  cases c1 : (Go.bits .and .i64 want 1 == 0) <;> cases c2 : (x.f1 != 1) <;> cases c3 : (Go.bits .and .i64 x.f2 73 != 0)
  all_goals
   rw [c1, c2, c3] at HR
   go_wp2
   go_ret
   exact ⟨by first | (rw [HR.out]; rfl) | rfl, below_grown HS.out.grown⟩
 have HE3 := zM (HE2.out.trans (if_neg (by simpa using cu)))
 clear HE2
 cases cn : (u == x.f3) <;> cases ib
 all_goals
  go_wp2_with (first | (go_at_call 78; refine (HI.out _ HS.out.grown).mono ?_; rintro e w13 ⟨rfl, hb⟩; replace HS := zM (HS.out.call hb); clear hb; (try clear y0 y1 y2 q0 q1 q2 q3 q4 q5 q6 q7 q8); obtain ⟨y0, y1, y2⟩ := HS.out.cells3 1 rfl; obtain ⟨q0, q1, q2, q3, q4, q5, q6, q7, q8⟩ := HS.out.cells9 0 rfl))
  go_ret
  exact ⟨by
   rw [HE3.out]
   first | rw [if_pos (show u = x.f3 by simpa using cn)] | rw [if_neg (show ¬ u = x.f3 by simpa using cn)]
   first | rfl | (rw [if_pos rfl]; rfl) | (rw [if_neg (by simp)]; rfl), below_grown HS.out.grown⟩
end
theorem mayI_any (u g : Int) (Ag : Option Addr) (cg : Nat) (gs : List Int) (want : Int) (x : S37) (A6 : Option Addr) (c6 : Nat) (w : World) (hr : Kd.C (Kd.int .i64) w Ag gs.length gs) (hc : gs.length ≤ cg) (h6 : Kd.C k59 w A6 x.f6.length x.f6) (hc6 : x.f6.length ≤ c6) :
  Calls Tryz.prog 45 #[.agg #[.int .i64 u, .int .i64 g, .slice Ag gs.length cg], .agg #[.int .i64 x.f0, .int .i64 x.f1, .int .i64 x.f2, .int .i64 x.f3, .int .i64 x.f4, .string x.f5, .slice A6 x.f6.length c6, .int .i64 x.f7, .int .i64 x.f8], .int .i64 want] w fun e w' => e = .returned (.bool (mayX u g gs want x)) ∧ Below w.heap.size w w' := by
 obtain ⟨K, hK⟩ := may_impl u g gs x.f0 x.f1 x.f2 x.f3 x.f4 x.f5 x.f6 x.f7 x.f8 want
 exact impl_May.calls K u g Ag cg gs x.f0 x.f1 x.f2 x.f3 x.f4 x.f5 A6 c6 x.f6 x.f7 x.f8 want _ w hr hc h6 hc6 (hK K (Nat.le_refl _))
theorem spot_put {w W : World} {g : Nat} {z0 z1 z2 z3 : Value} (a c d : Int) (b : ByteArray) (hB : Below w.heap.size w W) (hg : w.heap.size ≤ g) (hk : W.heap[g]? = some (.cells #[z0, z1, z2, z3] 33 (0, 0))) :
  ((((W.setCell ⟨g, 0, none⟩ (.int .i64 a)).setCell ⟨g, 1, none⟩ (.string b)).setCell ⟨g, 2, none⟩ (.int .i64 c)).setCell ⟨g, 3, none⟩ (.int .i64 d)).heap[g]? = some (.cells #[.int .i64 a, .string b, .int .i64 c, .int .i64 d] 33 (0, 0)) ∧
  Below w.heap.size w ((((W.setCell ⟨g, 0, none⟩ (.int .i64 a)).setCell ⟨g, 1, none⟩ (.string b)).setCell ⟨g, 2, none⟩ (.int .i64 c)).setCell ⟨g, 3, none⟩ (.int .i64 d)) :=
 ⟨blk_put (blk_put (blk_put (blk_put hk 0 _ rfl) 1 _ rfl) 2 _ rfl) 3 _ rfl, zS (zS (zS (zS hB hg) hg) hg) hg⟩
theorem ino_put {w W : World} {g : Nat} {z0 z1 z2 z3 z4 z5 z6 z7 z8 : Value} (u0 u1 u2 u3 u4 u5 u6 u7 u8 : Value) (hB : Below w.heap.size w W) (hg : w.heap.size ≤ g) (hk : W.heap[g]? = some (.cells #[z0, z1, z2, z3, z4, z5, z6, z7, z8] 37 (0, 0))) :
  (((((((((W.setCell ⟨g, 0, none⟩ u0).setCell ⟨g, 1, none⟩ u1).setCell ⟨g, 2, none⟩ u2).setCell ⟨g, 3, none⟩ u3).setCell ⟨g, 4, none⟩ u4).setCell ⟨g, 5, none⟩ u5).setCell ⟨g, 6, none⟩ u6).setCell ⟨g, 7, none⟩ u7).setCell ⟨g, 8, none⟩ u8).heap[g]? = some (.cells #[u0, u1, u2, u3, u4, u5, u6, u7, u8] 37 (0, 0)) ∧ Below w.heap.size w (((((((((W.setCell ⟨g, 0, none⟩ u0).setCell ⟨g, 1, none⟩ u1).setCell ⟨g, 2, none⟩ u2).setCell ⟨g, 3, none⟩ u3).setCell ⟨g, 4, none⟩ u4).setCell ⟨g, 5, none⟩ u5).setCell ⟨g, 6, none⟩ u6).setCell ⟨g, 7, none⟩ u7).setCell ⟨g, 8, none⟩ u8) := by
 have q0 : (W.setCell ⟨g, 0, none⟩ u0).heap[g]? = some (.cells #[u0, z1, z2, z3, z4, z5, z6, z7, z8] 37 (0, 0)) := blk_put hk 0 u0 rfl
 have b0 : Below w.heap.size w (W.setCell ⟨g, 0, none⟩ u0) := zS hB hg
 have q1 : ((W.setCell ⟨g, 0, none⟩ u0).setCell ⟨g, 1, none⟩ u1).heap[g]? = some (.cells #[u0, u1, z2, z3, z4, z5, z6, z7, z8] 37 (0, 0)) := blk_put q0 1 u1 rfl
 have b1 : Below w.heap.size w ((W.setCell ⟨g, 0, none⟩ u0).setCell ⟨g, 1, none⟩ u1) := zS b0 hg
 have q2 : (((W.setCell ⟨g, 0, none⟩ u0).setCell ⟨g, 1, none⟩ u1).setCell ⟨g, 2, none⟩ u2).heap[g]? = some (.cells #[u0, u1, u2, z3, z4, z5, z6, z7, z8] 37 (0, 0)) := blk_put q1 2 u2 rfl
 have b2 : Below w.heap.size w (((W.setCell ⟨g, 0, none⟩ u0).setCell ⟨g, 1, none⟩ u1).setCell ⟨g, 2, none⟩ u2) := zS b1 hg
 have q3 : ((((W.setCell ⟨g, 0, none⟩ u0).setCell ⟨g, 1, none⟩ u1).setCell ⟨g, 2, none⟩ u2).setCell ⟨g, 3, none⟩ u3).heap[g]? = some (.cells #[u0, u1, u2, u3, z4, z5, z6, z7, z8] 37 (0, 0)) := blk_put q2 3 u3 rfl
 have b3 : Below w.heap.size w ((((W.setCell ⟨g, 0, none⟩ u0).setCell ⟨g, 1, none⟩ u1).setCell ⟨g, 2, none⟩ u2).setCell ⟨g, 3, none⟩ u3) := zS b2 hg
 have q4 : (((((W.setCell ⟨g, 0, none⟩ u0).setCell ⟨g, 1, none⟩ u1).setCell ⟨g, 2, none⟩ u2).setCell ⟨g, 3, none⟩ u3).setCell ⟨g, 4, none⟩ u4).heap[g]? = some (.cells #[u0, u1, u2, u3, u4, z5, z6, z7, z8] 37 (0, 0)) := blk_put q3 4 u4 rfl
 have b4 : Below w.heap.size w (((((W.setCell ⟨g, 0, none⟩ u0).setCell ⟨g, 1, none⟩ u1).setCell ⟨g, 2, none⟩ u2).setCell ⟨g, 3, none⟩ u3).setCell ⟨g, 4, none⟩ u4) := zS b3 hg
 have q5 : ((((((W.setCell ⟨g, 0, none⟩ u0).setCell ⟨g, 1, none⟩ u1).setCell ⟨g, 2, none⟩ u2).setCell ⟨g, 3, none⟩ u3).setCell ⟨g, 4, none⟩ u4).setCell ⟨g, 5, none⟩ u5).heap[g]? = some (.cells #[u0, u1, u2, u3, u4, u5, z6, z7, z8] 37 (0, 0)) := blk_put q4 5 u5 rfl
 have b5 : Below w.heap.size w ((((((W.setCell ⟨g, 0, none⟩ u0).setCell ⟨g, 1, none⟩ u1).setCell ⟨g, 2, none⟩ u2).setCell ⟨g, 3, none⟩ u3).setCell ⟨g, 4, none⟩ u4).setCell ⟨g, 5, none⟩ u5) := zS b4 hg
 have q6 : (((((((W.setCell ⟨g, 0, none⟩ u0).setCell ⟨g, 1, none⟩ u1).setCell ⟨g, 2, none⟩ u2).setCell ⟨g, 3, none⟩ u3).setCell ⟨g, 4, none⟩ u4).setCell ⟨g, 5, none⟩ u5).setCell ⟨g, 6, none⟩ u6).heap[g]? = some (.cells #[u0, u1, u2, u3, u4, u5, u6, z7, z8] 37 (0, 0)) := blk_put q5 6 u6 rfl
 have b6 : Below w.heap.size w (((((((W.setCell ⟨g, 0, none⟩ u0).setCell ⟨g, 1, none⟩ u1).setCell ⟨g, 2, none⟩ u2).setCell ⟨g, 3, none⟩ u3).setCell ⟨g, 4, none⟩ u4).setCell ⟨g, 5, none⟩ u5).setCell ⟨g, 6, none⟩ u6) := zS b5 hg
 have q7 : ((((((((W.setCell ⟨g, 0, none⟩ u0).setCell ⟨g, 1, none⟩ u1).setCell ⟨g, 2, none⟩ u2).setCell ⟨g, 3, none⟩ u3).setCell ⟨g, 4, none⟩ u4).setCell ⟨g, 5, none⟩ u5).setCell ⟨g, 6, none⟩ u6).setCell ⟨g, 7, none⟩ u7).heap[g]? = some (.cells #[u0, u1, u2, u3, u4, u5, u6, u7, z8] 37 (0, 0)) := blk_put q6 7 u7 rfl
 have b7 : Below w.heap.size w ((((((((W.setCell ⟨g, 0, none⟩ u0).setCell ⟨g, 1, none⟩ u1).setCell ⟨g, 2, none⟩ u2).setCell ⟨g, 3, none⟩ u3).setCell ⟨g, 4, none⟩ u4).setCell ⟨g, 5, none⟩ u5).setCell ⟨g, 6, none⟩ u6).setCell ⟨g, 7, none⟩ u7) := zS b6 hg
 have q8 : (((((((((W.setCell ⟨g, 0, none⟩ u0).setCell ⟨g, 1, none⟩ u1).setCell ⟨g, 2, none⟩ u2).setCell ⟨g, 3, none⟩ u3).setCell ⟨g, 4, none⟩ u4).setCell ⟨g, 5, none⟩ u5).setCell ⟨g, 6, none⟩ u6).setCell ⟨g, 7, none⟩ u7).setCell ⟨g, 8, none⟩ u8).heap[g]? = some (.cells #[u0, u1, u2, u3, u4, u5, u6, u7, u8] 37 (0, 0)) := blk_put q7 8 u8 rfl
 have b8 : Below w.heap.size w (((((((((W.setCell ⟨g, 0, none⟩ u0).setCell ⟨g, 1, none⟩ u1).setCell ⟨g, 2, none⟩ u2).setCell ⟨g, 3, none⟩ u3).setCell ⟨g, 4, none⟩ u4).setCell ⟨g, 5, none⟩ u5).setCell ⟨g, 6, none⟩ u6).setCell ⟨g, 7, none⟩ u7).setCell ⟨g, 8, none⟩ u8) := zS b7 hg
 exact ⟨q8, b8⟩
theorem dot_iff (p : ByteArray) : (p.toList == ([46] : List UInt8)) = decide (p = ⟨#[46]⟩) := by
 have e : (⟨#[46]⟩ : ByteArray).toList = [46] := by rw [ByteArray.toList_eq]
 have h := @Str.toList_eq_iff p ⟨#[46]⟩
 rw [e] at h
 apply Bool.eq_iff_iff.2
 rw [beq_iff_eq, decide_eq_true_eq]
 exact h
theorem dots_iff (p : ByteArray) : (p.toList == ([46, 46] : List UInt8)) = decide (p = ⟨#[46, 46]⟩) := by
 have e : (⟨#[46, 46]⟩ : ByteArray).toList = [46, 46] := by rw [ByteArray.toList_eq]
 have h := @Str.toList_eq_iff p ⟨#[46, 46]⟩
 rw [e] at h
 apply Bool.eq_iff_iff.2
 rw [beq_iff_eq, decide_eq_true_eq]
 exact h
end
section
open Go.Proofs.YtiopcpkfjikfdaaGreatDoor.Mth Go.Proofs.YtiopcpkfjikfdaaGreatDoor.Str
theorem lookS_any (nx : Int) (A : Option Addr) (c : Nat) (l : List S37) (v : Int) (nm : ByteArray) (w : World) (hr : Kd.C k37 w A l.length l) (hc : l.length ≤ c) (hs : volSmall l) (hv : inoI l v < l.length) :
  Calls Tryz.prog 58 #[.agg #[.int .i64 nx, .slice A l.length c], .int .i64 v, .string nm] w fun e w' => e = .returned (.int .i64 (stepI l v nm)) ∧ Below w.heap.size w w' := by
 have hu29 := Tryz.underlying26
 have hu45 := Tryz.underlying37
 have hu68 := Tryz.underlying59
 have hm := hr.2.1
 obtain ⟨i, hi⟩ : ∃ i, i = inoI l v := ⟨_, rfl⟩
 have hil : i < l.length := by omega
 have e : atV l v = (i : Int) := by unfold atV; rw [if_pos hv, hi]
 have HA := zM (fun W (hW : Below w.heap.size w W) => atS_any nx A c l v W (Kd.C_below hr hW) hc hs)
 rw [e] at HA
 have HE := zM (show stepI l v nm = lookD l[i].f6 nm from by unfold stepI; rw [← hi, iAt_eq l i hil])
 obtain ⟨ad, A6, c6, eA, -, -, -, -, -, -, hx6, -, -, hc6, hR6⟩ := at_T37 hr (i : Int) (by omega) (by omega)
 rw [Int.toNat_natCast, rd45 l i hil] at hx6
 rw [rd45 l i hil] at hc6 hR6
 subst eA
 have hm6 := hR6.2.1
 have HR := zM hR6
 clear hR6 hr e hi hv hs hc hc6
 generalize l[i].f6 = ds at HE HR hx6 hm6
 go_enter Tryz.func58, Tryz.ntmps58
 go_wp2
 generalize hq : w.alloc (.cells #[.int .i64 nx, .slice (some ad) l.length c] 26) = w1
 have HB1 := zM (show Below w.heap.size w w1 from by rw [← hq]; exact zA (Below.refl _ _) _)
 have hz0 : w1.cell? ⟨w.heap.size, 0, none⟩ = some (.int .i64 nx) := by rw [← hq]; exact (zC (heap_alloc_new w _) 0).trans rfl
 have hz1 : w1.cell? ⟨w.heap.size, 1, none⟩ = some (.slice (some ad) l.length c) := by rw [← hq]; exact (zC (heap_alloc_new w _) 1).trans rfl
 have hx6' := pw_cell_below HB1.out hx6
 have hy0 := fun y : Grow w1 => y.cell hz0
 have hy1 := fun y : Grow w1 => y.cell hz1
 have hy2 := fun y : Grow w1 => y.cell hx6'
 have HT := zM (fun y : Grow w1 => HA.out y.W (zH HB1.out HB1.out.size y.hb))
 clear hq hz0 hz1 hx6 hx6' HA
 refine wp_region_grow (by kernel_rfl) (by kernel_rfl) ?_
 repeat (go_big_quiet_step (first | (go_at_call 31; exact grow_call (HT.out _))))
 refine wpQuiet_nil ?_
 rintro _ ⟨yw, rfl⟩
 have HB := zM (zH HB1.out HB1.out.size yw.hb)
 generalize yw.W = wy at HB ⊢
 clear hy0 hy1 hy2 HT
 go_wp2
 go_loopg [8] ds.length (fun kq v8 w' => ∃ (y : Nat), v8 = .int .i64 (y : Int) ∧ Aside0 (y + kq = ds.length ∧ ∀ j (hj : j < ds.length), j < y → ds[j].f0 ≠ nm) ∧ Aside0 (Below w.heap.size w w'))
 case atStart => exact ⟨0, rfl, ⟨by omega, fun j _ hj => absurd hj (by omega)⟩, HB⟩
 case round =>
  clear HB HB1
  obtain ⟨y, rfl, HY, HB⟩ := hrel
  have hl : y ≤ ds.length := by have := HY.out.1; omega
  by_cases hyt : y < ds.length
  ·cases gk with
   | zero => have := HY.out.1; omega
   | succ k2 =>
   obtain ⟨ad6, eA, hy0, hy1⟩ := dir_at HR.out HB.out y hyt
   subst eA
   clear hl
   by_cases hid : ds[y].f0 = nm
   ·have hb : (ds[y].f0.toList == nm.toList) = true := by rw [hid]; exact beq_self_eq_true _
    have HN := zM (lookD_yes nm ds y hyt hid HY.out.2)
    clear hid
    go_wp2
    go_ret
    exact ⟨by rw [HE.out, HN.out]; rfl, HB.out⟩
   ·have hb : (ds[y].f0.toList == nm.toList) = false := by rw [beq_eq_false_iff_ne]; exact fun e => hid (Str.toList_eq_iff.1 e)
    have HN := zM hid
    clear hid
    go_wp2
    go_roundg k2
    case measure => omega
    case rel => exact ⟨y + 1, by go_num, ⟨by have := HY.out.1; omega, fun j hj hjy => by
     by_cases e : j = y
     ·subst e; exact HN.out
     ·exact HY.out.2 j hj (by omega)⟩, HB⟩
  ·have HN := zM (lookD_no nm ds (fun j hj => HY.out.2 j hj (by omega)))
   have hyt' : ¬ (y : Int) < (ds.length : Int) := by omega
   clear hl
   go_wp2
   go_ret
   exact ⟨by rw [HE.out, HN.out]; rfl, HB.out⟩
end
end Go.Proofs.YtiopcpkfjikfdaaGreatDoor.PFnClean
