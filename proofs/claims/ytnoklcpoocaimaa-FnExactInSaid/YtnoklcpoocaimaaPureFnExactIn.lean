/- The program's In returns what the reference's In returns, for all arguments: the statement over numbers and lists, proved. Conditions: none beyond the bounds of the arguments' kinds. -/
import Derived.Test.YtnoklcpoocaimaaStmFnExactIn
import Derived.Test.YtnoklcpoocaimaaMath
import Derived.Test.YtnoklcpoocaimaaStr
namespace Go.Proofs.Ytnoklcpoocaimaa.Pure
open Go.RowKit Go.Proofs.Ytnoklcpoocaimaa.PFnExactIn Go.Proofs.YtnoklcpoocaimaaW.PrintWords Go.Proofs.YtnoklcpoocaimaaW.PrintLast Go.Proofs.YtnoklcpoocaimaaW.PrintMore Go.Proofs.Ytnoklcpoocaimaa.Mth Go.Proofs.Ytnoklcpoocaimaa.Str

set_option linter.unusedVariables false
set_option linter.unusedSimpArgs false
/-! ## section l1In -/
theorem l1In_eq (a b c : Int) : spec_l1In.f a b c = some (decide (b ≤ a ∧ a ≤ c)) := by
  unfold spec_l1In.f
  by_cases h : a ≥ b
  · rw [if_pos h]; have : b ≤ a := h; simp [this]
  · rw [if_neg h]; have : ¬ b ≤ a := h; simp [this]

/-! ## section ints -/
theorem rd_get (l : List Int) (i : Nat) (h : i < l.length) : rd l (i : Int) = l[i] := by
  unfold rd; rw [Int.toNat_natCast, List.getD_eq_getElem?_getD, List.getElem?_eq_getElem h]; rfl
theorem szints_ev (l : List Int) (a : Int) (h0 : 0 ≤ a) (h1 : a ≤ 1048576) (hm : l.length ≤ maxLen) : ∃ v, v ≤ a ∧ -1 ≤ v ∧ laws_szIntS.f l a = some v ∧ (0 ≤ v → l.length ≤ 1048576) := by
  unfold laws_szIntS.f
  have m : l.length ≤ 9223372036854775807 := hm
  have e : wrap64 (a - (l.length : Int)) = a - (l.length : Int) := w64 (by omega) (by omega)
  rw [e]
  by_cases hn : a - (l.length : Int) < 0
  · exact ⟨-1, by omega, by omega, if_pos hn, fun h => absurd h (by omega)⟩
  · exact ⟨a - (l.length : Int), by omega, by omega, if_neg hn, fun h => by omega⟩
theorem szcred_ev (u g : Int) (l : List Int) (hm : l.length ≤ maxLen) : ∃ v, v ≤ 1048576 ∧ laws_szCred.f u g l 1048576 = some v ∧ (0 ≤ v → l.length ≤ 1048576) := by
  obtain ⟨v, h1, h2, h3, h4⟩ := szints_ev l 1048576 (by omega) (by omega) hm
  unfold laws_szCred.f
  rw [h3, Option.bind_some]
  by_cases hv : v < 0
  · exact ⟨-1, by omega, if_pos hv, fun h => absurd h (by omega)⟩
  · exact ⟨v, h1, if_neg hv, h4⟩
theorem toints_loop (l : List Int) (hlen : l.length ≤ 1048576) : ∀ (d i : Nat), i + d = l.length → Ev (fun k => laws_toIntS.l0 k l (l.take i ++ List.replicate d 0) (i : Int)) l := by
  intro d
  induction d with
  | zero =>
    intro i hi
    have hr : l.take i ++ List.replicate 0 0 = l := by rw [List.take_of_length_le (by omega), List.replicate_zero, List.append_nil]
    rw [hr]
    exact Ev.step (fun _ => laws_toIntS.l0.eq_2 ..) (ev_neg (by omega) (ev_now rfl))
  | succ d ih =>
    intro i hi
    have hlt : i < l.length := by omega
    have e3 : wrap64 ((i : Int) + 1) = ((i + 1 : Nat) : Int) := w64 (by omega) (by omega)
    refine Ev.step (fun _ => laws_toIntS.l0.eq_2 ..) (ev_pos (by omega) (ev_pos (by omega) (ev_pos ?_ ?_)))
    · rw [List.length_append, List.length_take, List.length_replicate]; omega
    · rw [rd_get l i hlt, e3]
      have hs : (l.take i ++ List.replicate (d + 1) 0).set (i : Int).toNat l[i] = l.take (i + 1) ++ List.replicate d 0 := by
        have hl : (l.take i).length = i := by rw [List.length_take]; omega
        rw [Int.toNat_natCast, List.set_append_right _ _ (by omega), hl, Nat.sub_self, List.replicate_succ, List.set_cons_zero, List.take_succ_eq_append_getElem hlt, List.append_assoc]; rfl
      rw [hs]
      exact ih (i + 1) (by omega)
theorem tocred_ev (u g : Int) (l : List Int) (hlen : l.length ≤ 1048576) : Ev (fun k => laws_toCred.f k u g l) (u, g, l) := by
  unfold laws_toCred.f laws_toIntS.f
  refine Ev.bind (a := l) (ev_pos (by omega) (ev_pos (by omega) ?_)) (ev_now rfl)
  exact toints_loop l hlen l.length 0 (by omega)
theorem eqints_loop (l : List Int) (hlen : l.length ≤ 1048576) : ∀ (d i : Nat), i + d = l.length → Ev (fun k => laws_eqIntS.l0 k l l (i : Int)) true := by
  intro d
  induction d with
  | zero =>
    intro i hi
    exact Ev.step (fun _ => laws_eqIntS.l0.eq_2 ..) (ev_neg (by omega) (ev_now rfl))
  | succ d ih =>
    intro i hi
    have e3 : wrap64 ((i : Int) + 1) = ((i + 1 : Nat) : Int) := w64 (by omega) (by omega)
    refine Ev.step (fun _ => laws_eqIntS.l0.eq_2 ..) (ev_pos (by omega) (ev_pos (by omega) (ev_pos (by omega) (ev_pos rfl ?_))))
    rw [e3]
    exact ih (i + 1) (by omega)
theorem eqcred_ev (u g : Int) (l : List Int) (hlen : l.length ≤ 1048576) : Ev (fun k => laws_eqCred.f k u g l u g l) true := by
  unfold laws_eqCred.f laws_eqIntS.f
  exact ev_pos rfl (ev_pos rfl (Ev.bind (a := true) (ev_pos rfl (eqints_loop l hlen l.length 0 (by omega))) (ev_pos rfl (ev_now rfl))))

/-! ## section credD -/
def grpB (x : Int) : Bool := decide (0 ≤ x ∧ x ≤ 1000)
/-- is who calls right -/
def credB (u g : Int) (l : List Int) : Bool := decide ((0 ≤ u ∧ u ≤ 1000) ∧ (0 ≤ g ∧ g ≤ 1000) ∧ l.length ≤ 4) && l.all grpB
def inB (u g : Int) (l : List Int) (x : Int) : Bool := credB u g l && (decide (g = x) || l.contains x)

/-! ## section credS -/
theorem cred_spec_loop (u g : Int) (l : List Int) (hl : l.length ≤ 4) : ∀ (d i : Nat), i + d = l.length → Ev (fun k => spec_CredOk.l0 k (i : Int) u g l) ((l.drop i).all grpB) := by
  intro d
  induction d with
  | zero =>
    intro i hi
    rw [List.drop_eq_nil_of_le (by omega)]
    exact Ev.step (fun _ => spec_CredOk.l0.eq_2 ..) (ev_neg (by omega) (ev_now rfl))
  | succ d ih =>
    intro i hi
    have hlt : i < l.length := by omega
    have e3 : wrap64 ((i : Int) + 1) = ((i + 1 : Nat) : Int) := w64 (by omega) (by omega)
    rw [List.drop_eq_getElem_cons hlt, List.all_cons]
    refine Ev.step (fun _ => spec_CredOk.l0.eq_2 ..) (ev_pos (by omega) (ev_pos (by omega) (ev_of (l1In_eq _ _ _) ?_)))
    rw [rd_get l i hlt, e3]
    have ih' := ih (i + 1) (by omega)
    unfold grpB at *
    generalize l[i] = x at *
    by_cases h : 0 ≤ x ∧ x ≤ 1000
    · rw [decide_eq_true h, Bool.true_and]; exact ev_pos rfl ih'
    · rw [decide_eq_false h, Bool.false_and]; exact ev_neg (by simp) (ev_now rfl)
theorem cred_spec (u g : Int) (l : List Int) : Ev (fun k => spec_CredOk.f k u g l) (credB u g l) := by
  have hjt : Ev (fun k => spec_CredOk.j0 k true u g l) false := Ev.step (fun _ => spec_CredOk.j0.eq_2 ..) (ev_pos rfl (ev_now rfl))
  unfold spec_CredOk.f credB
  by_cases h1 : 0 ≤ u ∧ u ≤ 1000
  · refine ev_of (l1In_eq _ _ _) (ev_pos (by simpa using h1) (ev_of (l1In_eq _ _ _) ?_))
    by_cases h2 : 0 ≤ g ∧ g ≤ 1000
    · refine ev_pos (by simpa using h2) ?_
      by_cases h3 : l.length ≤ 4
      · rw [show decide ((0 ≤ u ∧ u ≤ 1000) ∧ (0 ≤ g ∧ g ≤ 1000) ∧ l.length ≤ 4) = true from decide_eq_true ⟨h1, h2, h3⟩, Bool.true_and]
        refine Ev.step (fun _ => spec_CredOk.j0.eq_2 ..) (ev_neg (by simp; omega) ?_)
        have := cred_spec_loop u g l h3 l.length 0 (by omega)
        simpa using this
      · rw [show decide ((0 ≤ u ∧ u ≤ 1000) ∧ (0 ≤ g ∧ g ≤ 1000) ∧ l.length ≤ 4) = false from decide_eq_false (fun h => h3 h.2.2), Bool.false_and]
        exact Ev.step (fun _ => spec_CredOk.j0.eq_2 ..) (ev_pos (by simp; omega) (ev_now rfl))
    · rw [show decide ((0 ≤ u ∧ u ≤ 1000) ∧ (0 ≤ g ∧ g ≤ 1000) ∧ l.length ≤ 4) = false from decide_eq_false (fun h => h2 h.2.1), Bool.false_and]
      exact ev_neg (by simpa using h2) hjt
  · rw [show decide ((0 ≤ u ∧ u ≤ 1000) ∧ (0 ≤ g ∧ g ≤ 1000) ∧ l.length ≤ 4) = false from decide_eq_false (fun h => h1 h.1), Bool.false_and]
    exact ev_of (l1In_eq _ _ _) (ev_neg (by simpa using h1) hjt)

/-! ## section credI -/
theorem wB_grp (x : Int) : wB x 0 1000 = grpB x := rfl
theorem cred_idx_loop (l : List Int) (hl : l.length ≤ 4) : ∀ (d i : Nat), i + d = l.length → ∃ r, Ev (fun k => credIdx.l0 k l (l.length : Int) (i : Int)) r ∧ (decide (r ≥ 0) = !(l.drop i).all grpB) := by
  intro d
  induction d with
  | zero =>
    intro i hi
    refine ⟨-1, Ev.step (fun _ => credIdx.l0.eq_2 ..) (ev_neg (by omega) (ev_now rfl)), ?_⟩
    rw [List.drop_eq_nil_of_le (by omega)]; rfl
  | succ d ih =>
    intro i hi
    have hlt : i < l.length := by omega
    have e3 : wrap64 ((i : Int) + 1) = ((i + 1 : Nat) : Int) := w64 (by omega) (by omega)
    rw [List.drop_eq_getElem_cons hlt, List.all_cons]
    cases hb : grpB l[i] with
    | false =>
      refine ⟨(i : Int), Ev.step (fun _ => credIdx.l0.eq_2 ..) (ev_pos (by omega) (ev_pos (by omega) (ev_pos (by omega) (ev_pos ?_ (ev_now rfl))))), ?_⟩
      · rw [rd_get l i hlt, wB_grp]; exact hb
      · simp
    | true =>
      obtain ⟨r, h1, h2⟩ := ih (i + 1) (by omega)
      refine ⟨r, Ev.step (fun _ => credIdx.l0.eq_2 ..) (ev_pos (by omega) (ev_pos (by omega) (ev_pos (by omega) (ev_neg ?_ ?_)))), ?_⟩
      · rw [rd_get l i hlt, wB_grp, hb]; simp
      · rw [e3]; exact h1
      · rw [Bool.true_and]; exact h2
theorem cred_impl (u g : Int) (l : List Int) : Ev (fun k => impl_CredOk.f k u g l) (credB u g l) := by
  unfold impl_CredOk.f credB
  by_cases h1 : 0 ≤ u ∧ u ≤ 1000
  · refine ev_pos (decide_eq_true h1) ?_
    by_cases h2 : 0 ≤ g ∧ g ≤ 1000
    · refine ev_pos (decide_eq_true h2) ?_
      by_cases h3 : l.length ≤ 4
      · rw [show decide ((0 ≤ u ∧ u ≤ 1000) ∧ (0 ≤ g ∧ g ≤ 1000) ∧ l.length ≤ 4) = true from decide_eq_true ⟨h1, h2, h3⟩, Bool.true_and]
        refine ev_neg (by omega) ?_
        obtain ⟨r, hr1, hr2⟩ := cred_idx_loop l h3 l.length 0 (by omega)
        unfold credCf.f credIdx.f
        refine Ev.bind (Ev.bind hr1 (ev_now rfl)) (ev_now ?_)
        rw [hr2, List.drop_zero, Bool.not_not]
      · rw [show decide ((0 ≤ u ∧ u ≤ 1000) ∧ (0 ≤ g ∧ g ≤ 1000) ∧ l.length ≤ 4) = false from decide_eq_false (fun h => h3 h.2.2), Bool.false_and]
        exact ev_pos (by omega) (ev_now rfl)
    · rw [show decide ((0 ≤ u ∧ u ≤ 1000) ∧ (0 ≤ g ∧ g ≤ 1000) ∧ l.length ≤ 4) = false from decide_eq_false (fun h => h2 h.2.1), Bool.false_and]
      exact ev_neg (by unfold wB; simpa using h2) (ev_now rfl)
  · rw [show decide ((0 ≤ u ∧ u ≤ 1000) ∧ (0 ≤ g ∧ g ≤ 1000) ∧ l.length ≤ 4) = false from decide_eq_false (fun h => h1 h.1), Bool.false_and]
    exact ev_neg (by unfold wB; simpa using h1) (ev_now rfl)

/-! ## section inS -/
theorem in_spec_loop (u g : Int) (l : List Int) (hl : l.length ≤ 4) (x : Int) : ∀ (d i : Nat) (b : Bool), i + d = l.length → Ev (fun k => spec_In.l0 k x b (i : Int) u g l) (b || (l.drop i).contains x) := by
  intro d
  induction d with
  | zero =>
    intro i b hi
    rw [List.drop_eq_nil_of_le (by omega)]
    refine Ev.step (fun _ => spec_In.l0.eq_2 ..) (ev_neg (by omega) (ev_now ?_))
    simp
  | succ d ih =>
    intro i b hi
    have hlt : i < l.length := by omega
    have e3 : wrap64 ((i : Int) + 1) = ((i + 1 : Nat) : Int) := w64 (by omega) (by omega)
    rw [List.drop_eq_getElem_cons hlt, List.contains_cons]
    refine Ev.step (fun _ => spec_In.l0.eq_2 ..) (ev_pos (by omega) ?_)
    rw [e3]
    cases b with
    | true =>
      have := ih (i + 1) true (by omega)
      refine ev_pos rfl ?_
      simpa using this
    | false =>
      refine ev_neg (by simp) (ev_pos (by omega) ?_)
      rw [rd_get l i hlt]
      have := ih (i + 1) (l[i] == x) (by omega)
      rw [Bool.false_or, Bool.beq_comm (a := x)]
      exact this
theorem in_spec (u g : Int) (l : List Int) (x : Int) : Ev (fun k => spec_In.f k u g l x) (inB u g l x) := by
  unfold spec_In.f inB
  refine Ev.bind (cred_spec u g l) ?_
  cases hc : credB u g l with
  | false => rw [Bool.false_and]; exact ev_neg (by simp) (ev_now rfl)
  | true =>
    rw [Bool.true_and]
    refine ev_pos rfl ?_
    have hl : l.length ≤ 4 := by
      unfold credB at hc
      simp only [Bool.and_eq_true, decide_eq_true_eq] at hc
      omega
    have := in_spec_loop u g l hl x l.length 0 (g == x) (by omega)
    rw [List.drop_zero] at this
    exact this

/-! ## section inI -/
theorem index_loop (l : List Int) (hl : l.length ≤ 1048576) (x : Int) : ∀ (d i : Nat), i + d = l.length → ∃ r, Ev (fun k => slices_Index_int_int.l0 k l x (l.length : Int) (i : Int)) r ∧ decide (r ≥ 0) = (l.drop i).contains x := by
  intro d
  induction d with
  | zero =>
    intro i hi
    refine ⟨-1, Ev.step (fun _ => slices_Index_int_int.l0.eq_2 ..) (ev_neg (by omega) (ev_now rfl)), ?_⟩
    rw [List.drop_eq_nil_of_le (by omega)]; rfl
  | succ d ih =>
    intro i hi
    have hlt : i < l.length := by omega
    have e3 : wrap64 ((i : Int) + 1) = ((i + 1 : Nat) : Int) := w64 (by omega) (by omega)
    rw [List.drop_eq_getElem_cons hlt, List.contains_cons]
    by_cases hx : x = l[i]
    · refine ⟨(i : Int), Ev.step (fun _ => slices_Index_int_int.l0.eq_2 ..) (ev_pos (by omega) (ev_pos (by omega) (ev_pos (by omega) (ev_pos ?_ (ev_now rfl))))), ?_⟩
      · rw [rd_get l i hlt]; exact hx
      · rw [← hx]; simp
    · obtain ⟨r, h1, h2⟩ := ih (i + 1) (by omega)
      refine ⟨r, Ev.step (fun _ => slices_Index_int_int.l0.eq_2 ..) (ev_pos (by omega) (ev_pos (by omega) (ev_pos (by omega) (ev_neg ?_ ?_)))), ?_⟩
      · rw [rd_get l i hlt]; exact hx
      · rw [e3]; exact h1
      · rw [h2]; simp [hx]
theorem contains_ev (l : List Int) (hl : l.length ≤ 1048576) (x : Int) : Ev (fun k => slices_Contains_int_int.f k l x) (l.contains x) := by
  unfold slices_Contains_int_int.f slices_Index_int_int.f
  obtain ⟨r, h1, h2⟩ := index_loop l hl x l.length 0 (by omega)
  refine Ev.bind h1 (ev_now ?_)
  rw [h2, List.drop_zero]

/-! ## section inI2 -/
theorem in_impl (u g : Int) (l : List Int) (x : Int) : Ev (fun k => impl_In.f k u g l x) (inB u g l x) := by
  unfold impl_In.f inB
  refine Ev.bind (cred_impl u g l) ?_
  cases hc : credB u g l with
  | false => rw [Bool.false_and]; exact ev_neg (by simp) (ev_now rfl)
  | true =>
    rw [Bool.true_and]
    refine ev_pos rfl ?_
    have hl : l.length ≤ 4 := by
      unfold credB at hc
      simp only [Bool.and_eq_true, decide_eq_true_eq] at hc
      omega
    by_cases hx : x = g
    · refine ev_pos hx (ev_now ?_)
      rw [decide_eq_true hx.symm, Bool.true_or]
    · refine ev_neg hx ?_
      rw [decide_eq_false (fun h => hx h.symm), Bool.false_or]
      exact Ev.bind (contains_ev l (by omega) x) (ev_now rfl)

/-! ## section FnExactIn -/
theorem FnExactIn : laws_FnExactIn.Pure := by
  intro u g l x _ _ hl _
  refine Ev.rounds (r := true) ?_
  unfold laws_FnExactIn.f
  obtain ⟨v, _, hv, hle⟩ := szcred_ev u g l hl.1
  refine ev_of hv ?_
  by_cases h : v < 0
  · exact ev_pos h (ev_now rfl)
  · refine ev_neg h ?_
    have h6 := hle (by omega)
    have ht := tocred_ev u g l h6
    exact Ev.bind ht (Ev.bind (in_spec _ _ _ _) (Ev.bind ht (Ev.bind (in_impl _ _ _ _) (ev_neg (by simp) (Ev.bind ht (Ev.bind (eqcred_ev _ _ _ h6) (ev_pos rfl (ev_now rfl))))))))

end Go.Proofs.Ytnoklcpoocaimaa.Pure
