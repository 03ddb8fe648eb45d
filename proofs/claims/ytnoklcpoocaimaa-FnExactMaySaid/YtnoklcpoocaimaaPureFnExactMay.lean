/- The program's May returns what the reference's May returns, for all arguments: the statement over numbers and lists, proved. Conditions: none beyond the bounds of the arguments' kinds. -/
import Derived.Test.YtnoklcpoocaimaaStmFnExactMay
import Derived.Test.YtnoklcpoocaimaaMath
import Derived.Test.YtnoklcpoocaimaaStr
namespace Go.Proofs.Ytnoklcpoocaimaa.Pure
open Go.RowKit Go.Proofs.Ytnoklcpoocaimaa.PFnExactMay Go.Proofs.YtnoklcpoocaimaaW.PrintWords Go.Proofs.YtnoklcpoocaimaaW.PrintLast Go.Proofs.YtnoklcpoocaimaaW.PrintMore Go.Proofs.Ytnoklcpoocaimaa.Mth Go.Proofs.Ytnoklcpoocaimaa.Str

set_option linter.unusedVariables false
set_option linter.unusedSimpArgs false
/-! ## section within -/
theorem within_eq (a b c : Int) : impl_within.f a b c = some (decide (b ≤ a ∧ a ≤ c)) := by
  unfold impl_within.f
  by_cases h : a ≥ b
  · rw [if_pos h]; have : b ≤ a := h; simp [this]
  · rw [if_neg h]; have : ¬ b ≤ a := h; simp [this]

/-! ## section l1In -/
theorem l1In_eq (a b c : Int) : spec_l1In.f a b c = some (decide (b ≤ a ∧ a ≤ c)) := by
  unfold spec_l1In.f
  by_cases h : a ≥ b
  · rw [if_pos h]; have : b ≤ a := h; simp [this]
  · rw [if_neg h]; have : ¬ b ≤ a := h; simp [this]

/-! ## section ints -/
theorem rd_get (l : List Int) (i : Nat) (h : i < l.length) : rd l (i : Int) = l[i] := by
  unfold rd; rw [Int.toNat_natCast, List.getD_eq_getElem?_getD, List.getElem?_eq_getElem h]; rfl
theorem szints_ev (l : List Int) (a : Int) (h0 : 0 ≤ a) (h1 : a ≤ 1048576) (hm : l.length ≤ maxLen) : ∃ v, v ≤ a ∧ -1 ≤ v ∧ laws_szIntS.f l a = some v ∧ (0 ≤ v → l.length ≤ 1048576) := by
  unfold laws_szIntS.f
  have m : l.length ≤ 9223372036854775807 := hm
  have e : wrap64 (a - (l.length : Int)) = a - (l.length : Int) := w64 (by omega) (by omega)
  rw [e]
  by_cases hn : a - (l.length : Int) < 0
  · exact ⟨-1, by omega, by omega, if_pos hn, fun h => absurd h (by omega)⟩
  · exact ⟨a - (l.length : Int), by omega, by omega, if_neg hn, fun h => by omega⟩
theorem szcred_ev (u g : Int) (l : List Int) (hm : l.length ≤ maxLen) : ∃ v, v ≤ 1048576 ∧ laws_szCred.f u g l 1048576 = some v ∧ (0 ≤ v → l.length ≤ 1048576) := by
  obtain ⟨v, h1, h2, h3, h4⟩ := szints_ev l 1048576 (by omega) (by omega) hm
  unfold laws_szCred.f
  rw [h3, Option.bind_some]
  by_cases hv : v < 0
  · exact ⟨-1, by omega, if_pos hv, fun h => absurd h (by omega)⟩
  · exact ⟨v, h1, if_neg hv, h4⟩
theorem toints_loop (l : List Int) (hlen : l.length ≤ 1048576) : ∀ (d i : Nat), i + d = l.length → Ev (fun k => laws_toIntS.l0 k l (l.take i ++ List.replicate d 0) (i : Int)) l := by
  intro d
  induction d with
  | zero =>
    intro i hi
    have hr : l.take i ++ List.replicate 0 0 = l := by rw [List.take_of_length_le (by omega), List.replicate_zero, List.append_nil]
    rw [hr]
    exact Ev.step (fun _ => laws_toIntS.l0.eq_2 ..) (ev_neg (by omega) (ev_now rfl))
  | succ d ih =>
    intro i hi
    have hlt : i < l.length := by omega
    have e3 : wrap64 ((i : Int) + 1) = ((i + 1 : Nat) : Int) := w64 (by omega) (by omega)
    refine Ev.step (fun _ => laws_toIntS.l0.eq_2 ..) (ev_pos (by omega) (ev_pos (by omega) (ev_pos ?_ ?_)))
    · rw [List.length_append, List.length_take, List.length_replicate]; omega
    · rw [rd_get l i hlt, e3]
      have hs : (l.take i ++ List.replicate (d + 1) 0).set (i : Int).toNat l[i] = l.take (i + 1) ++ List.replicate d 0 := by
        have hl : (l.take i).length = i := by rw [List.length_take]; omega
        rw [Int.toNat_natCast, List.set_append_right _ _ (by omega), hl, Nat.sub_self, List.replicate_succ, List.set_cons_zero, List.take_succ_eq_append_getElem hlt, List.append_assoc]; rfl
      rw [hs]
      exact ih (i + 1) (by omega)
theorem tocred_ev (u g : Int) (l : List Int) (hlen : l.length ≤ 1048576) : Ev (fun k => laws_toCred.f k u g l) (u, g, l) := by
  unfold laws_toCred.f laws_toIntS.f
  refine Ev.bind (a := l) (ev_pos (by omega) (ev_pos (by omega) ?_)) (ev_now rfl)
  exact toints_loop l hlen l.length 0 (by omega)
theorem eqints_loop (l : List Int) (hlen : l.length ≤ 1048576) : ∀ (d i : Nat), i + d = l.length → Ev (fun k => laws_eqIntS.l0 k l l (i : Int)) true := by
  intro d
  induction d with
  | zero =>
    intro i hi
    exact Ev.step (fun _ => laws_eqIntS.l0.eq_2 ..) (ev_neg (by omega) (ev_now rfl))
  | succ d ih =>
    intro i hi
    have e3 : wrap64 ((i : Int) + 1) = ((i + 1 : Nat) : Int) := w64 (by omega) (by omega)
    refine Ev.step (fun _ => laws_eqIntS.l0.eq_2 ..) (ev_pos (by omega) (ev_pos (by omega) (ev_pos (by omega) (ev_pos rfl ?_))))
    rw [e3]
    exact ih (i + 1) (by omega)
theorem eqcred_ev (u g : Int) (l : List Int) (hlen : l.length ≤ 1048576) : Ev (fun k => laws_eqCred.f k u g l u g l) true := by
  unfold laws_eqCred.f laws_eqIntS.f
  exact ev_pos rfl (ev_pos rfl (Ev.bind (a := true) (ev_pos rfl (eqints_loop l hlen l.length 0 (by omega))) (ev_pos rfl (ev_now rfl))))

/-! ## section credD -/
def grpB (x : Int) : Bool := decide (0 ≤ x ∧ x ≤ 1000)
/-- is who calls right -/
def credB (u g : Int) (l : List Int) : Bool := decide ((0 ≤ u ∧ u ≤ 1000) ∧ (0 ≤ g ∧ g ≤ 1000) ∧ l.length ≤ 4) && l.all grpB
def inB (u g : Int) (l : List Int) (x : Int) : Bool := credB u g l && (decide (g = x) || l.contains x)

/-! ## section credS -/
theorem cred_spec_loop (u g : Int) (l : List Int) (hl : l.length ≤ 4) : ∀ (d i : Nat), i + d = l.length → Ev (fun k => spec_CredOk.l0 k (i : Int) u g l) ((l.drop i).all grpB) := by
  intro d
  induction d with
  | zero =>
    intro i hi
    rw [List.drop_eq_nil_of_le (by omega)]
    exact Ev.step (fun _ => spec_CredOk.l0.eq_2 ..) (ev_neg (by omega) (ev_now rfl))
  | succ d ih =>
    intro i hi
    have hlt : i < l.length := by omega
    have e3 : wrap64 ((i : Int) + 1) = ((i + 1 : Nat) : Int) := w64 (by omega) (by omega)
    rw [List.drop_eq_getElem_cons hlt, List.all_cons]
    refine Ev.step (fun _ => spec_CredOk.l0.eq_2 ..) (ev_pos (by omega) (ev_pos (by omega) (ev_of (l1In_eq _ _ _) ?_)))
    rw [rd_get l i hlt, e3]
    have ih' := ih (i + 1) (by omega)
    unfold grpB at *
    generalize l[i] = x at *
    by_cases h : 0 ≤ x ∧ x ≤ 1000
    · rw [decide_eq_true h, Bool.true_and]; exact ev_pos rfl ih'
    · rw [decide_eq_false h, Bool.false_and]; exact ev_neg (by simp) (ev_now rfl)
theorem cred_spec (u g : Int) (l : List Int) : Ev (fun k => spec_CredOk.f k u g l) (credB u g l) := by
  have hjt : Ev (fun k => spec_CredOk.j0 k true u g l) false := Ev.step (fun _ => spec_CredOk.j0.eq_2 ..) (ev_pos rfl (ev_now rfl))
  unfold spec_CredOk.f credB
  by_cases h1 : 0 ≤ u ∧ u ≤ 1000
  · refine ev_of (l1In_eq _ _ _) (ev_pos (by simpa using h1) (ev_of (l1In_eq _ _ _) ?_))
    by_cases h2 : 0 ≤ g ∧ g ≤ 1000
    · refine ev_pos (by simpa using h2) ?_
      by_cases h3 : l.length ≤ 4
      · rw [show decide ((0 ≤ u ∧ u ≤ 1000) ∧ (0 ≤ g ∧ g ≤ 1000) ∧ l.length ≤ 4) = true from decide_eq_true ⟨h1, h2, h3⟩, Bool.true_and]
        refine Ev.step (fun _ => spec_CredOk.j0.eq_2 ..) (ev_neg (by simp; omega) ?_)
        have := cred_spec_loop u g l h3 l.length 0 (by omega)
        simpa using this
      · rw [show decide ((0 ≤ u ∧ u ≤ 1000) ∧ (0 ≤ g ∧ g ≤ 1000) ∧ l.length ≤ 4) = false from decide_eq_false (fun h => h3 h.2.2), Bool.false_and]
        exact Ev.step (fun _ => spec_CredOk.j0.eq_2 ..) (ev_pos (by simp; omega) (ev_now rfl))
    · rw [show decide ((0 ≤ u ∧ u ≤ 1000) ∧ (0 ≤ g ∧ g ≤ 1000) ∧ l.length ≤ 4) = false from decide_eq_false (fun h => h2 h.2.1), Bool.false_and]
      exact ev_neg (by simpa using h2) hjt
  · rw [show decide ((0 ≤ u ∧ u ≤ 1000) ∧ (0 ≤ g ∧ g ≤ 1000) ∧ l.length ≤ 4) = false from decide_eq_false (fun h => h1 h.1), Bool.false_and]
    exact ev_of (l1In_eq _ _ _) (ev_neg (by simpa using h1) hjt)

/-! ## section credI -/
theorem wB_grp (x : Int) : wB x 0 1000 = grpB x := rfl
theorem cred_idx_loop (l : List Int) (hl : l.length ≤ 4) : ∀ (d i : Nat), i + d = l.length → ∃ r, Ev (fun k => credIdx.l0 k l (l.length : Int) (i : Int)) r ∧ (decide (r ≥ 0) = !(l.drop i).all grpB) := by
  intro d
  induction d with
  | zero =>
    intro i hi
    refine ⟨-1, Ev.step (fun _ => credIdx.l0.eq_2 ..) (ev_neg (by omega) (ev_now rfl)), ?_⟩
    rw [List.drop_eq_nil_of_le (by omega)]; rfl
  | succ d ih =>
    intro i hi
    have hlt : i < l.length := by omega
    have e3 : wrap64 ((i : Int) + 1) = ((i + 1 : Nat) : Int) := w64 (by omega) (by omega)
    rw [List.drop_eq_getElem_cons hlt, List.all_cons]
    cases hb : grpB l[i] with
    | false =>
      refine ⟨(i : Int), Ev.step (fun _ => credIdx.l0.eq_2 ..) (ev_pos (by omega) (ev_pos (by omega) (ev_pos (by omega) (ev_pos ?_ (ev_now rfl))))), ?_⟩
      · rw [rd_get l i hlt, wB_grp]; exact hb
      · simp
    | true =>
      obtain ⟨r, h1, h2⟩ := ih (i + 1) (by omega)
      refine ⟨r, Ev.step (fun _ => credIdx.l0.eq_2 ..) (ev_pos (by omega) (ev_pos (by omega) (ev_pos (by omega) (ev_neg ?_ ?_)))), ?_⟩
      · rw [rd_get l i hlt, wB_grp, hb]; simp
      · rw [e3]; exact h1
      · rw [Bool.true_and]; exact h2
theorem cred_impl (u g : Int) (l : List Int) : Ev (fun k => impl_CredOk.f k u g l) (credB u g l) := by
  unfold impl_CredOk.f credB
  by_cases h1 : 0 ≤ u ∧ u ≤ 1000
  · refine ev_pos (decide_eq_true h1) ?_
    by_cases h2 : 0 ≤ g ∧ g ≤ 1000
    · refine ev_pos (decide_eq_true h2) ?_
      by_cases h3 : l.length ≤ 4
      · rw [show decide ((0 ≤ u ∧ u ≤ 1000) ∧ (0 ≤ g ∧ g ≤ 1000) ∧ l.length ≤ 4) = true from decide_eq_true ⟨h1, h2, h3⟩, Bool.true_and]
        refine ev_neg (by omega) ?_
        obtain ⟨r, hr1, hr2⟩ := cred_idx_loop l h3 l.length 0 (by omega)
        unfold credCf.f credIdx.f
        refine Ev.bind (Ev.bind hr1 (ev_now rfl)) (ev_now ?_)
        rw [hr2, List.drop_zero, Bool.not_not]
      · rw [show decide ((0 ≤ u ∧ u ≤ 1000) ∧ (0 ≤ g ∧ g ≤ 1000) ∧ l.length ≤ 4) = false from decide_eq_false (fun h => h3 h.2.2), Bool.false_and]
        exact ev_pos (by omega) (ev_now rfl)
    · rw [show decide ((0 ≤ u ∧ u ≤ 1000) ∧ (0 ≤ g ∧ g ≤ 1000) ∧ l.length ≤ 4) = false from decide_eq_false (fun h => h2 h.2.1), Bool.false_and]
      exact ev_neg (by unfold wB; simpa using h2) (ev_now rfl)
  · rw [show decide ((0 ≤ u ∧ u ≤ 1000) ∧ (0 ≤ g ∧ g ≤ 1000) ∧ l.length ≤ 4) = false from decide_eq_false (fun h => h1 h.1), Bool.false_and]
    exact ev_neg (by unfold wB; simpa using h1) (ev_now rfl)

/-! ## section inS -/
theorem in_spec_loop (u g : Int) (l : List Int) (hl : l.length ≤ 4) (x : Int) : ∀ (d i : Nat) (b : Bool), i + d = l.length → Ev (fun k => spec_In.l0 k x b (i : Int) u g l) (b || (l.drop i).contains x) := by
  intro d
  induction d with
  | zero =>
    intro i b hi
    rw [List.drop_eq_nil_of_le (by omega)]
    refine Ev.step (fun _ => spec_In.l0.eq_2 ..) (ev_neg (by omega) (ev_now ?_))
    simp
  | succ d ih =>
    intro i b hi
    have hlt : i < l.length := by omega
    have e3 : wrap64 ((i : Int) + 1) = ((i + 1 : Nat) : Int) := w64 (by omega) (by omega)
    rw [List.drop_eq_getElem_cons hlt, List.contains_cons]
    refine Ev.step (fun _ => spec_In.l0.eq_2 ..) (ev_pos (by omega) ?_)
    rw [e3]
    cases b with
    | true =>
      have := ih (i + 1) true (by omega)
      refine ev_pos rfl ?_
      simpa using this
    | false =>
      refine ev_neg (by simp) (ev_pos (by omega) ?_)
      rw [rd_get l i hlt]
      have := ih (i + 1) (l[i] == x) (by omega)
      rw [Bool.false_or, Bool.beq_comm (a := x)]
      exact this
theorem in_spec (u g : Int) (l : List Int) (x : Int) : Ev (fun k => spec_In.f k u g l x) (inB u g l x) := by
  unfold spec_In.f inB
  refine Ev.bind (cred_spec u g l) ?_
  cases hc : credB u g l with
  | false => rw [Bool.false_and]; exact ev_neg (by simp) (ev_now rfl)
  | true =>
    rw [Bool.true_and]
    refine ev_pos rfl ?_
    have hl : l.length ≤ 4 := by
      unfold credB at hc
      simp only [Bool.and_eq_true, decide_eq_true_eq] at hc
      omega
    have := in_spec_loop u g l hl x l.length 0 (g == x) (by omega)
    rw [List.drop_zero] at this
    exact this

/-! ## section inI -/
theorem index_loop (l : List Int) (hl : l.length ≤ 1048576) (x : Int) : ∀ (d i : Nat), i + d = l.length → ∃ r, Ev (fun k => slices_Index_int_int.l0 k l x (l.length : Int) (i : Int)) r ∧ decide (r ≥ 0) = (l.drop i).contains x := by
  intro d
  induction d with
  | zero =>
    intro i hi
    refine ⟨-1, Ev.step (fun _ => slices_Index_int_int.l0.eq_2 ..) (ev_neg (by omega) (ev_now rfl)), ?_⟩
    rw [List.drop_eq_nil_of_le (by omega)]; rfl
  | succ d ih =>
    intro i hi
    have hlt : i < l.length := by omega
    have e3 : wrap64 ((i : Int) + 1) = ((i + 1 : Nat) : Int) := w64 (by omega) (by omega)
    rw [List.drop_eq_getElem_cons hlt, List.contains_cons]
    by_cases hx : x = l[i]
    · refine ⟨(i : Int), Ev.step (fun _ => slices_Index_int_int.l0.eq_2 ..) (ev_pos (by omega) (ev_pos (by omega) (ev_pos (by omega) (ev_pos ?_ (ev_now rfl))))), ?_⟩
      · rw [rd_get l i hlt]; exact hx
      · rw [← hx]; simp
    · obtain ⟨r, h1, h2⟩ := ih (i + 1) (by omega)
      refine ⟨r, Ev.step (fun _ => slices_Index_int_int.l0.eq_2 ..) (ev_pos (by omega) (ev_pos (by omega) (ev_pos (by omega) (ev_neg ?_ ?_)))), ?_⟩
      · rw [rd_get l i hlt]; exact hx
      · rw [e3]; exact h1
      · rw [h2]; simp [hx]
theorem contains_ev (l : List Int) (hl : l.length ≤ 1048576) (x : Int) : Ev (fun k => slices_Contains_int_int.f k l x) (l.contains x) := by
  unfold slices_Contains_int_int.f slices_Index_int_int.f
  obtain ⟨r, h1, h2⟩ := index_loop l hl x l.length 0 (by omega)
  refine Ev.bind h1 (ev_now ?_)
  rw [h2, List.drop_zero]

/-! ## section inI2 -/
theorem in_impl (u g : Int) (l : List Int) (x : Int) : Ev (fun k => impl_In.f k u g l x) (inB u g l x) := by
  unfold impl_In.f inB
  refine Ev.bind (cred_impl u g l) ?_
  cases hc : credB u g l with
  | false => rw [Bool.false_and]; exact ev_neg (by simp) (ev_now rfl)
  | true =>
    rw [Bool.true_and]
    refine ev_pos rfl ?_
    have hl : l.length ≤ 4 := by
      unfold credB at hc
      simp only [Bool.and_eq_true, decide_eq_true_eq] at hc
      omega
    by_cases hx : x = g
    · refine ev_pos hx (ev_now ?_)
      rw [decide_eq_true hx.symm, Bool.true_or]
    · refine ev_neg hx ?_
      rw [decide_eq_false (fun h => hx h.symm), Bool.false_or]
      exact Ev.bind (contains_ev l (by omega) x) (ev_now rfl)

/-! ## section mayD -/
/-- the bits that are asked for, of a mode -/
def bitsB (m want : Int) : Bool := Go.bits .and .i64 (Go.bits .and .i64 m 7) want == want
def mayB (u g : Int) (l : List Int) (kind mode nu ng want : Int) : Bool :=
  if credB u g l = true ∧ 0 ≤ want ∧ want ≤ 7 then
    (if u = 0 then decide (Go.bits .and .i64 want 1 = 0 ∨ kind ≠ 1 ∨ Go.bits .and .i64 mode 73 ≠ 0)
     else if u = nu then bitsB (mode / 64) want else if inB u g l ng = true then bitsB (mode / 8) want else bitsB mode want)
  else false

/-! ## section mayS -/
theorem may_spec (u g : Int) (l : List Int) (a0 kind mode nu ng : Int) (d : ByteArray) (ns : List S143) (a7 a8 want : Int) : Ev (fun k => spec_May.f k u g l a0 kind mode nu ng d ns a7 a8 want) (mayB u g l kind mode nu ng want) := by
  have hjt : Ev (fun k => spec_May.j0 k want true u g l a0 kind mode nu ng d ns a7 a8) false := Ev.step (fun _ => spec_May.j0.eq_2 ..) (ev_pos rfl (ev_now rfl))
  unfold spec_May.f mayB
  refine Ev.bind (cred_spec u g l) ?_
  by_cases hc : credB u g l = true
  · refine ev_pos hc (ev_of (l1In_eq _ _ _) ?_)
    by_cases hw : 0 ≤ want ∧ want ≤ 7
    · rw [if_pos ⟨hc, hw⟩]
      refine Ev.step (fun _ => spec_May.j0.eq_2 ..) (ev_neg (by simp; omega) ?_)
      by_cases hu : u = 0
      · rw [if_pos hu]
        refine ev_pos hu ?_
        by_cases h1 : Go.bits .and .i64 want 1 = 0
        · exact ev_pos h1 (ev_now (by rw [decide_eq_true (.inl h1)]))
        · refine ev_neg h1 ?_
          by_cases hk : kind = 1
          · refine ev_pos hk (ev_now ?_)
            congr 1
            apply Bool.eq_iff_iff.2
            simp only [bne_iff_ne, decide_eq_true_eq]
            constructor
            · intro h; exact .inr (.inr h)
            · rintro (h | h | h)
              · exact absurd h h1
              · exact absurd hk h
              · exact h
          · exact ev_neg hk (ev_now (by rw [decide_eq_true (.inr (.inl hk))]))
      · rw [if_neg hu]
        refine ev_neg hu (Ev.bind (in_spec u g l ng) ?_)
        by_cases hi : inB u g l ng = true
        · refine ev_pos hi ?_
          by_cases hn : u = nu
          · exact ev_pos hn (ev_now (by rw [if_pos hn]; rfl))
          · exact ev_neg hn (ev_now (by rw [if_neg hn, if_pos hi]; rfl))
        · refine ev_neg hi ?_
          by_cases hn : u = nu
          · exact ev_pos hn (ev_now (by rw [if_pos hn]; rfl))
          · exact ev_neg hn (ev_now (by rw [if_neg hn, if_neg hi]; rfl))
    · rw [if_neg (fun h => hw h.2)]
      exact Ev.step (fun _ => spec_May.j0.eq_2 ..) (ev_pos (by simp; omega) (ev_now rfl))
  · rw [if_neg (fun h => hc h.1)]
    exact ev_neg hc hjt

/-! ## section mayI -/
theorem may_impl (u g : Int) (l : List Int) (a0 kind mode nu ng : Int) (d : ByteArray) (ns : List S143) (a7 a8 want : Int) : Ev (fun k => impl_May.f k u g l a0 kind mode nu ng d ns a7 a8 want) (mayB u g l kind mode nu ng want) := by
  have hjt : Ev (fun k => impl_May.j0 k want true u g l a0 kind mode nu ng d ns a7 a8) false := Ev.step (fun _ => impl_May.j0.eq_2 ..) (ev_pos rfl (ev_now rfl))
  unfold impl_May.f mayB
  refine Ev.bind (cred_impl u g l) ?_
  by_cases hc : credB u g l = true
  · refine ev_pos hc (ev_of (within_eq _ _ _) ?_)
    by_cases hw : 0 ≤ want ∧ want ≤ 7
    · rw [if_pos ⟨hc, hw⟩]
      refine Ev.step (fun _ => impl_May.j0.eq_2 ..) (ev_neg (by simp; omega) ?_)
      by_cases hu : u = 0
      · rw [if_pos hu]
        refine ev_pos hu ?_
        by_cases hk : kind = 1
        · refine ev_pos hk ?_
          by_cases hm : Go.bits .and .i64 mode 73 = 0
          · refine ev_pos hm (ev_now ?_)
            congr 1
            apply Bool.eq_iff_iff.2
            simp only [beq_iff_eq, decide_eq_true_eq]
            constructor
            · intro h; exact .inl h
            · rintro (h | h | h)
              · exact h
              · exact absurd hk h
              · exact absurd hm h
          · exact ev_neg hm (ev_now (by rw [decide_eq_true (.inr (.inr hm))]))
        · exact ev_neg hk (ev_now (by rw [decide_eq_true (.inr (.inl hk))]))
      · rw [if_neg hu]
        refine ev_neg hu ?_
        by_cases hn : u = nu
        · exact ev_pos hn (ev_now (by rw [if_pos hn]; rfl))
        · rw [if_neg hn]
          refine ev_neg hn (Ev.bind (in_impl u g l ng) ?_)
          by_cases hi : inB u g l ng = true
          · exact ev_pos hi (ev_now (by rw [if_pos hi]; rfl))
          · exact ev_neg hi (ev_now (by rw [if_neg hi]; rfl))
    · rw [if_neg (fun h => hw h.2)]
      exact Ev.step (fun _ => impl_May.j0.eq_2 ..) (ev_pos (by simp; omega) (ev_now rfl))
  · rw [if_neg (fun h => hc h.1)]
    exact ev_neg hc hjt

/-! ## section list:Dirent/142/143/s,i/sztoeq -/
theorem szDirent_ev (x : S142) (a : Int) (h0 : 0 ≤ a) (h1 : a ≤ 1048576) (hok : okS142 x) : ∃ v, v ≤ a ∧ -1 ≤ v ∧ Ev (fun k => laws_szDirent.f x.f0 x.f1 a) v := by
  unfold okS142 at hok
  obtain ⟨q0, q1⟩ := hok
  unfold laws_szDirent.f
  have m0 : x.f0.size ≤ 9223372036854775807 := q0
  have e : wrap64 (a - (x.f0.size : Int)) = a - (x.f0.size : Int) := w64 (by omega) (by omega)
  rw [e]
  by_cases hn : a - (x.f0.size : Int) < 0
  · exact ⟨-1, by omega, by omega, ev_pos hn (ev_now rfl)⟩
  · exact ⟨a - (x.f0.size : Int), by omega, by omega, ev_neg hn (ev_now rfl)⟩
theorem szDirentS_loop (l : List S142) (hlen : l.length ≤ 1048576) (hok : ∀ x ∈ l, okS142 x) : ∀ (d i : Nat) (a : Int), i + d = l.length → 0 ≤ a → a ≤ 1048576 → ∃ v, v ≤ a ∧ -1 ≤ v ∧ Ev (fun k => laws_szDirentS.l0 k l a (i : Int)) v := by
  intro d
  induction d with
  | zero =>
    intro i a hi h0 h1
    exact ⟨a, by omega, by omega, Ev.step (laws_szDirentS.l0.eq_2 _ _ _) (ev_neg (by omega) (ev_now rfl))⟩
  | succ d ih =>
    intro i a hi h0 h1
    have hlt : i < l.length := by omega
    have hx : rd_T142 l (i : Int) = l[i] := by unfold rd_T142; rw [Int.toNat_natCast, List.getD_eq_getElem?_getD, List.getElem?_eq_getElem hlt]; rfl
    obtain ⟨v, hv1, hv2, hv3⟩ := szDirent_ev l[i] a h0 h1 (hok _ (List.getElem_mem hlt))
    have e3 : wrap64 ((i : Int) + 1) = ((i + 1 : Nat) : Int) := w64 (by omega) (by omega)
    by_cases hv : v < 0
    · refine ⟨-1, by omega, by omega, ?_⟩
      refine Ev.step (laws_szDirentS.l0.eq_2 _ _ _) (ev_pos (by omega) (ev_pos (by omega) ?_))
      rw [hx]
      exact Ev.bind hv3 (ev_pos hv (ev_now rfl))
    · obtain ⟨u, hu1, hu2, hu3⟩ := ih (i + 1) v (by omega) (by omega) (by omega)
      refine ⟨u, by omega, by omega, ?_⟩
      refine Ev.step (laws_szDirentS.l0.eq_2 _ _ _) (ev_pos (by omega) (ev_pos (by omega) ?_))
      rw [hx, e3]
      exact Ev.bind hv3 (ev_neg hv hu3)
theorem szDirentS_ev (l : List S142) (a : Int) (h0 : 0 ≤ a) (h1 : a ≤ 1048576) (hm : l.length ≤ maxLen) (hok : ∀ x ∈ l, okS142 x) : ∃ v, v ≤ a ∧ -1 ≤ v ∧ Ev (fun k => laws_szDirentS.f k l a) v ∧ (0 ≤ v → l.length ≤ 1048576) := by
  unfold laws_szDirentS.f
  have m : l.length ≤ 9223372036854775807 := hm
  have e : wrap64 (a - (l.length : Int)) = a - (l.length : Int) := w64 (by omega) (by omega)
  rw [e]
  by_cases hn : a - (l.length : Int) < 0
  · exact ⟨-1, by omega, by omega, ev_pos hn (ev_now rfl), fun h => absurd h (by omega)⟩
  · obtain ⟨v, h2, h3, h4⟩ := szDirentS_loop l (by omega) hok l.length 0 (a - (l.length : Int)) (by omega) (by omega) (by omega)
    exact ⟨v, by omega, h3, ev_neg hn h4, fun h => by omega⟩
def cvDirent (x : S142) : S143 := ⟨x.f0, x.f1⟩
theorem toDirent_ev (x : S142) : Ev (fun k => laws_toDirent.f x.f0 x.f1) (x.f0, x.f1) := by
  unfold laws_toDirent.f
  exact ev_now rfl
theorem toDirentS_loop (l : List S142) (hlen : l.length ≤ 1048576) : ∀ (d i : Nat), i + d = l.length → Ev (fun k => laws_toDirentS.l0 k l ((l.take i).map cvDirent ++ List.replicate d z143) (i : Int)) (l.map cvDirent) := by
  intro d
  induction d with
  | zero =>
    intro i hi
    rw [List.take_of_length_le (by omega), List.replicate_zero, List.append_nil]
    exact Ev.step (laws_toDirentS.l0.eq_2 _ _ _) (ev_neg (by omega) (ev_now rfl))
  | succ d ih =>
    intro i hi
    have hlt : i < l.length := by omega
    have hx : rd_T142 l (i : Int) = l[i] := by unfold rd_T142; rw [Int.toNat_natCast, List.getD_eq_getElem?_getD, List.getElem?_eq_getElem hlt]; rfl
    have e3 : wrap64 ((i : Int) + 1) = ((i + 1 : Nat) : Int) := w64 (by omega) (by omega)
    refine Ev.step (laws_toDirentS.l0.eq_2 _ _ _) (ev_pos (by omega) (ev_pos (by omega) ?_))
    rw [hx, e3]
    refine Ev.bind (toDirent_ev l[i]) (ev_pos ?_ ?_)
    · rw [List.length_append, List.length_map, List.length_take, List.length_replicate]; omega
    · have hs : ((l.take i).map cvDirent ++ List.replicate (d + 1) z143).set (i : Int).toNat (cvDirent l[i]) = (l.take (i + 1)).map cvDirent ++ List.replicate d z143 := by
        have hl : ((l.take i).map cvDirent).length = i := by rw [List.length_map, List.length_take]; omega
        rw [Int.toNat_natCast, List.set_append_right _ _ (by omega), hl, Nat.sub_self, List.replicate_succ, List.set_cons_zero, List.take_succ_eq_append_getElem hlt, List.map_append, List.append_assoc]; rfl
      have hr := ih (i + 1) (by omega)
      rw [← hs] at hr
      exact hr
theorem toDirentS_ev (l : List S142) (hlen : l.length ≤ 1048576) : Ev (fun k => laws_toDirentS.f k l) (l.map cvDirent) := by
  unfold laws_toDirentS.f
  refine ev_pos (by omega) (ev_pos (by omega) ?_)
  exact toDirentS_loop l hlen l.length 0 (by omega)
theorem eqDirent_ev (x : S143) : Ev (fun k => laws_eqDirent.f x.f0 x.f1 x.f0 x.f1) true := by
  unfold laws_eqDirent.f
  exact ev_pos rfl (ev_pos rfl (ev_now rfl))
theorem eqDirentS_loop (l : List S143) (hlen : l.length ≤ 1048576) : ∀ (d i : Nat), i + d = l.length → Ev (fun k => laws_eqDirentS.l0 k l l (i : Int)) true := by
  intro d
  induction d with
  | zero =>
    intro i hi
    exact Ev.step (laws_eqDirentS.l0.eq_2 _ _ _) (ev_neg (by omega) (ev_now rfl))
  | succ d ih =>
    intro i hi
    have hlt : i < l.length := by omega
    have hx : rd_T143 l (i : Int) = l[i] := by unfold rd_T143; rw [Int.toNat_natCast, List.getD_eq_getElem?_getD, List.getElem?_eq_getElem hlt]; rfl
    have e3 : wrap64 ((i : Int) + 1) = ((i + 1 : Nat) : Int) := w64 (by omega) (by omega)
    refine Ev.step (laws_eqDirentS.l0.eq_2 _ _ _) (ev_pos (by omega) (ev_pos (by omega) (ev_pos (by omega) ?_)))
    rw [hx, e3]
    exact Ev.bind (eqDirent_ev l[i]) (ev_pos rfl (ih (i + 1) (by omega)))
theorem eqDirentS_ev (l : List S143) (hlen : l.length ≤ 1048576) : Ev (fun k => laws_eqDirentS.f k l l) true := by
  unfold laws_eqDirentS.f
  exact ev_pos rfl (eqDirentS_loop l hlen l.length 0 (by omega))

/-! ## section inode1 -/
/-- one inode's size, copy, comparison (its names' lemmas stand ahead) -/
theorem szinode_ev (a0 a1 a2 a3 a4 : Int) (d : ByteArray) (ns : List S142) (a7 a8 : Int) (a : Int) (h0 : 0 ≤ a) (h1 : a ≤ 1048576) (hd : d.size ≤ maxLen) (hn : ns.length ≤ maxLen) (hok : ∀ x ∈ ns, okS142 x) :
    ∃ v, v ≤ a ∧ -1 ≤ v ∧ Ev (fun k => laws_szInode.f k a0 a1 a2 a3 a4 d ns a7 a8 a) v ∧ (0 ≤ v → ns.length ≤ 1048576) := by
  unfold laws_szInode.f
  have m : d.size ≤ 9223372036854775807 := hd
  have e : wrap64 (a - (d.size : Int)) = a - (d.size : Int) := w64 (by omega) (by omega)
  rw [e]
  by_cases hneg : a - (d.size : Int) < 0
  · exact ⟨-1, by omega, by omega, ev_pos hneg (ev_now rfl), fun h => absurd h (by omega)⟩
  · obtain ⟨v, g1, g2, g3, g4⟩ := szDirentS_ev ns (a - (d.size : Int)) (by omega) (by omega) hn hok
    by_cases hv : v < 0
    · exact ⟨-1, by omega, by omega, ev_neg hneg (Ev.bind g3 (ev_pos hv (ev_now rfl))), fun h => absurd h (by omega)⟩
    · exact ⟨v, by omega, by omega, ev_neg hneg (Ev.bind g3 (ev_neg hv (ev_now rfl))), g4⟩
theorem toinode_ev (a0 a1 a2 a3 a4 : Int) (d : ByteArray) (ns : List S142) (a7 a8 : Int) (hn : ns.length ≤ 1048576) : Ev (fun k => laws_toInode.f k a0 a1 a2 a3 a4 d ns a7 a8) (a0, a1, a2, a3, a4, d, ns.map cvDirent, a7, a8) := by
  unfold laws_toInode.f
  exact Ev.bind (toDirentS_ev ns hn) (ev_now rfl)
theorem eqinode_ev (a0 a1 a2 a3 a4 : Int) (d : ByteArray) (ns : List S143) (a7 a8 : Int) (hn : ns.length ≤ 1048576) : Ev (fun k => laws_eqInode.f k a0 a1 a2 a3 a4 d ns a7 a8 a0 a1 a2 a3 a4 d ns a7 a8) true := by
  unfold laws_eqInode.f
  exact ev_pos rfl (ev_pos rfl (ev_pos rfl (ev_pos rfl (ev_pos rfl (ev_pos rfl (Ev.bind (eqDirentS_ev ns hn) (ev_pos rfl (ev_pos rfl (ev_pos rfl (ev_now rfl))))))))))

/-! ## section FnExactMay -/
theorem FnExactMay : laws_FnExactMay.Pure := by
  intro u g l a0 kind mode nu ng d ns a7 a8 want _ _ hl _ _ _ _ _ hd hns _ _ _
  refine Ev.rounds (r := true) ?_
  unfold laws_FnExactMay.f
  obtain ⟨v, hv1, hv, hle⟩ := szcred_ev u g l hl.1
  refine ev_of hv ?_
  by_cases h : v < 0
  · exact ev_pos h (ev_now rfl)
  · refine ev_neg h ?_
    obtain ⟨x, hx1, hx2, hx3, hx4⟩ := szinode_ev a0 kind mode nu ng d ns a7 a8 v (by omega) hv1 hd hns.1 hns.2
    refine Ev.bind hx3 ?_
    by_cases hx : x < 0
    · exact ev_pos hx (ev_now rfl)
    · refine ev_neg hx ?_
      have h6 := hle (by omega)
      have h7 := hx4 (by omega)
      have ht := tocred_ev u g l h6
      have hi := toinode_ev a0 kind mode nu ng d ns a7 a8 h7
      exact Ev.bind ht (Ev.bind hi (Ev.bind (may_spec _ _ _ _ _ _ _ _ _ _ _ _ _) (Ev.bind ht (Ev.bind hi (Ev.bind (may_impl _ _ _ _ _ _ _ _ _ _ _ _ _) (ev_neg (by simp)
        (Ev.bind ht (Ev.bind (eqcred_ev _ _ _ h6) (ev_pos rfl (Ev.bind hi (Ev.bind (eqinode_ev _ _ _ _ _ _ _ _ _ (by rw [List.length_map]; exact h7)) (ev_pos rfl (ev_now rfl)))))))))))))

end Go.Proofs.Ytnoklcpoocaimaa.Pure
