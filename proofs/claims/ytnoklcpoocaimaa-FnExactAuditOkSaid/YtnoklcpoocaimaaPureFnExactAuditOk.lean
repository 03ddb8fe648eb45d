/- The program's AuditOk returns what the reference's AuditOk returns, for all arguments: the statement over numbers and lists, proved. Conditions: none beyond the bounds of the arguments' kinds. -/
import Derived.Test.YtnoklcpoocaimaaStmFnExactAuditOk
import Derived.Test.YtnoklcpoocaimaaMath
import Derived.Test.YtnoklcpoocaimaaStr
namespace Go.Proofs.Ytnoklcpoocaimaa.Pure
open Go.RowKit Go.Proofs.Ytnoklcpoocaimaa.PFnExactAuditOk Go.Proofs.YtnoklcpoocaimaaW.PrintWords Go.Proofs.YtnoklcpoocaimaaW.PrintLast Go.Proofs.YtnoklcpoocaimaaW.PrintMore Go.Proofs.Ytnoklcpoocaimaa.Mth Go.Proofs.Ytnoklcpoocaimaa.Str

set_option linter.unusedVariables false
set_option linter.unusedSimpArgs false
/-! ## section within -/
theorem within_eq (a b c : Int) : impl_within.f a b c = some (decide (b ≤ a ∧ a ≤ c)) := by
  unfold impl_within.f
  by_cases h : a ≥ b
  · rw [if_pos h]; have : b ≤ a := h; simp [this]
  · rw [if_neg h]; have : ¬ b ≤ a := h; simp [this]

/-! ## section l1In -/
theorem l1In_eq (a b c : Int) : spec_l1In.f a b c = some (decide (b ≤ a ∧ a ≤ c)) := by
  unfold spec_l1In.f
  by_cases h : a ≥ b
  · rw [if_pos h]; have : b ≤ a := h; simp [this]
  · rw [if_neg h]; have : ¬ b ≤ a := h; simp [this]

/-! ## section auditD -/
theorem ev_test {b : Bool} {g : Option Bool} {f : Nat → Option Bool} {r : Bool} (hg : g = some b) (hf : b = true → Ev f r) : Ev (fun k => g.bind fun t => if t = true then f k else some false) (b && r) := by
  refine ev_of hg ?_
  cases b with
  | false => exact ev_neg (by simp) (ev_now rfl)
  | true => exact ev_pos rfl (by simpa using hf rfl)
def rngB (a b c : Int) : Bool := decide (b ≤ a ∧ a ≤ c)
/-- the entry at a place, and what stands behind it -/
def noteAt (l : List S94) (i : Int) (R : Bool) : Bool :=
  rngB (rd_T94 l i).f0 1 100000 && (if i > 0 ∧ (rd_T94 l (i - 1)).f0 > (rd_T94 l i).f0 then false else
    (rngB (rd_T94 l i).f1 1 3 && (rngB (rd_T94 l i).f2 1 1000000 && (rngB (rd_T94 l i).f3 1 22 && (rngB (rd_T94 l i).f4 0 200 && R)))))
def noteFrom (l : List S94) (e : Bool) : Nat → Nat → Bool
  | 0, _ => e
  | d + 1, i => noteAt l (i : Int) (noteFrom l e d (i + 1))
theorem noteFrom_false (l : List S94) : ∀ d i, noteFrom l false d i = false
  | 0, _ => rfl
  | d + 1, i => by rw [noteFrom, noteFrom_false l d (i + 1)]; unfold noteAt; simp
def auditB (l : List S94) : Bool := if l.length ≤ 20 then noteFrom l true l.length 0 else false

/-! ## section auditS -/
theorem audit_spec_loop (l : List S94) (hl : l.length ≤ 1048576) : ∀ (d i : Nat), i + d = l.length → Ev (fun k => spec_AuditOk.l0 k l (i : Int)) (noteFrom l true d i) := by
  intro d
  induction d with
  | zero =>
    intro i hi
    exact Ev.step (fun _ => spec_AuditOk.l0.eq_2 _ _ _) (ev_neg (by omega) (ev_now rfl))
  | succ d ih =>
    intro i hi
    have e3 : wrap64 ((i : Int) + 1) = ((i + 1 : Nat) : Int) := w64 (by omega) (by omega)
    have e4 : wrap64 ((i : Int) - 1) = (i : Int) - 1 := w64 (by omega) (by omega)
    have IH := ih (i + 1) (by omega)
    rw [noteFrom]
    unfold noteAt
    refine Ev.step (fun _ => spec_AuditOk.l0.eq_2 _ _ _) (ev_pos (by omega) (ev_pos (by omega) (ev_test (l1In_eq _ _ _) (fun _ => ?_))))
    rw [e3, e4]
    have rest := ev_test (l1In_eq (rd_T94 l (i : Int)).f1 1 3) (fun _ => ev_test (l1In_eq (rd_T94 l (i : Int)).f2 1 1000000) (fun _ => ev_test (l1In_eq (rd_T94 l (i : Int)).f3 1 22) (fun _ => ev_test (l1In_eq (rd_T94 l (i : Int)).f4 0 200) (fun _ => IH))))
    by_cases h0 : (i : Int) > 0
    · refine ev_pos h0 (ev_pos (by omega) (ev_pos (by omega) ?_))
      by_cases h1 : (rd_T94 l ((i : Int) - 1)).f0 > (rd_T94 l (i : Int)).f0
      · rw [if_pos ⟨h0, h1⟩]
        exact ev_pos h1 (ev_now rfl)
      · rw [if_neg (fun h => h1 h.2)]
        exact ev_neg h1 rest
    · rw [if_neg (fun h => h0 h.1)]
      exact ev_neg h0 rest
theorem audit_spec (l : List S94) (hl : l.length ≤ 1048576) : Ev (fun k => spec_AuditOk.f k l) (auditB l) := by
  unfold spec_AuditOk.f auditB
  by_cases h : l.length ≤ 20
  · rw [if_pos h]
    exact ev_neg (by omega) (audit_spec_loop l hl l.length 0 (by omega))
  · rw [if_neg h]
    exact ev_pos (by omega) (ev_now rfl)

/-! ## section auditI -/
theorem audit_impl_loop (l : List S94) (hl : l.length ≤ 1048576) : ∀ (d i : Nat), i + d = l.length → Ev (fun k => impl_AuditOk.l0 k l l (l.length : Int) (i : Int)) (noteFrom l (decide ((l.length : Int) ≤ 20)) d i) := by
  intro d
  induction d with
  | zero =>
    intro i hi
    exact Ev.step (fun _ => impl_AuditOk.l0.eq_2 _ _ _ _ _) (ev_neg (by omega) (ev_now rfl))
  | succ d ih =>
    intro i hi
    have e3 : wrap64 ((i : Int) + 1) = ((i + 1 : Nat) : Int) := w64 (by omega) (by omega)
    have e4 : wrap64 ((i : Int) - 1) = (i : Int) - 1 := w64 (by omega) (by omega)
    have IH := ih (i + 1) (by omega)
    rw [noteFrom]
    unfold noteAt
    refine Ev.step (fun _ => impl_AuditOk.l0.eq_2 _ _ _ _ _) (ev_pos (by omega) (ev_pos (by omega) (ev_pos (by omega) (ev_test (within_eq _ _ _) (fun _ => ?_)))))
    rw [e3, e4]
    have rest := ev_test (within_eq (rd_T94 l (i : Int)).f1 1 3) (fun _ => ev_test (within_eq (rd_T94 l (i : Int)).f2 1 1000000) (fun _ => ev_test (within_eq (rd_T94 l (i : Int)).f3 1 22) (fun _ => ev_test (within_eq (rd_T94 l (i : Int)).f4 0 200) (fun _ => IH))))
    by_cases h0 : (i : Int) > 0
    · refine ev_pos h0 (ev_pos (by omega) (ev_pos (by omega) ?_))
      by_cases h1 : (rd_T94 l ((i : Int) - 1)).f0 > (rd_T94 l (i : Int)).f0
      · rw [if_pos ⟨h0, h1⟩]
        exact ev_pos h1 (ev_now rfl)
      · rw [if_neg (fun h => h1 h.2)]
        exact ev_neg h1 rest
    · rw [if_neg (fun h => h0 h.1)]
      exact ev_neg h0 rest
theorem audit_impl (l : List S94) (hl : l.length ≤ 1048576) : Ev (fun k => impl_AuditOk.f k l) (auditB l) := by
  unfold impl_AuditOk.f auditB
  have h0 := audit_impl_loop l hl l.length 0 (by omega)
  by_cases h : l.length ≤ 20
  · rw [if_pos h]
    rw [decide_eq_true (by omega)] at h0
    exact h0
  · rw [if_neg h]
    rw [decide_eq_false (by omega), noteFrom_false] at h0
    exact h0

/-! ## section list:Note/97/94/i,i,i,i,i/sztoeq/plain -/
theorem szNoteS_ev (l : List S97) (a : Int) (h0 : 0 ≤ a) (h1 : a ≤ 1048576) (hm : l.length ≤ maxLen) : ∃ v, v ≤ a ∧ -1 ≤ v ∧ laws_szNoteS.f l a = some v ∧ (0 ≤ v → l.length ≤ 1048576) := by
  unfold laws_szNoteS.f
  have m : l.length ≤ 9223372036854775807 := hm
  have e : wrap64 (a - (l.length : Int)) = a - (l.length : Int) := w64 (by omega) (by omega)
  rw [e]
  by_cases hn : a - (l.length : Int) < 0
  · exact ⟨-1, by omega, by omega, if_pos hn, fun h => absurd h (by omega)⟩
  · exact ⟨a - (l.length : Int), by omega, by omega, if_neg hn, fun h => by omega⟩
def cvNote (x : S97) : S94 := ⟨x.f0, x.f1, x.f2, x.f3, x.f4⟩
theorem toNote_ev (x : S97) : Ev (fun k => laws_toNote.f x.f0 x.f1 x.f2 x.f3 x.f4) (x.f0, x.f1, x.f2, x.f3, x.f4) := by
  unfold laws_toNote.f
  exact ev_now rfl
theorem toNoteS_loop (l : List S97) (hlen : l.length ≤ 1048576) : ∀ (d i : Nat), i + d = l.length → Ev (fun k => laws_toNoteS.l0 k l ((l.take i).map cvNote ++ List.replicate d z94) (i : Int)) (l.map cvNote) := by
  intro d
  induction d with
  | zero =>
    intro i hi
    rw [List.take_of_length_le (by omega), List.replicate_zero, List.append_nil]
    exact Ev.step (laws_toNoteS.l0.eq_2 _ _ _) (ev_neg (by omega) (ev_now rfl))
  | succ d ih =>
    intro i hi
    have hlt : i < l.length := by omega
    have hx : rd_T97 l (i : Int) = l[i] := by unfold rd_T97; rw [Int.toNat_natCast, List.getD_eq_getElem?_getD, List.getElem?_eq_getElem hlt]; rfl
    have e3 : wrap64 ((i : Int) + 1) = ((i + 1 : Nat) : Int) := w64 (by omega) (by omega)
    refine Ev.step (laws_toNoteS.l0.eq_2 _ _ _) (ev_pos (by omega) (ev_pos (by omega) ?_))
    rw [hx, e3]
    refine Ev.bind (toNote_ev l[i]) (ev_pos ?_ ?_)
    · rw [List.length_append, List.length_map, List.length_take, List.length_replicate]; omega
    · have hs : ((l.take i).map cvNote ++ List.replicate (d + 1) z94).set (i : Int).toNat (cvNote l[i]) = (l.take (i + 1)).map cvNote ++ List.replicate d z94 := by
        have hl : ((l.take i).map cvNote).length = i := by rw [List.length_map, List.length_take]; omega
        rw [Int.toNat_natCast, List.set_append_right _ _ (by omega), hl, Nat.sub_self, List.replicate_succ, List.set_cons_zero, List.take_succ_eq_append_getElem hlt, List.map_append, List.append_assoc]; rfl
      have hr := ih (i + 1) (by omega)
      rw [← hs] at hr
      exact hr
theorem toNoteS_ev (l : List S97) (hlen : l.length ≤ 1048576) : Ev (fun k => laws_toNoteS.f k l) (l.map cvNote) := by
  unfold laws_toNoteS.f
  refine ev_pos (by omega) (ev_pos (by omega) ?_)
  exact toNoteS_loop l hlen l.length 0 (by omega)
theorem eqNote_ev (x : S94) : Ev (fun k => laws_eqNote.f x.f0 x.f1 x.f2 x.f3 x.f4 x.f0 x.f1 x.f2 x.f3 x.f4) true := by
  unfold laws_eqNote.f
  exact ev_pos rfl (ev_pos rfl (ev_pos rfl (ev_pos rfl (ev_pos rfl (ev_now rfl)))))
theorem eqNoteS_loop (l : List S94) (hlen : l.length ≤ 1048576) : ∀ (d i : Nat), i + d = l.length → Ev (fun k => laws_eqNoteS.l0 k l l (i : Int)) true := by
  intro d
  induction d with
  | zero =>
    intro i hi
    exact Ev.step (laws_eqNoteS.l0.eq_2 _ _ _) (ev_neg (by omega) (ev_now rfl))
  | succ d ih =>
    intro i hi
    have hlt : i < l.length := by omega
    have hx : rd_T94 l (i : Int) = l[i] := by unfold rd_T94; rw [Int.toNat_natCast, List.getD_eq_getElem?_getD, List.getElem?_eq_getElem hlt]; rfl
    have e3 : wrap64 ((i : Int) + 1) = ((i + 1 : Nat) : Int) := w64 (by omega) (by omega)
    refine Ev.step (laws_eqNoteS.l0.eq_2 _ _ _) (ev_pos (by omega) (ev_pos (by omega) (ev_pos (by omega) ?_)))
    rw [hx, e3]
    exact Ev.bind (eqNote_ev l[i]) (ev_pos rfl (ih (i + 1) (by omega)))
theorem eqNoteS_ev (l : List S94) (hlen : l.length ≤ 1048576) : Ev (fun k => laws_eqNoteS.f k l l) true := by
  unfold laws_eqNoteS.f
  exact ev_pos rfl (eqNoteS_loop l hlen l.length 0 (by omega))

/-! ## section FnExactAuditOk -/
theorem FnExactAuditOk : laws_FnExactAuditOk.Pure := by
  intro l hl
  refine Ev.rounds (r := true) ?_
  unfold laws_FnExactAuditOk.f
  obtain ⟨v, h1, h2, h3, h4⟩ := szNoteS_ev l 1048576 (by omega) (by omega) hl.1
  refine ev_of h3 ?_
  by_cases h : v < 0
  · exact ev_pos h (ev_now rfl)
  · have h6 := h4 (by omega)
    have ht := toNoteS_ev l h6
    have hm : (l.map cvNote).length ≤ 1048576 := by rw [List.length_map]; exact h6
    exact ev_neg h (Ev.bind ht (Ev.bind (audit_spec _ hm) (Ev.bind ht (Ev.bind (audit_impl _ hm) (ev_neg (by simp) (Ev.bind ht (Ev.bind (eqNoteS_ev _ hm) (ev_pos rfl (ev_now rfl)))))))))

end Go.Proofs.Ytnoklcpoocaimaa.Pure
