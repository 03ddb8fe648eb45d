/- The program's ShowAudit returns what the reference's ShowAudit returns, for all arguments: the statement over numbers and lists, proved. Conditions: none beyond the bounds of the arguments' kinds. -/
import Derived.Test.YtnoklcpoocaimaaStmFnExactShowAudit
import Derived.Test.YtnoklcpoocaimaaMath
import Derived.Test.YtnoklcpoocaimaaStr
namespace Go.Proofs.Ytnoklcpoocaimaa.Pure
open Go.RowKit Go.Proofs.Ytnoklcpoocaimaa.PFnExactShowAudit Go.Proofs.YtnoklcpoocaimaaW.PrintWords Go.Proofs.YtnoklcpoocaimaaW.PrintLast Go.Proofs.YtnoklcpoocaimaaW.PrintMore Go.Proofs.Ytnoklcpoocaimaa.Mth Go.Proofs.Ytnoklcpoocaimaa.Str

set_option linter.unusedVariables false
set_option linter.unusedSimpArgs false
/-! ## section within -/
theorem within_eq (a b c : Int) : impl_within.f a b c = some (decide (b ≤ a ∧ a ≤ c)) := by
  unfold impl_within.f
  by_cases h : a ≥ b
  · rw [if_pos h]; have : b ≤ a := h; simp [this]
  · rw [if_neg h]; have : ¬ b ≤ a := h; simp [this]

/-! ## section l1In -/
theorem l1In_eq (a b c : Int) : spec_l1In.f a b c = some (decide (b ≤ a ∧ a ≤ c)) := by
  unfold spec_l1In.f
  by_cases h : a ≥ b
  · rw [if_pos h]; have : b ≤ a := h; simp [this]
  · rw [if_neg h]; have : ¬ b ≤ a := h; simp [this]

/-! ## section auditD -/
theorem ev_test {b : Bool} {g : Option Bool} {f : Nat → Option Bool} {r : Bool} (hg : g = some b) (hf : b = true → Ev f r) : Ev (fun k => g.bind fun t => if t = true then f k else some false) (b && r) := by
  refine ev_of hg ?_
  cases b with
  | false => exact ev_neg (by simp) (ev_now rfl)
  | true => exact ev_pos rfl (by simpa using hf rfl)
def rngB (a b c : Int) : Bool := decide (b ≤ a ∧ a ≤ c)
/-- the entry at a place, and what stands behind it -/
def noteAt (l : List S94) (i : Int) (R : Bool) : Bool :=
  rngB (rd_T94 l i).f0 1 100000 && (if i > 0 ∧ (rd_T94 l (i - 1)).f0 > (rd_T94 l i).f0 then false else
    (rngB (rd_T94 l i).f1 1 3 && (rngB (rd_T94 l i).f2 1 1000000 && (rngB (rd_T94 l i).f3 1 22 && (rngB (rd_T94 l i).f4 0 200 && R)))))
def noteFrom (l : List S94) (e : Bool) : Nat → Nat → Bool
  | 0, _ => e
  | d + 1, i => noteAt l (i : Int) (noteFrom l e d (i + 1))
theorem noteFrom_false (l : List S94) : ∀ d i, noteFrom l false d i = false
  | 0, _ => rfl
  | d + 1, i => by rw [noteFrom, noteFrom_false l d (i + 1)]; unfold noteAt; simp
def auditB (l : List S94) : Bool := if l.length ≤ 20 then noteFrom l true l.length 0 else false

/-! ## section auditS -/
theorem audit_spec_loop (l : List S94) (hl : l.length ≤ 1048576) : ∀ (d i : Nat), i + d = l.length → Ev (fun k => spec_AuditOk.l0 k l (i : Int)) (noteFrom l true d i) := by
  intro d
  induction d with
  | zero =>
    intro i hi
    exact Ev.step (fun _ => spec_AuditOk.l0.eq_2 _ _ _) (ev_neg (by omega) (ev_now rfl))
  | succ d ih =>
    intro i hi
    have e3 : wrap64 ((i : Int) + 1) = ((i + 1 : Nat) : Int) := w64 (by omega) (by omega)
    have e4 : wrap64 ((i : Int) - 1) = (i : Int) - 1 := w64 (by omega) (by omega)
    have IH := ih (i + 1) (by omega)
    rw [noteFrom]
    unfold noteAt
    refine Ev.step (fun _ => spec_AuditOk.l0.eq_2 _ _ _) (ev_pos (by omega) (ev_pos (by omega) (ev_test (l1In_eq _ _ _) (fun _ => ?_))))
    rw [e3, e4]
    have rest := ev_test (l1In_eq (rd_T94 l (i : Int)).f1 1 3) (fun _ => ev_test (l1In_eq (rd_T94 l (i : Int)).f2 1 1000000) (fun _ => ev_test (l1In_eq (rd_T94 l (i : Int)).f3 1 22) (fun _ => ev_test (l1In_eq (rd_T94 l (i : Int)).f4 0 200) (fun _ => IH))))
    by_cases h0 : (i : Int) > 0
    · refine ev_pos h0 (ev_pos (by omega) (ev_pos (by omega) ?_))
      by_cases h1 : (rd_T94 l ((i : Int) - 1)).f0 > (rd_T94 l (i : Int)).f0
      · rw [if_pos ⟨h0, h1⟩]
        exact ev_pos h1 (ev_now rfl)
      · rw [if_neg (fun h => h1 h.2)]
        exact ev_neg h1 rest
    · rw [if_neg (fun h => h0 h.1)]
      exact ev_neg h0 rest
theorem audit_spec (l : List S94) (hl : l.length ≤ 1048576) : Ev (fun k => spec_AuditOk.f k l) (auditB l) := by
  unfold spec_AuditOk.f auditB
  by_cases h : l.length ≤ 20
  · rw [if_pos h]
    exact ev_neg (by omega) (audit_spec_loop l hl l.length 0 (by omega))
  · rw [if_neg h]
    exact ev_pos (by omega) (ev_now rfl)

/-! ## section auditI -/
theorem audit_impl_loop (l : List S94) (hl : l.length ≤ 1048576) : ∀ (d i : Nat), i + d = l.length → Ev (fun k => impl_AuditOk.l0 k l l (l.length : Int) (i : Int)) (noteFrom l (decide ((l.length : Int) ≤ 20)) d i) := by
  intro d
  induction d with
  | zero =>
    intro i hi
    exact Ev.step (fun _ => impl_AuditOk.l0.eq_2 _ _ _ _ _) (ev_neg (by omega) (ev_now rfl))
  | succ d ih =>
    intro i hi
    have e3 : wrap64 ((i : Int) + 1) = ((i + 1 : Nat) : Int) := w64 (by omega) (by omega)
    have e4 : wrap64 ((i : Int) - 1) = (i : Int) - 1 := w64 (by omega) (by omega)
    have IH := ih (i + 1) (by omega)
    rw [noteFrom]
    unfold noteAt
    refine Ev.step (fun _ => impl_AuditOk.l0.eq_2 _ _ _ _ _) (ev_pos (by omega) (ev_pos (by omega) (ev_pos (by omega) (ev_test (within_eq _ _ _) (fun _ => ?_)))))
    rw [e3, e4]
    have rest := ev_test (within_eq (rd_T94 l (i : Int)).f1 1 3) (fun _ => ev_test (within_eq (rd_T94 l (i : Int)).f2 1 1000000) (fun _ => ev_test (within_eq (rd_T94 l (i : Int)).f3 1 22) (fun _ => ev_test (within_eq (rd_T94 l (i : Int)).f4 0 200) (fun _ => IH))))
    by_cases h0 : (i : Int) > 0
    · refine ev_pos h0 (ev_pos (by omega) (ev_pos (by omega) ?_))
      by_cases h1 : (rd_T94 l ((i : Int) - 1)).f0 > (rd_T94 l (i : Int)).f0
      · rw [if_pos ⟨h0, h1⟩]
        exact ev_pos h1 (ev_now rfl)
      · rw [if_neg (fun h => h1 h.2)]
        exact ev_neg h1 rest
    · rw [if_neg (fun h => h0 h.1)]
      exact ev_neg h0 rest
theorem audit_impl (l : List S94) (hl : l.length ≤ 1048576) : Ev (fun k => impl_AuditOk.f k l) (auditB l) := by
  unfold impl_AuditOk.f auditB
  have h0 := audit_impl_loop l hl l.length 0 (by omega)
  by_cases h : l.length ≤ 20
  · rw [if_pos h]
    rw [decide_eq_true (by omega)] at h0
    exact h0
  · rw [if_neg h]
    rw [decide_eq_false (by omega), noteFrom_false] at h0
    exact h0

/-! ## section decS -/
/-- the sign ahead -/
def sgnL (b : Bool) : List Int := if b = true then [45] else []
theorem dec_spec_loop : ∀ (d : Nat) (x : Int) (acc : List Int) (neg : Bool), x.natAbs < 10 ^ d → -9223372036854775808 ≤ x → x ≤ 9223372036854775807 → acc.length + d ≤ 1000 →
    Ev (fun k => spec_Dec.l0 k x (strOfNums acc) neg) (strOfNums (sgnL neg ++ (digs0 x.natAbs ++ acc))) := by
  have hz : ∀ (acc : List Int) (neg : Bool), acc.length ≤ 1000 → Ev (fun k => spec_Dec.l0 k 0 (strOfNums acc) neg) (strOfNums (sgnL neg ++ (digs0 (0 : Int).natAbs ++ acc))) := by
    intro acc neg ha
    refine Ev.step (spec_Dec.l0.eq_2 _ _ _) (ev_pos rfl ?_)
    have e : digs0 (0 : Int).natAbs = [] := rfl
    rw [e, List.nil_append]
    unfold sgnL
    by_cases h : neg = true
    · refine ev_pos h (ev_pos ?_ (ev_now ?_))
      · rw [strOfNums_size]; omega
      · rw [if_pos h, strOfNums_append]; rfl
    · refine ev_neg h (ev_now ?_)
      rw [if_neg h]; rfl
  intro d
  induction d with
  | zero =>
    intro x acc neg hx _ _ ha
    have : x = 0 := by simp at hx; exact hx
    subst this
    exact hz acc neg (by omega)
  | succ d ih =>
    intro x acc neg hx h0 h1 ha
    by_cases hx0 : x = 0
    · subst hx0; exact hz acc neg (by omega)
    · have hn := dec_next x h0 h1
      have hs : digs0 x.natAbs = digs0 (x.natAbs / 10) ++ [((48 + x.natAbs % 10 : Nat) : Int)] := by
        rw [digs0, if_neg (by omega), digs_step (by omega)]
      have hpow : (wrap64 (x.tdiv 10)).natAbs < 10 ^ d := by rw [hn.1]; rw [Nat.pow_succ] at hx; omega
      have hrec := ih (wrap64 (x.tdiv 10)) ([((48 + x.natAbs % 10 : Nat) : Int)] ++ acc) neg hpow hn.2.1 hn.2.2 (by simp; omega)
      rw [hn.1] at hrec
      rw [hs, List.append_assoc]
      refine Ev.step (spec_Dec.l0.eq_2 _ _ _) (ev_neg hx0 ?_)
      by_cases hm : x.tmod 10 < 0
      · refine ev_pos hm (ev_some (ev_pos ?_ ?_))
        · rw [strOfNums_size, strOfNums_size]; simp; omega
        · rw [dec_neg x h0 h1 hm, ← strOfNums_append]; exact hrec
      · refine ev_neg hm (ev_some (ev_pos ?_ ?_))
        · rw [strOfNums_size, strOfNums_size]; simp; omega
        · rw [dec_pos x h0 h1 hm, ← strOfNums_append]; exact hrec
theorem dec_spec (x : Int) (h0 : -9223372036854775808 ≤ x) (h1 : x ≤ 9223372036854775807) : Ev (fun k => spec_Dec.f k x) (strOfNums (decL x)) := by
  unfold spec_Dec.f
  by_cases hx : x = 0
  · subst hx
    refine ev_pos rfl (ev_now ?_)
    have : decL 0 = [48] := by unfold decL; rw [if_neg (by omega)]; exact digs_lt (by decide)
    rw [this]; rfl
  · refine ev_neg hx ?_
    have := dec_spec_loop 20 x [] (decide (x < 0)) (by omega) h0 h1 (by simp)
    rw [List.append_nil] at this
    have e : sgnL (decide (x < 0)) ++ digs0 x.natAbs = decL x := by
      have hd : digs0 x.natAbs = digs x.natAbs := by unfold digs0; exact if_neg (by omega)
      rw [hd]
      unfold sgnL decL
      by_cases h : x < 0
      · rw [if_pos (decide_eq_true h), if_pos h]; rfl
      · rw [if_neg (by simpa using h), if_neg h]; rfl
    rw [e] at this
    exact this

/-! ## section decI -/
theorem dec_impl_end (x : Int) (acc : List Int) (ha : acc.length ≤ 1000) : ∀ (r : ByteArray), r = strOfNums ((if x < 0 then [45] else []) ++ acc) →
    Ev (fun _ : Nat => if x < 0 then (if 1 + (strOfNums acc).size ≤ 9223372036854775807 then (some ((⟨#[45]⟩ : ByteArray) ++ (strOfNums acc))) else (none)) else (some (strOfNums acc))) r := by
  rintro r rfl
  by_cases h : x < 0
  · refine ev_pos h (ev_pos ?_ (ev_now ?_))
    · rw [strOfNums_size]; omega
    · rw [if_pos h, strOfNums_append]; rfl
  · refine ev_neg h (ev_now ?_)
    rw [if_neg h]; rfl
theorem dec_impl_loop (x : Int) : ∀ (d : Nat) (low : Int) (acc : List Int), low.natAbs < 10 ^ (d + 1) → -9223372036854775808 ≤ low → low ≤ 9223372036854775807 → acc.length + d ≤ 900 →
    Ev (fun k => impl_Dec.l0 k x (strOfNums acc) low) (strOfNums ((if x < 0 then [45] else []) ++ (digs low.natAbs ++ acc))) := by
  have hend : ∀ (low : Int) (acc : List Int), low.natAbs < 10 → acc.length ≤ 900 →
      Ev (fun k => impl_Dec.l0 k x (strOfNums acc) low) (strOfNums ((if x < 0 then [45] else []) ++ (digs low.natAbs ++ acc))) := by
    intro low acc hl ha
    have e : digs low.natAbs = [((48 + low.natAbs % 10 : Nat) : Int)] := by rw [digs_lt hl, Nat.mod_eq_of_lt hl]
    rw [e]
    refine Ev.step (impl_Dec.l0.eq_2 _ _ _) ?_
    by_cases hm : low.tmod 10 < 0
    · refine ev_pos hm (ev_some (ev_pos ?_ (ev_of (within_eq _ _ _) (ev_pos (by simp; omega) ?_))))
      · rw [strOfNums_size, strOfNums_size]; simp; omega
      · rw [dec_neg low (by omega) (by omega) hm, ← strOfNums_append]
        exact dec_impl_end x _ (by simp; omega) _ rfl
    · refine ev_neg hm (ev_some (ev_pos ?_ (ev_of (within_eq _ _ _) (ev_pos (by simp; omega) ?_))))
      · rw [strOfNums_size, strOfNums_size]; simp; omega
      · rw [dec_pos low (by omega) (by omega) hm, ← strOfNums_append]
        exact dec_impl_end x _ (by simp; omega) _ rfl
  intro d
  induction d with
  | zero =>
    intro low acc hl _ _ ha
    exact hend low acc (by simpa using hl) (by omega)
  | succ d ih =>
    intro low acc hl h0 h1 ha
    by_cases hlt : low.natAbs < 10
    · exact hend low acc hlt (by omega)
    · have hn := dec_next low h0 h1
      have hpow : (wrap64 (low.tdiv 10)).natAbs < 10 ^ (d + 1) := by rw [hn.1]; rw [Nat.pow_succ] at hl; omega
      have hrec := ih (wrap64 (low.tdiv 10)) ([((48 + low.natAbs % 10 : Nat) : Int)] ++ acc) hpow hn.2.1 hn.2.2 (by simp; omega)
      rw [hn.1] at hrec
      rw [digs_ge (by omega), List.append_assoc]
      refine Ev.step (impl_Dec.l0.eq_2 _ _ _) ?_
      by_cases hm : low.tmod 10 < 0
      · refine ev_pos hm (ev_some (ev_pos ?_ (ev_of (within_eq _ _ _) (ev_neg (by simp; omega) ?_))))
        · rw [strOfNums_size, strOfNums_size]; simp; omega
        · rw [dec_neg low h0 h1 hm, ← strOfNums_append]; exact hrec
      · refine ev_neg hm (ev_some (ev_pos ?_ (ev_of (within_eq _ _ _) (ev_neg (by simp; omega) ?_))))
        · rw [strOfNums_size, strOfNums_size]; simp; omega
        · rw [dec_pos low h0 h1 hm, ← strOfNums_append]; exact hrec
theorem dec_impl (x : Int) (h0 : -9223372036854775808 ≤ x) (h1 : x ≤ 9223372036854775807) : Ev (fun k => impl_Dec.f k x) (strOfNums (decL x)) := by
  unfold impl_Dec.f
  have := dec_impl_loop x 19 x [] (by omega) h0 h1 (by simp)
  rw [List.append_nil] at this
  have e : (if x < 0 then [45] else []) ++ digs x.natAbs = decL x := by
    unfold decL
    by_cases h : x < 0
    · rw [if_pos h, if_pos h]; rfl
    · rw [if_neg h, if_neg h]; rfl
  rw [e] at this
  exact this

/-! ## section showauditS -/
/-! a note as a text -/
def dS (x : Int) : ByteArray := strOfNums (decL x)
theorem dS_size (x : Int) (h : -9223372036854775808 ≤ x ∧ x ≤ 9223372036854775807) : (dS x).size ≤ 30 := by
  unfold dS
  rw [strOfNums_size]
  have := digs_len 20 x.natAbs (by omega)
  unfold decL
  split
  · rw [List.length_cons]; omega
  · omega
def i64R (x : Int) : Prop := -9223372036854775808 ≤ x ∧ x ≤ 9223372036854775807
def noteR (x : S94) : Prop := i64R x.f0 ∧ i64R x.f1 ∧ i64R x.f2 ∧ i64R x.f3 ∧ i64R x.f4
theorem dot1 : (⟨#[46]⟩ : ByteArray).size = 1 := rfl
def addNote (s : ByteArray) (x : S94) : ByteArray := (((((((((s ++ dS x.f0) ++ (⟨#[46]⟩ : ByteArray)) ++ dS x.f1) ++ (⟨#[46]⟩ : ByteArray)) ++ dS x.f2) ++ (⟨#[46]⟩ : ByteArray)) ++ dS x.f3) ++ (⟨#[46]⟩ : ByteArray)) ++ dS x.f4)
theorem addNote_size (s : ByteArray) (x : S94) (h : noteR x) : (addNote s x).size ≤ s.size + 200 := by
  obtain ⟨h0, h1, h2, h3, h4⟩ := h
  have := dS_size _ h0
  have := dS_size _ h1
  have := dS_size _ h2
  have := dS_size _ h3
  have := dS_size _ h4
  unfold addNote
  simp only [ByteArray.size_append, dot1]
  omega
def gapS (a : Int) (i : Nat) (s : ByteArray) : ByteArray := if (i : Int) > a then s ++ (⟨#[32]⟩ : ByteArray) else s
theorem gapS_size (a : Int) (i : Nat) (s : ByteArray) : (gapS a i s).size ≤ s.size + 1 := by
  unfold gapS
  split
  · rw [ByteArray.size_append]; exact Nat.le_refl _
  · omega
def notesFrom (l : List S94) (a lim : Int) : Nat → Nat → ByteArray → ByteArray
  | 0, _, s => s
  | d + 1, i, s => if (i : Int) < lim then notesFrom l a lim d (i + 1) (addNote (gapS a i s) (rd_T94 l (i : Int))) else s
def showAuditS (l : List S94) (a : Int) : ByteArray := if auditB l = true ∧ 0 ≤ a ∧ a < (l.length : Int) then notesFrom l a (wrap64 (a + 6)) (l.length - a.toNat) a.toNat (⟨#[]⟩ : ByteArray) else (⟨#[]⟩ : ByteArray)
theorem space1 : (⟨#[32]⟩ : ByteArray).size = 1 := rfl
theorem sa_spec_note (l : List S94) (a : Int) (s : ByteArray) (i : Nat) (hi : i < l.length) (hl : l.length ≤ 1048576) (hs : s.size ≤ 2000000000) (hr : noteR (rd_T94 l (i : Int))) {R : ByteArray}
    (next : Ev (fun k => spec_ShowAudit.l0 k l a (addNote s (rd_T94 l (i : Int))) ((i + 1 : Nat) : Int)) R) : Ev (fun k => spec_ShowAudit.j3 k l a s (i : Int)) R := by
  obtain ⟨h0, h1, h2, h3, h4⟩ := hr
  have z0 := dS_size _ h0
  have z1 := dS_size _ h1
  have z2 := dS_size _ h2
  have z3 := dS_size _ h3
  have z4 := dS_size _ h4
  have e3 : wrap64 ((i : Int) + 1) = ((i + 1 : Nat) : Int) := w64 (by omega) (by omega)
  refine Ev.step (fun _ => spec_ShowAudit.j3.eq_2 _ _ _ _ _) (ev_pos (by omega) (ev_pos (by omega) ?_))
  rw [e3]
  unfold addNote dS at next
  unfold dS at z0 z1 z2 z3 z4
  refine Ev.bind (dec_spec _ h0.1 h0.2) (ev_pos (by omega) (ev_pos (by simp only [ByteArray.size_append, dot1]; omega) ?_))
  refine Ev.bind (dec_spec _ h1.1 h1.2) (ev_pos (by simp only [ByteArray.size_append, dot1]; omega) (ev_pos (by simp only [ByteArray.size_append, dot1]; omega) ?_))
  refine Ev.bind (dec_spec _ h2.1 h2.2) (ev_pos (by simp only [ByteArray.size_append, dot1]; omega) (ev_pos (by simp only [ByteArray.size_append, dot1]; omega) ?_))
  refine Ev.bind (dec_spec _ h3.1 h3.2) (ev_pos (by simp only [ByteArray.size_append, dot1]; omega) (ev_pos (by simp only [ByteArray.size_append, dot1]; omega) ?_))
  exact Ev.bind (dec_spec _ h4.1 h4.2) (ev_pos (by simp only [ByteArray.size_append, dot1]; omega) next)
theorem sa_spec_loop (l : List S94) (hl : l.length ≤ 1048576) (hr : ∀ i : Nat, i < l.length → noteR (rd_T94 l (i : Int))) (a : Int) : ∀ (d i : Nat) (s : ByteArray), i + d = l.length → s.size ≤ i * 300 →
    Ev (fun k => spec_ShowAudit.l0 k l a s (i : Int)) (notesFrom l a (wrap64 (a + 6)) d i s) := by
  intro d
  induction d with
  | zero =>
    intro i s hi hs
    exact Ev.step (fun _ => spec_ShowAudit.l0.eq_2 _ _ _ _ _) (ev_neg (by omega) (Ev.step (fun _ => spec_ShowAudit.j2.eq_2 _ _ _ _ _ _) (ev_neg (by simp) (ev_now rfl))))
  | succ d ih =>
    intro i s hi hs
    rw [notesFrom]
    refine Ev.step (fun _ => spec_ShowAudit.l0.eq_2 _ _ _ _ _) (ev_pos (by omega) ?_)
    by_cases hm : (i : Int) < wrap64 (a + 6)
    · rw [if_pos hm, decide_eq_true hm]
      refine Ev.step (fun _ => spec_ShowAudit.j2.eq_2 _ _ _ _ _ _) (ev_pos rfl ?_)
      have hz := gapS_size a i s
      have hq := addNote_size (gapS a i s) _ (hr i (by omega))
      have nx := sa_spec_note l a (gapS a i s) i (by omega) hl (by omega) (hr i (by omega)) (ih (i + 1) _ (by omega) (by omega))
      by_cases hg : (i : Int) > a
      · unfold gapS at nx ⊢
        rw [if_pos hg] at nx ⊢
        exact ev_pos hg (ev_pos (by omega) nx)
      · unfold gapS at nx ⊢
        rw [if_neg hg] at nx ⊢
        exact ev_neg hg nx
    · rw [if_neg hm, decide_eq_false hm]
      exact Ev.step (fun _ => spec_ShowAudit.j2.eq_2 _ _ _ _ _ _) (ev_neg (by simp) (ev_now rfl))
theorem showaudit_spec (l : List S94) (hl : l.length ≤ 1048576) (hr : ∀ i : Nat, i < l.length → noteR (rd_T94 l (i : Int))) (a : Int) : Ev (fun k => spec_ShowAudit.f k l a) (showAuditS l a) := by
  unfold spec_ShowAudit.f showAuditS
  refine Ev.bind (audit_spec l hl) ?_
  by_cases hb : auditB l = true
  · refine ev_pos hb ?_
    by_cases ha : a < 0
    · rw [decide_eq_true ha, if_neg (by omega)]
      exact Ev.step (fun _ => spec_ShowAudit.j0.eq_2 _ _ _ _) (ev_pos rfl (ev_now rfl))
    · rw [decide_eq_false ha]
      refine Ev.step (fun _ => spec_ShowAudit.j0.eq_2 _ _ _ _) (ev_neg (by simp) ?_)
      by_cases hn : a < (l.length : Int)
      · rw [if_pos ⟨hb, by omega, hn⟩]
        have e : a = ((a.toNat : Nat) : Int) := by omega
        have := sa_spec_loop l hl hr a (l.length - a.toNat) a.toNat (⟨#[]⟩ : ByteArray) (by omega) (Nat.zero_le _)
        rw [← e] at this
        exact this
      · rw [if_neg (by omega)]
        exact Ev.step (fun _ => spec_ShowAudit.l0.eq_2 _ _ _ _ _) (ev_neg hn (Ev.step (fun _ => spec_ShowAudit.j2.eq_2 _ _ _ _ _ _) (ev_neg (by simp) (ev_now rfl))))
  · rw [if_neg (fun h => hb h.1)]
    exact ev_neg hb (Ev.step (fun _ => spec_ShowAudit.j0.eq_2 _ _ _ _) (ev_pos rfl (ev_now rfl)))

/-! ## section showauditI -/
theorem sa_l1_0 (l : List S94) (a : Int) (s : ByteArray) (i : Int) (Y : List Int) (hY : Y.length = 5) (hs : s.size ≤ 2100000000) (h : i64R (rd Y 0)) {R : ByteArray}
    (next : Ev (fun k => impl_ShowAudit.l1 k l a (s ++ dS (rd Y 0)) i Y 5 1) R) : Ev (fun k => impl_ShowAudit.l1 k l a s i Y 5 0) R := by
  have z := dS_size _ h
  have e : wrap64 ((0 : Int) + 1) = 1 := w64 (by omega) (by omega)
  unfold dS at z next
  refine Ev.step (fun _ => impl_ShowAudit.l1.eq_2 _ _ _ _ _ _ _ _) (ev_pos (by decide) (ev_pos (by decide) (ev_pos (by omega) (ev_neg (by decide) (Ev.bind (dec_impl _ h.1 h.2) (ev_pos (by omega) ?_))))))
  rw [e]
  exact next
theorem sa_l1_s (l : List S94) (a : Int) (s : ByteArray) (i : Int) (Y : List Int) (hY : Y.length = 5) (hs : s.size ≤ 2100000000) (j : Nat) (hj : 1 ≤ j) (hj5 : j < 5) (h : i64R (rd Y (j : Int))) {R : ByteArray}
    (next : Ev (fun k => impl_ShowAudit.l1 k l a ((s ++ (⟨#[46]⟩ : ByteArray)) ++ dS (rd Y (j : Int))) i Y 5 ((j + 1 : Nat) : Int)) R) : Ev (fun k => impl_ShowAudit.l1 k l a s i Y 5 (j : Int)) R := by
  have z := dS_size _ h
  have e : wrap64 ((j : Int) + 1) = ((j + 1 : Nat) : Int) := w64 (by omega) (by omega)
  unfold dS at z next
  refine Ev.step (fun _ => impl_ShowAudit.l1.eq_2 _ _ _ _ _ _ _ _) (ev_pos (by omega) (ev_pos (by omega) (ev_pos (by omega) (ev_pos (by omega) (ev_pos (by omega) (Ev.bind (dec_impl _ h.1 h.2) (ev_pos (by simp only [ByteArray.size_append, dot1]; omega) ?_)))))))
  rw [e]
  exact next
theorem sa_l1_5 (l : List S94) (a : Int) (s : ByteArray) (i : Int) (Y : List Int) {R : ByteArray}
    (next : Ev (fun k => impl_ShowAudit.l0 k l a s (wrap64 (i + 1))) R) : Ev (fun k => impl_ShowAudit.l1 k l a s i Y 5 5) R :=
  Ev.step (fun _ => impl_ShowAudit.l1.eq_2 _ _ _ _ _ _ _ _) (ev_neg (by decide) next)
theorem sa_impl_note (l : List S94) (a : Int) (s : ByteArray) (i : Nat) (hi : i < l.length) (hl : l.length ≤ 1048576) (hs : s.size ≤ 2000000000) (hr : noteR (rd_T94 l (i : Int))) {R : ByteArray}
    (next : Ev (fun k => impl_ShowAudit.l0 k l a (addNote s (rd_T94 l (i : Int))) ((i + 1 : Nat) : Int)) R) : Ev (fun k => impl_ShowAudit.j3 k l a s (i : Int)) R := by
  obtain ⟨h0, h1, h2, h3, h4⟩ := hr
  have z0 := dS_size _ h0
  have z1 := dS_size _ h1
  have z2 := dS_size _ h2
  have z3 := dS_size _ h3
  have e3 : wrap64 ((i : Int) + 1) = ((i + 1 : Nat) : Int) := w64 (by omega) (by omega)
  refine Ev.step (fun _ => impl_ShowAudit.j3.eq_2 _ _ _ _ _) (ev_pos (by omega) (ev_pos (by omega) (ev_some ?_)))
  generalize hy : [(rd_T94 l (i : Int)).f0, (rd_T94 l (i : Int)).f1, (rd_T94 l (i : Int)).f2, (rd_T94 l (i : Int)).f3, (rd_T94 l (i : Int)).f4] = Y
  have hY : Y.length = 5 := by rw [← hy]; rfl
  have y0 : rd Y 0 = (rd_T94 l (i : Int)).f0 := by rw [← hy]; rfl
  have y1 : rd Y ((1 : Nat) : Int) = (rd_T94 l (i : Int)).f1 := by rw [← hy]; rfl
  have y2 : rd Y ((2 : Nat) : Int) = (rd_T94 l (i : Int)).f2 := by rw [← hy]; rfl
  have y3 : rd Y ((3 : Nat) : Int) = (rd_T94 l (i : Int)).f3 := by rw [← hy]; rfl
  have y4 : rd Y ((4 : Nat) : Int) = (rd_T94 l (i : Int)).f4 := by rw [← hy]; rfl
  have e5 : (Y.length : Int) = 5 := by rw [hY]; rfl
  rw [e5]
  refine sa_l1_0 l a s (i : Int) Y hY (by omega) (by rw [y0]; exact h0) ?_
  refine sa_l1_s l a _ (i : Int) Y hY (by rw [y0]; simp only [ByteArray.size_append]; omega) 1 (by omega) (by omega) (by rw [y1]; exact h1) ?_
  refine sa_l1_s l a _ (i : Int) Y hY (by rw [y0, y1]; simp only [ByteArray.size_append, dot1]; omega) 2 (by omega) (by omega) (by rw [y2]; exact h2) ?_
  refine sa_l1_s l a _ (i : Int) Y hY (by rw [y0, y1, y2]; simp only [ByteArray.size_append, dot1]; omega) 3 (by omega) (by omega) (by rw [y3]; exact h3) ?_
  refine sa_l1_s l a _ (i : Int) Y hY (by rw [y0, y1, y2, y3]; simp only [ByteArray.size_append, dot1]; omega) 4 (by omega) (by omega) (by rw [y4]; exact h4) ?_
  refine sa_l1_5 l a _ (i : Int) Y ?_
  rw [e3, y0, y1, y2, y3, y4]
  exact next
theorem sa_impl_loop (l : List S94) (hl : l.length ≤ 1048576) (hr : ∀ i : Nat, i < l.length → noteR (rd_T94 l (i : Int))) (a : Int) : ∀ (d i : Nat) (s : ByteArray), i + d = l.length → s.size ≤ i * 300 →
    Ev (fun k => impl_ShowAudit.l0 k l a s (i : Int)) (notesFrom l a (wrap64 (a + 6)) d i s) := by
  intro d
  induction d with
  | zero =>
    intro i s hi hs
    exact Ev.step (fun _ => impl_ShowAudit.l0.eq_2 _ _ _ _ _) (ev_neg (by omega) (Ev.step (fun _ => impl_ShowAudit.j2.eq_2 _ _ _ _ _ _) (ev_neg (by simp) (ev_now rfl))))
  | succ d ih =>
    intro i s hi hs
    rw [notesFrom]
    refine Ev.step (fun _ => impl_ShowAudit.l0.eq_2 _ _ _ _ _) (ev_pos (by omega) ?_)
    by_cases hm : (i : Int) < wrap64 (a + 6)
    · rw [if_pos hm, decide_eq_true hm]
      refine Ev.step (fun _ => impl_ShowAudit.j2.eq_2 _ _ _ _ _ _) (ev_pos rfl ?_)
      have hz := gapS_size a i s
      have hq := addNote_size (gapS a i s) _ (hr i (by omega))
      have nx := sa_impl_note l a (gapS a i s) i (by omega) hl (by omega) (hr i (by omega)) (ih (i + 1) _ (by omega) (by omega))
      by_cases hg : (i : Int) > a
      · unfold gapS at nx ⊢
        rw [if_pos hg] at nx ⊢
        exact ev_pos hg (ev_pos (by omega) nx)
      · unfold gapS at nx ⊢
        rw [if_neg hg] at nx ⊢
        exact ev_neg hg nx
    · rw [if_neg hm, decide_eq_false hm]
      exact Ev.step (fun _ => impl_ShowAudit.j2.eq_2 _ _ _ _ _ _) (ev_neg (by simp) (ev_now rfl))
theorem showaudit_impl (l : List S94) (hl : l.length ≤ 1048576) (hr : ∀ i : Nat, i < l.length → noteR (rd_T94 l (i : Int))) (a : Int) : Ev (fun k => impl_ShowAudit.f k l a) (showAuditS l a) := by
  unfold impl_ShowAudit.f showAuditS
  refine Ev.bind (audit_impl l hl) ?_
  by_cases hb : auditB l = true
  · refine ev_pos hb ?_
    by_cases ha : a < 0
    · rw [decide_eq_true ha, if_neg (by omega)]
      exact Ev.step (fun _ => impl_ShowAudit.j0.eq_2 _ _ _ _) (ev_pos rfl (ev_now rfl))
    · rw [decide_eq_false ha]
      refine Ev.step (fun _ => impl_ShowAudit.j0.eq_2 _ _ _ _) (ev_neg (by simp) ?_)
      by_cases hn : a < (l.length : Int)
      · rw [if_pos ⟨hb, by omega, hn⟩]
        have e : a = ((a.toNat : Nat) : Int) := by omega
        have := sa_impl_loop l hl hr a (l.length - a.toNat) a.toNat (⟨#[]⟩ : ByteArray) (by omega) (Nat.zero_le _)
        rw [← e] at this
        exact this
      · rw [if_neg (by omega)]
        exact Ev.step (fun _ => impl_ShowAudit.l0.eq_2 _ _ _ _ _) (ev_neg hn (Ev.step (fun _ => impl_ShowAudit.j2.eq_2 _ _ _ _ _ _) (ev_neg (by simp) (ev_now rfl))))
  · rw [if_neg (fun h => hb h.1)]
    exact ev_neg hb (Ev.step (fun _ => impl_ShowAudit.j0.eq_2 _ _ _ _) (ev_pos rfl (ev_now rfl)))

/-! ## section list:Note/97/94/i,i,i,i,i/sztoeq/plain -/
theorem szNoteS_ev (l : List S97) (a : Int) (h0 : 0 ≤ a) (h1 : a ≤ 1048576) (hm : l.length ≤ maxLen) : ∃ v, v ≤ a ∧ -1 ≤ v ∧ laws_szNoteS.f l a = some v ∧ (0 ≤ v → l.length ≤ 1048576) := by
  unfold laws_szNoteS.f
  have m : l.length ≤ 9223372036854775807 := hm
  have e : wrap64 (a - (l.length : Int)) = a - (l.length : Int) := w64 (by omega) (by omega)
  rw [e]
  by_cases hn : a - (l.length : Int) < 0
  · exact ⟨-1, by omega, by omega, if_pos hn, fun h => absurd h (by omega)⟩
  · exact ⟨a - (l.length : Int), by omega, by omega, if_neg hn, fun h => by omega⟩
def cvNote (x : S97) : S94 := ⟨x.f0, x.f1, x.f2, x.f3, x.f4⟩
theorem toNote_ev (x : S97) : Ev (fun k => laws_toNote.f x.f0 x.f1 x.f2 x.f3 x.f4) (x.f0, x.f1, x.f2, x.f3, x.f4) := by
  unfold laws_toNote.f
  exact ev_now rfl
theorem toNoteS_loop (l : List S97) (hlen : l.length ≤ 1048576) : ∀ (d i : Nat), i + d = l.length → Ev (fun k => laws_toNoteS.l0 k l ((l.take i).map cvNote ++ List.replicate d z94) (i : Int)) (l.map cvNote) := by
  intro d
  induction d with
  | zero =>
    intro i hi
    rw [List.take_of_length_le (by omega), List.replicate_zero, List.append_nil]
    exact Ev.step (laws_toNoteS.l0.eq_2 _ _ _) (ev_neg (by omega) (ev_now rfl))
  | succ d ih =>
    intro i hi
    have hlt : i < l.length := by omega
    have hx : rd_T97 l (i : Int) = l[i] := by unfold rd_T97; rw [Int.toNat_natCast, List.getD_eq_getElem?_getD, List.getElem?_eq_getElem hlt]; rfl
    have e3 : wrap64 ((i : Int) + 1) = ((i + 1 : Nat) : Int) := w64 (by omega) (by omega)
    refine Ev.step (laws_toNoteS.l0.eq_2 _ _ _) (ev_pos (by omega) (ev_pos (by omega) ?_))
    rw [hx, e3]
    refine Ev.bind (toNote_ev l[i]) (ev_pos ?_ ?_)
    · rw [List.length_append, List.length_map, List.length_take, List.length_replicate]; omega
    · have hs : ((l.take i).map cvNote ++ List.replicate (d + 1) z94).set (i : Int).toNat (cvNote l[i]) = (l.take (i + 1)).map cvNote ++ List.replicate d z94 := by
        have hl : ((l.take i).map cvNote).length = i := by rw [List.length_map, List.length_take]; omega
        rw [Int.toNat_natCast, List.set_append_right _ _ (by omega), hl, Nat.sub_self, List.replicate_succ, List.set_cons_zero, List.take_succ_eq_append_getElem hlt, List.map_append, List.append_assoc]; rfl
      have hr := ih (i + 1) (by omega)
      rw [← hs] at hr
      exact hr
theorem toNoteS_ev (l : List S97) (hlen : l.length ≤ 1048576) : Ev (fun k => laws_toNoteS.f k l) (l.map cvNote) := by
  unfold laws_toNoteS.f
  refine ev_pos (by omega) (ev_pos (by omega) ?_)
  exact toNoteS_loop l hlen l.length 0 (by omega)
theorem eqNote_ev (x : S94) : Ev (fun k => laws_eqNote.f x.f0 x.f1 x.f2 x.f3 x.f4 x.f0 x.f1 x.f2 x.f3 x.f4) true := by
  unfold laws_eqNote.f
  exact ev_pos rfl (ev_pos rfl (ev_pos rfl (ev_pos rfl (ev_pos rfl (ev_now rfl)))))
theorem eqNoteS_loop (l : List S94) (hlen : l.length ≤ 1048576) : ∀ (d i : Nat), i + d = l.length → Ev (fun k => laws_eqNoteS.l0 k l l (i : Int)) true := by
  intro d
  induction d with
  | zero =>
    intro i hi
    exact Ev.step (laws_eqNoteS.l0.eq_2 _ _ _) (ev_neg (by omega) (ev_now rfl))
  | succ d ih =>
    intro i hi
    have hlt : i < l.length := by omega
    have hx : rd_T94 l (i : Int) = l[i] := by unfold rd_T94; rw [Int.toNat_natCast, List.getD_eq_getElem?_getD, List.getElem?_eq_getElem hlt]; rfl
    have e3 : wrap64 ((i : Int) + 1) = ((i + 1 : Nat) : Int) := w64 (by omega) (by omega)
    refine Ev.step (laws_eqNoteS.l0.eq_2 _ _ _) (ev_pos (by omega) (ev_pos (by omega) (ev_pos (by omega) ?_)))
    rw [hx, e3]
    exact Ev.bind (eqNote_ev l[i]) (ev_pos rfl (ih (i + 1) (by omega)))
theorem eqNoteS_ev (l : List S94) (hlen : l.length ≤ 1048576) : Ev (fun k => laws_eqNoteS.f k l l) true := by
  unfold laws_eqNoteS.f
  exact ev_pos rfl (eqNoteS_loop l hlen l.length 0 (by omega))

/-! ## section FnExactShowAudit -/
theorem FnExactShowAudit : laws_FnExactShowAudit.Pure := by
  intro l a hl ha
  refine Ev.rounds (r := true) ?_
  unfold laws_FnExactShowAudit.f
  obtain ⟨v, h1, h2, h3, h4⟩ := szNoteS_ev l 1048576 (by omega) (by omega) hl.1
  refine ev_of h3 ?_
  by_cases h : v < 0
  · exact ev_pos h (ev_now rfl)
  · have h6 := h4 (by omega)
    have ht := toNoteS_ev l h6
    have hm : (l.map cvNote).length ≤ 1048576 := by rw [List.length_map]; exact h6
    have hr : ∀ i : Nat, i < (l.map cvNote).length → noteR (rd_T94 (l.map cvNote) (i : Int)) := by
      intro i hi
      have hi' : i < l.length := by rw [List.length_map] at hi; exact hi
      have e : rd_T94 (l.map cvNote) (i : Int) = cvNote l[i] := by
        unfold rd_T94
        rw [Int.toNat_natCast, List.getD_eq_getElem?_getD, List.getElem?_map, List.getElem?_eq_getElem hi']; rfl
      rw [e]
      obtain ⟨q0, q1, q2, q3, q4⟩ := hl.2 _ (List.getElem_mem hi')
      exact ⟨wf_i64 q0, wf_i64 q1, wf_i64 q2, wf_i64 q3, wf_i64 q4⟩
    exact ev_neg h (Ev.bind ht (Ev.bind (showaudit_spec _ hm hr a) (Ev.bind ht (Ev.bind (showaudit_impl _ hm hr a) (ev_pos rfl (Ev.bind ht (Ev.bind (eqNoteS_ev _ hm) (ev_pos rfl (ev_now rfl)))))))))

end Go.Proofs.Ytnoklcpoocaimaa.Pure
