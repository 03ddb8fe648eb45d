/- The program's Dec returns what the reference's Dec returns, for all arguments: the statement over numbers and lists, proved. Conditions: none beyond the bounds of the arguments' kinds. -/
import Derived.Test.YtfcohdnkocoleaaHFnExactDecx1
import Derived.Test.YtfcohdnkocoleaaMath
import Derived.Test.YtfcohdnkocoleaaStr
namespace Go.Proofs.Ytfcohdnkocoleaa.Pure
open Go.RowKit Go.Proofs.Ytfcohdnkocoleaa.PFnExactDec Go.Proofs.YtfcohdnkocoleaaW.PrintWords Go.Proofs.YtfcohdnkocoleaaW.PrintLast Go.Proofs.YtfcohdnkocoleaaW.PrintMore Go.Proofs.Ytfcohdnkocoleaa.Mth Go.Proofs.Ytfcohdnkocoleaa.Str

set_option linter.unusedVariables false
set_option linter.unusedSimpArgs false
/-! ## section within -/
theorem within_eq (a b c : Int) : impl_within.f a b c = some (decide (b ≤ a ∧ a ≤ c)) := by
  unfold impl_within.f
  by_cases h : a ≥ b
  · rw [if_pos h]; have : b ≤ a := h; simp [this]
  · rw [if_neg h]; have : ¬ b ≤ a := h; simp [this]

/-! ## section decS -/
/-- the sign ahead -/
def sgnL (b : Bool) : List Int := if b = true then [45] else []
theorem dec_spec_loop : ∀ (d : Nat) (x : Int) (acc : List Int) (neg : Bool), x.natAbs < 10 ^ d → -9223372036854775808 ≤ x → x ≤ 9223372036854775807 → acc.length + d ≤ 1000 →
    Ev (fun k => spec_Dec.l0 k x (strOfNums acc) neg) (strOfNums (sgnL neg ++ (digs0 x.natAbs ++ acc))) := by
  have hz : ∀ (acc : List Int) (neg : Bool), acc.length ≤ 1000 → Ev (fun k => spec_Dec.l0 k 0 (strOfNums acc) neg) (strOfNums (sgnL neg ++ (digs0 (0 : Int).natAbs ++ acc))) := by
    intro acc neg ha
    refine Ev.step (spec_Dec.l0.eq_2 _ _ _) (ev_pos rfl ?_)
    have e : digs0 (0 : Int).natAbs = [] := rfl
    rw [e, List.nil_append]
    unfold sgnL
    by_cases h : neg = true
    · refine ev_pos h (ev_pos ?_ (ev_now ?_))
      · rw [strOfNums_size]; omega
      · rw [if_pos h, strOfNums_append]; rfl
    · refine ev_neg h (ev_now ?_)
      rw [if_neg h]; rfl
  intro d
  induction d with
  | zero =>
    intro x acc neg hx _ _ ha
    have : x = 0 := by simp at hx; exact hx
    subst this
    exact hz acc neg (by omega)
  | succ d ih =>
    intro x acc neg hx h0 h1 ha
    by_cases hx0 : x = 0
    · subst hx0; exact hz acc neg (by omega)
    · have hn := dec_next x h0 h1
      have hs : digs0 x.natAbs = digs0 (x.natAbs / 10) ++ [((48 + x.natAbs % 10 : Nat) : Int)] := by
        rw [digs0, if_neg (by omega), digs_step (by omega)]
      have hpow : (wrap64 (x.tdiv 10)).natAbs < 10 ^ d := by rw [hn.1]; rw [Nat.pow_succ] at hx; omega
      have hrec := ih (wrap64 (x.tdiv 10)) ([((48 + x.natAbs % 10 : Nat) : Int)] ++ acc) neg hpow hn.2.1 hn.2.2 (by simp; omega)
      rw [hn.1] at hrec
      rw [hs, List.append_assoc]
      refine Ev.step (spec_Dec.l0.eq_2 _ _ _) (ev_neg hx0 ?_)
      by_cases hm : x.tmod 10 < 0
      · refine ev_pos hm (ev_some (ev_pos ?_ ?_))
        · rw [strOfNums_size, strOfNums_size]; simp; omega
        · rw [dec_neg x h0 h1 hm, ← strOfNums_append]; exact hrec
      · refine ev_neg hm (ev_some (ev_pos ?_ ?_))
        · rw [strOfNums_size, strOfNums_size]; simp; omega
        · rw [dec_pos x h0 h1 hm, ← strOfNums_append]; exact hrec
theorem dec_spec (x : Int) (h0 : -9223372036854775808 ≤ x) (h1 : x ≤ 9223372036854775807) : Ev (fun k => spec_Dec.f k x) (strOfNums (decL x)) := by
  unfold spec_Dec.f
  by_cases hx : x = 0
  · subst hx
    refine ev_pos rfl (ev_now ?_)
    have : decL 0 = [48] := by unfold decL; rw [if_neg (by omega)]; exact digs_lt (by decide)
    rw [this]; rfl
  · refine ev_neg hx ?_
    have := dec_spec_loop 20 x [] (decide (x < 0)) (by omega) h0 h1 (by simp)
    rw [List.append_nil] at this
    have e : sgnL (decide (x < 0)) ++ digs0 x.natAbs = decL x := by
      have hd : digs0 x.natAbs = digs x.natAbs := by unfold digs0; exact if_neg (by omega)
      rw [hd]
      unfold sgnL decL
      by_cases h : x < 0
      · rw [if_pos (decide_eq_true h), if_pos h]; rfl
      · rw [if_neg (by simpa using h), if_neg h]; rfl
    rw [e] at this
    exact this

/-! ## section decI -/
theorem dec_impl_end (x : Int) (acc : List Int) (ha : acc.length ≤ 1000) : ∀ (r : ByteArray), r = strOfNums ((if x < 0 then [45] else []) ++ acc) →
    Ev (fun _ : Nat => if x < 0 then (if 1 + (strOfNums acc).size ≤ 9223372036854775807 then (some ((⟨#[45]⟩ : ByteArray) ++ (strOfNums acc))) else (none)) else (some (strOfNums acc))) r := by
  rintro r rfl
  by_cases h : x < 0
  · refine ev_pos h (ev_pos ?_ (ev_now ?_))
    · rw [strOfNums_size]; omega
    · rw [if_pos h, strOfNums_append]; rfl
  · refine ev_neg h (ev_now ?_)
    rw [if_neg h]; rfl
theorem dec_impl_loop (x : Int) : ∀ (d : Nat) (low : Int) (acc : List Int), low.natAbs < 10 ^ (d + 1) → -9223372036854775808 ≤ low → low ≤ 9223372036854775807 → acc.length + d ≤ 900 →
    Ev (fun k => impl_Dec.l0 k x (strOfNums acc) low) (strOfNums ((if x < 0 then [45] else []) ++ (digs low.natAbs ++ acc))) := by
  have hend : ∀ (low : Int) (acc : List Int), low.natAbs < 10 → acc.length ≤ 900 →
      Ev (fun k => impl_Dec.l0 k x (strOfNums acc) low) (strOfNums ((if x < 0 then [45] else []) ++ (digs low.natAbs ++ acc))) := by
    intro low acc hl ha
    have e : digs low.natAbs = [((48 + low.natAbs % 10 : Nat) : Int)] := by rw [digs_lt hl, Nat.mod_eq_of_lt hl]
    rw [e]
    refine Ev.step (impl_Dec.l0.eq_2 _ _ _) ?_
    by_cases hm : low.tmod 10 < 0
    · refine ev_pos hm (ev_some (ev_pos ?_ (ev_of (within_eq _ _ _) (ev_pos (by simp; omega) ?_))))
      · rw [strOfNums_size, strOfNums_size]; simp; omega
      · rw [dec_neg low (by omega) (by omega) hm, ← strOfNums_append]
        exact dec_impl_end x _ (by simp; omega) _ rfl
    · refine ev_neg hm (ev_some (ev_pos ?_ (ev_of (within_eq _ _ _) (ev_pos (by simp; omega) ?_))))
      · rw [strOfNums_size, strOfNums_size]; simp; omega
      · rw [dec_pos low (by omega) (by omega) hm, ← strOfNums_append]
        exact dec_impl_end x _ (by simp; omega) _ rfl
  intro d
  induction d with
  | zero =>
    intro low acc hl _ _ ha
    exact hend low acc (by simpa using hl) (by omega)
  | succ d ih =>
    intro low acc hl h0 h1 ha
    by_cases hlt : low.natAbs < 10
    · exact hend low acc hlt (by omega)
    · have hn := dec_next low h0 h1
      have hpow : (wrap64 (low.tdiv 10)).natAbs < 10 ^ (d + 1) := by rw [hn.1]; rw [Nat.pow_succ] at hl; omega
      have hrec := ih (wrap64 (low.tdiv 10)) ([((48 + low.natAbs % 10 : Nat) : Int)] ++ acc) hpow hn.2.1 hn.2.2 (by simp; omega)
      rw [hn.1] at hrec
      rw [digs_ge (by omega), List.append_assoc]
      refine Ev.step (impl_Dec.l0.eq_2 _ _ _) ?_
      by_cases hm : low.tmod 10 < 0
      · refine ev_pos hm (ev_some (ev_pos ?_ (ev_of (within_eq _ _ _) (ev_neg (by simp; omega) ?_))))
        · rw [strOfNums_size, strOfNums_size]; simp; omega
        · rw [dec_neg low h0 h1 hm, ← strOfNums_append]; exact hrec
      · refine ev_neg hm (ev_some (ev_pos ?_ (ev_of (within_eq _ _ _) (ev_neg (by simp; omega) ?_))))
        · rw [strOfNums_size, strOfNums_size]; simp; omega
        · rw [dec_pos low h0 h1 hm, ← strOfNums_append]; exact hrec
theorem dec_impl (x : Int) (h0 : -9223372036854775808 ≤ x) (h1 : x ≤ 9223372036854775807) : Ev (fun k => impl_Dec.f k x) (strOfNums (decL x)) := by
  unfold impl_Dec.f
  have := dec_impl_loop x 19 x [] (by omega) h0 h1 (by simp)
  rw [List.append_nil] at this
  have e : (if x < 0 then [45] else []) ++ digs x.natAbs = decL x := by
    unfold decL
    by_cases h : x < 0
    · rw [if_pos h, if_pos h]; rfl
    · rw [if_neg h, if_neg h]; rfl
  rw [e] at this
  exact this

/-! ## section FnExactDec -/
theorem FnExactDec : laws_FnExactDec.Pure := by
  intro a ha
  have hw := wf_i64 ha
  unfold laws_FnExactDec.f
  refine Ev.rounds (r := true) ?_
  exact Ev.bind (dec_spec a hw.1 hw.2) (Ev.bind (dec_impl a hw.1 hw.2) (ev_pos rfl (ev_now rfl)))

end Go.Proofs.Ytfcohdnkocoleaa.Pure
