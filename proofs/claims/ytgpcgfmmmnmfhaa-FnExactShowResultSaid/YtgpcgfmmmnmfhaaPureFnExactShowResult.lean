/- The program's ShowResult returns what the reference's ShowResult returns, for all arguments: the statement over numbers and lists, proved. Conditions: none beyond the bounds of the arguments' kinds. -/
import Derived.Test.YtgpcgfmmmnmfhaaStmFnExactShowResult
import Derived.Test.YtgpcgfmmmnmfhaaMath
import Derived.Test.YtgpcgfmmmnmfhaaStr
namespace Go.Proofs.Ytgpcgfmmmnmfhaa.Pure
open Go.RowKit Go.Proofs.Ytgpcgfmmmnmfhaa.PFnExactShowResult Go.Proofs.YtgpcgfmmmnmfhaaW.PrintWords Go.Proofs.YtgpcgfmmmnmfhaaW.PrintLast Go.Proofs.YtgpcgfmmmnmfhaaW.PrintMore Go.Proofs.Ytgpcgfmmmnmfhaa.Mth Go.Proofs.Ytgpcgfmmmnmfhaa.Str

set_option linter.unusedVariables false
set_option linter.unusedSimpArgs false
/-! ## section within -/
theorem within_eq (a b c : Int) : impl_within.f a b c = some (decide (b ≤ a ∧ a ≤ c)) := by
  unfold impl_within.f
  by_cases h : a ≥ b
  · rw [if_pos h]; have : b ≤ a := h; simp [this]
  · rw [if_neg h]; have : ¬ b ≤ a := h; simp [this]

/-! ## section l1In -/
theorem l1In_eq (a b c : Int) : spec_l1In.f a b c = some (decide (b ≤ a ∧ a ≤ c)) := by
  unfold spec_l1In.f
  by_cases h : a ≥ b
  · rw [if_pos h]; have : b ≤ a := h; simp [this]
  · rw [if_neg h]; have : ¬ b ≤ a := h; simp [this]

/-! ## section varS -/
theorem var_spec_loop : ∀ (d n : Nat) (acc : List Int), n < 128 ^ (d + 1) → n < 562949953421312 → acc.length + d < 140737488355328 → Ev (fun k => spec_Var.l0 k (n : Int) acc) (strOfNums (acc ++ varL n)) := by
  intro d
  induction d with
  | zero =>
    intro n acc hn hb ha
    have h1 : n < 128 := by simpa using hn
    refine Ev.step (spec_Var.l0.eq_2 _ _) (ev_neg (by omega) (ev_pos (by omega) (ev_now ?_)))
    rw [varL_lt h1, Int.emod_eq_of_lt (by omega) (by omega)]
  | succ d ih =>
    intro n acc hn hb ha
    by_cases h1 : n < 128
    · refine Ev.step (spec_Var.l0.eq_2 _ _) (ev_neg (by omega) (ev_pos (by omega) (ev_now ?_)))
      rw [varL_lt h1, Int.emod_eq_of_lt (by omega) (by omega)]
    · refine Ev.step (spec_Var.l0.eq_2 _ _) (ev_pos (by omega) (ev_pos (by omega) ?_))
      have hd : wrap64 ((n : Int).tdiv 128) = ((n / 128 : Nat) : Int) := by
        rw [Int.tdiv_eq_ediv_of_nonneg (by omega)]
        unfold wrap64; omega
      have hm : wrap64 (128 + (n : Int).tmod 128) % 256 = ((128 + n % 128 : Nat) : Int) := by
        rw [Int.tmod_eq_emod_of_nonneg (by omega)]
        unfold wrap64; omega
      rw [hd, hm]
      have := ih (n / 128) (acc ++ [((128 + n % 128 : Nat) : Int)]) (by rw [Nat.pow_succ] at hn; omega) (by omega) (by simp; omega)
      rw [varL_ge (by omega)]
      simpa using this
theorem var_spec (n : Nat) (hn : n < 562949953421312) : Ev (fun k => spec_Var.f k (n : Int)) (strOfNums (varL n)) := by
  unfold spec_Var.f
  refine ev_of (l1In_eq _ _ _) (ev_pos (by simp; omega) ?_)
  have := var_spec_loop 6 n [] (by simpa using hn) hn (by simp)
  simpa using this
theorem var_spec_out (n : Int) (hn : n < 0 ∨ 562949953421311 < n) : Ev (fun k => spec_Var.f k n) (⟨#[]⟩ : ByteArray) := by
  unfold spec_Var.f
  exact ev_of (l1In_eq _ _ _) (ev_neg (by simp; omega) (ev_now rfl))

/-! ## section varI -/
theorem var_impl_loop : ∀ (d n : Nat) (acc : List Int), n < 128 ^ (d + 1) → n < 562949953421312 → acc.length + d < 140737488355328 → Ev (fun k => impl_Var.l0 k (n : Int) acc) (strOfNums (acc ++ varL n)) := by
  intro d
  induction d with
  | zero =>
    intro n acc hn hb ha
    have h1 : n < 128 := by simpa using hn
    refine Ev.step (impl_Var.l0.eq_2 _ _) (ev_neg (by omega) (ev_pos (by omega) (ev_now ?_)))
    rw [varL_lt h1, Int.emod_eq_of_lt (by omega) (by omega)]
  | succ d ih =>
    intro n acc hn hb ha
    by_cases h1 : n < 128
    · refine Ev.step (impl_Var.l0.eq_2 _ _) (ev_neg (by omega) (ev_pos (by omega) (ev_now ?_)))
      rw [varL_lt h1, Int.emod_eq_of_lt (by omega) (by omega)]
    · refine Ev.step (impl_Var.l0.eq_2 _ _) (ev_pos (by omega) (ev_pos (by omega) ?_))
      have hd : (n : Int) / 128 = ((n / 128 : Nat) : Int) := by omega
      have hm : (Go.bits .or .i64 (Go.bits .and .i64 (n : Int) 127) 128) % 256 = ((128 + n % 128 : Nat) : Int) := by
        rw [and127 _ (by omega) (by omega), or128 _ (by omega) (by omega)]
        omega
      rw [hd, hm]
      have := ih (n / 128) (acc ++ [((128 + n % 128 : Nat) : Int)]) (by rw [Nat.pow_succ] at hn; omega) (by omega) (by simp; omega)
      rw [varL_ge (by omega)]
      simpa using this
theorem var_impl (n : Nat) (hn : n < 562949953421312) : Ev (fun k => impl_Var.f k (n : Int)) (strOfNums (varL n)) := by
  unfold impl_Var.f
  refine ev_of (within_eq _ _ _) (ev_pos (by simp; omega) ?_)
  have := var_impl_loop 6 n [] (by simpa using hn) hn (by simp)
  simpa using this
theorem var_impl_out (n : Int) (hn : n < 0 ∨ 562949953421311 < n) : Ev (fun k => impl_Var.f k n) (⟨#[]⟩ : ByteArray) := by
  unfold impl_Var.f
  exact ev_of (within_eq _ _ _) (ev_neg (by simp; omega) (ev_now rfl))

/-! ## section resultok -/
/-- is a result right -/
def resOkB (c : Int) (d : ByteArray) : Bool := decide (0 ≤ c ∧ c ≤ 200 ∧ d.size ≤ 400)
theorem resok_spec (c : Int) (d : ByteArray) : spec_ResultOk.f c d = some (resOkB c d) := by
  unfold spec_ResultOk.f resOkB
  rw [l1In_eq, Option.bind_some]
  by_cases h : 0 ≤ c ∧ c ≤ 200
  · rw [if_pos (by simpa using h)]
    congr 1; apply Bool.eq_iff_iff.2; simp only [decide_eq_true_eq]; omega
  · rw [if_neg (by simpa using h)]
    congr 1; symm; apply decide_eq_false; rintro ⟨a, b, _⟩; exact h ⟨a, b⟩
theorem resok_impl (c : Int) (d : ByteArray) : impl_ResultOk.f c d = some (resOkB c d) := by
  unfold impl_ResultOk.f resOkB
  rw [within_eq, Option.bind_some]
  by_cases h : 0 ≤ c ∧ c ≤ 200
  · rw [if_pos (by simpa using h)]
    congr 1; apply Bool.eq_iff_iff.2; simp only [decide_eq_true_eq]; omega
  · rw [if_neg (by simpa using h)]
    congr 1; symm; apply decide_eq_false; rintro ⟨a, b, _⟩; exact h ⟨a, b⟩

/-! ## section showresS -/
/-- a result as a text -/
def showResN (c : Int) (d : ByteArray) : ByteArray := if resOkB c d = true then strOfNums (varL c.toNat) ++ d else ⟨#[]⟩
theorem showres_spec (c : Int) (d : ByteArray) : Ev (fun k => spec_ShowResult.f k c d) (showResN c d) := by
  unfold spec_ShowResult.f showResN
  refine ev_of (resok_spec c d) ?_
  by_cases h : resOkB c d = true
  · rw [if_pos h]
    have hh : 0 ≤ c ∧ c ≤ 200 ∧ d.size ≤ 400 := of_decide_eq_true h
    obtain ⟨n, rfl⟩ : ∃ n : Nat, c = n := ⟨c.toNat, by omega⟩
    refine ev_pos h (Ev.bind (var_spec n (by omega)) (ev_pos ?_ (ev_now rfl)))
    rw [strOfNums_size]
    have := varL_len 6 n (by omega)
    omega
  · rw [if_neg h]
    exact ev_neg h (ev_now rfl)

/-! ## section FnExactShowResult -/
theorem szres (c : Int) (d : ByteArray) : ∃ v, laws_szResult.f c d 1048576 = some v := by
  unfold laws_szResult.f
  repeat' split
  all_goals exact ⟨_, rfl⟩
theorem showres_impl (c : Int) (d : ByteArray) : Ev (fun k => impl_ShowResult.f k c d) (showResN c d) := by
  unfold impl_ShowResult.f showResN
  refine ev_of (resok_impl c d) ?_
  by_cases h : resOkB c d = true
  · rw [if_pos h]
    have hh : 0 ≤ c ∧ c ≤ 200 ∧ d.size ≤ 400 := of_decide_eq_true h
    obtain ⟨n, rfl⟩ : ∃ n : Nat, c = n := ⟨c.toNat, by omega⟩
    refine ev_pos h (Ev.bind (var_impl n (by omega)) (ev_pos ?_ (ev_now rfl)))
    rw [strOfNums_size]
    have := varL_len 6 n (by omega)
    omega
  · rw [if_neg h]
    exact ev_neg h (ev_now rfl)
theorem FnExactShowResult : laws_FnExactShowResult.Pure := by
  intro c d _ _
  refine Ev.rounds (r := true) ?_
  unfold laws_FnExactShowResult.f
  obtain ⟨v, hv⟩ := szres c d
  refine ev_of hv ?_
  by_cases h : v < 0
  · exact ev_pos h (ev_now rfl)
  · refine ev_neg h ?_
    unfold laws_toResult.f
    exact ev_some (Ev.bind (showres_spec _ _) (ev_some (Ev.bind (showres_impl _ _) (ev_pos rfl (ev_now rfl)))))

end Go.Proofs.Ytgpcgfmmmnmfhaa.Pure
