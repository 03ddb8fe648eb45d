/- The program's ReadResult returns what the reference's ReadResult returns, for all arguments: the statement over numbers and lists, proved. Conditions: none beyond the bounds of the arguments' kinds. -/
import Derived.Test.YtgpcgfmmmnmfhaaPFnExactReadResultx3
import Derived.Test.YtgpcgfmmmnmfhaaMath
import Derived.Test.YtgpcgfmmmnmfhaaStr
namespace Go.Proofs.Ytgpcgfmmmnmfhaa.Pure
open Go.RowKit Go.Proofs.Ytgpcgfmmmnmfhaa.PFnExactReadResult Go.Proofs.YtgpcgfmmmnmfhaaW.PrintWords Go.Proofs.YtgpcgfmmmnmfhaaW.PrintLast Go.Proofs.YtgpcgfmmmnmfhaaW.PrintMore Go.Proofs.Ytgpcgfmmmnmfhaa.Mth Go.Proofs.Ytgpcgfmmmnmfhaa.Str

set_option linter.unusedVariables false
set_option linter.unusedSimpArgs false
/-! ## section within -/
theorem within_eq (a b c : Int) : impl_within.f a b c = some (decide (b ≤ a ∧ a ≤ c)) := by
  unfold impl_within.f
  by_cases h : a ≥ b
  · rw [if_pos h]; have : b ≤ a := h; simp [this]
  · rw [if_neg h]; have : ¬ b ≤ a := h; simp [this]

/-! ## section l1In -/
theorem l1In_eq (a b c : Int) : spec_l1In.f a b c = some (decide (b ≤ a ∧ a ≤ c)) := by
  unfold spec_l1In.f
  by_cases h : a ≥ b
  · rw [if_pos h]; have : b ≤ a := h; simp [this]
  · rw [if_neg h]; have : ¬ b ≤ a := h; simp [this]

/-! ## section varS -/
theorem var_spec_loop : ∀ (d n : Nat) (acc : List Int), n < 128 ^ (d + 1) → n < 562949953421312 → acc.length + d < 140737488355328 → Ev (fun k => spec_Var.l0 k (n : Int) acc) (strOfNums (acc ++ varL n)) := by
  intro d
  induction d with
  | zero =>
    intro n acc hn hb ha
    have h1 : n < 128 := by simpa using hn
    refine Ev.step (spec_Var.l0.eq_2 _ _) (ev_neg (by omega) (ev_pos (by omega) (ev_now ?_)))
    rw [varL_lt h1, Int.emod_eq_of_lt (by omega) (by omega)]
  | succ d ih =>
    intro n acc hn hb ha
    by_cases h1 : n < 128
    · refine Ev.step (spec_Var.l0.eq_2 _ _) (ev_neg (by omega) (ev_pos (by omega) (ev_now ?_)))
      rw [varL_lt h1, Int.emod_eq_of_lt (by omega) (by omega)]
    · refine Ev.step (spec_Var.l0.eq_2 _ _) (ev_pos (by omega) (ev_pos (by omega) ?_))
      have hd : wrap64 ((n : Int).tdiv 128) = ((n / 128 : Nat) : Int) := by
        rw [Int.tdiv_eq_ediv_of_nonneg (by omega)]
        unfold wrap64; omega
      have hm : wrap64 (128 + (n : Int).tmod 128) % 256 = ((128 + n % 128 : Nat) : Int) := by
        rw [Int.tmod_eq_emod_of_nonneg (by omega)]
        unfold wrap64; omega
      rw [hd, hm]
      have := ih (n / 128) (acc ++ [((128 + n % 128 : Nat) : Int)]) (by rw [Nat.pow_succ] at hn; omega) (by omega) (by simp; omega)
      rw [varL_ge (by omega)]
      simpa using this
theorem var_spec (n : Nat) (hn : n < 562949953421312) : Ev (fun k => spec_Var.f k (n : Int)) (strOfNums (varL n)) := by
  unfold spec_Var.f
  refine ev_of (l1In_eq _ _ _) (ev_pos (by simp; omega) ?_)
  have := var_spec_loop 6 n [] (by simpa using hn) hn (by simp)
  simpa using this
theorem var_spec_out (n : Int) (hn : n < 0 ∨ 562949953421311 < n) : Ev (fun k => spec_Var.f k n) (⟨#[]⟩ : ByteArray) := by
  unfold spec_Var.f
  exact ev_of (l1In_eq _ _ _) (ev_neg (by simp; omega) (ev_now rfl))

/-! ## section readvar -/
theorem bt_getD (s : ByteArray) (i : Nat) : bt s (i : Int) = (bytesOf s).getD i 0 := bt_get s i
theorem wbt (s : ByteArray) (i : Int) : wrap64 (bt s i) = bt s i := by
  have := bt_range s i
  exact w64 (by omega) (by omega)
theorem low_drop (l : List Int) (i : Nat) (h : i < l.length) : low (l.drop i) = (l.getD i 0).toNat % 128 + 128 * low (l.drop (i + 1)) := by
  rw [List.drop_eq_getElem_cons h, low]
  rw [List.getD_eq_getElem?_getD, List.getElem?_eq_getElem h]; rfl
/-- the reference's inner loop: the number of the first bytes, from the last one down -/
theorem readvar_spec_inner (s : ByteArray) (x : Nat) (hx : x ≤ s.size) (hx7 : x ≤ 7) (r : Int × Int)
    (H : Ev (fun k => (spec_Var.f k ((low ((bytesOf s).take x) : Nat) : Int)).bind fun t111 => (if 0 ≤ (x : Int) then (if (x : Int) ≤ (s.size : Int) then (if t111.toList = (s.extract 0 (x : Int).toNat).toList then (some (((low ((bytesOf s).take x) : Nat) : Int), (x : Int))) else (spec_ReadVar.l0 k s (wrap64 ((x : Int) + 1)))) else (none)) else (none))) r) :
    ∀ (i : Nat), i ≤ x → Ev (fun k => spec_ReadVar.l1 k s (x : Int) ((low (((bytesOf s).take x).drop i) : Nat) : Int) ((i : Int) - 1)) r := by
  intro i
  induction i with
  | zero =>
    intro hi
    refine Ev.step (spec_ReadVar.l1.eq_2 _ _ _ _) (ev_neg (by omega) ?_)
    simpa using H
  | succ i ih =>
    intro hi
    have hlen : ((bytesOf s).take x).length = x := by rw [List.length_take, bytesOf_length]; omega
    have hb := low_bound (((bytesOf s).take x).drop (i + 1))
    have hb2 : low (((bytesOf s).take x).drop (i + 1)) < 128 ^ 7 := by
      refine Nat.lt_of_lt_of_le hb (Nat.pow_le_pow_right (by decide) ?_)
      rw [List.length_drop]; omega
    have hl := low_drop ((bytesOf s).take x) i (by omega)
    have e0 : (((i + 1 : Nat) : Int) - 1) = (i : Int) := by omega
    rw [e0]
    refine Ev.step (spec_ReadVar.l1.eq_2 _ _ _ _) (ev_pos (by omega) (ev_pos (by omega) (ev_pos (by omega) ?_)))
    have e1 : wrap64 (wrap64 (((low (((bytesOf s).take x).drop (i + 1)) : Nat) : Int) * 128) + (wrap64 (bt s (i : Int))).tmod 128) = ((low (((bytesOf s).take x).drop i) : Nat) : Int) := by
      have hr := bt_range s (i : Int)
      have hg : ((bytesOf s).take x).getD i 0 = bt s (i : Int) := by
        rw [bt_getD, List.getD_eq_getElem?_getD, List.getD_eq_getElem?_getD, List.getElem?_take_of_lt (by omega)]
      rw [wbt, hl, hg, Int.tmod_eq_emod_of_nonneg hr.1]
      have : (128 : Nat) ^ 7 = 562949953421312 := by decide
      have e5 : wrap64 (((low (((bytesOf s).take x).drop (i + 1)) : Nat) : Int) * 128) = ((low (((bytesOf s).take x).drop (i + 1)) : Nat) : Int) * 128 := w64 (by omega) (by omega)
      rw [e5, w64 (by omega) (by omega)]
      omega
    rw [e1]
    have e2 : wrap64 ((i : Int) - 1) = (i : Int) - 1 := w64 (by omega) (by omega)
    rw [e2]
    exact ih (by omega)
theorem readvar_spec_loop (s : ByteArray) (hs : s.size ≤ 140737488351232) : ∀ (d x : Nat), x + d = 8 → 1 ≤ x → (∀ m, 1 ≤ m → m < x → m ≤ s.size → (bytesOf s).take m ≠ varL (low ((bytesOf s).take m))) →
    Ev (fun k => spec_ReadVar.l0 k s (x : Int)) (readN (bytesOf s)) := by
  have hnone : ∀ x, (8 ≤ x ∨ s.size < x) → (∀ m, 1 ≤ m → m < x → m ≤ s.size → (bytesOf s).take m ≠ varL (low ((bytesOf s).take m))) → readN (bytesOf s) = (0, 0) := by
    intro x hx hm
    cases hr : rdv 7 true (bytesOf s) with
    | none => exact readN_none hr
    | some p =>
      obtain ⟨n, k⟩ := p
      obtain ⟨h1, h2, h3, h4, h5, _, h7⟩ := rdv_some 7 true _ n k (bytesOf_range s) hr
      rw [bytesOf_length] at h1
      exact absurd (by rw [h4, low_varL]) (hm k h3 (by omega) h1)
  intro d
  induction d with
  | zero =>
    intro x hx h1 hm
    rw [hnone x (by omega) hm]
    refine Ev.step (spec_ReadVar.l0.eq_2 _ _) (ev_neg (by omega) ?_)
    exact Ev.step (spec_ReadVar.j1.eq_2 _ _ _) (ev_neg (by simp) (ev_now rfl))
  | succ d ih =>
    intro x hx h1 hm
    refine Ev.step (spec_ReadVar.l0.eq_2 _ _) (ev_pos (by omega) ?_)
    by_cases hsz : s.size < x
    · rw [hnone x (by omega) hm]
      exact Ev.step (spec_ReadVar.j1.eq_2 _ _ _) (ev_neg (by simp; omega) (ev_now rfl))
    · refine Ev.step (spec_ReadVar.j1.eq_2 _ _ _) (ev_pos (by simp; omega) ?_)
      have e2 : wrap64 ((x : Int) - 1) = (x : Int) - 1 := w64 (by omega) (by omega)
      rw [e2]
      have e3 : (0 : Int) = ((low (((bytesOf s).take x).drop x) : Nat) : Int) := by
        rw [List.drop_eq_nil_of_le (by rw [List.length_take]; omega)]; rfl
      rw [e3]
      refine readvar_spec_inner s x (by omega) (by omega) _ ?_ x (Nat.le_refl _)
      have hlow : low ((bytesOf s).take x) < 562949953421312 := by
        refine Nat.lt_of_lt_of_le (low_bound _) ?_
        have : ((bytesOf s).take x).length ≤ 7 := by rw [List.length_take]; omega
        exact Nat.le_trans (Nat.pow_le_pow_right (by decide) this) (by decide)
      refine Ev.bind (var_spec _ hlow) (ev_pos (by omega) (ev_pos (by omega) ?_))
      by_cases ht : (bytesOf s).take x = varL (low ((bytesOf s).take x))
      · have hr := rdv_of_take ht (by simpa using hlow)
        rw [readN_some hr, ← ht]
        have hl : ((bytesOf s).take x).length = x := by rw [List.length_take, bytesOf_length]; omega
        rw [hl]
        refine ev_pos ?_ (ev_now rfl)
        rw [toList_eq_iff]
        apply byte_ext
        rw [bytesOf_strOfNums _ (fun y hy => bytesOf_range s y (List.mem_of_mem_take hy)), bytesOf_extract]
        simp
      · refine ev_neg ?_ ?_
        · rw [toList_eq_iff]
          intro he
          have := congrArg bytesOf he
          rw [bytesOf_strOfNums _ (varL_byte _), bytesOf_extract] at this
          simp at this
          exact ht this.symm
        · have e4 : wrap64 ((x : Int) + 1) = ((x + 1 : Nat) : Int) := w64 (by omega) (by omega)
          rw [e4]
          refine ih (x + 1) (by omega) (by omega) ?_
          intro m hm1 hm2 hm3
          by_cases hmx : m = x
          · subst hmx; exact ht
          · exact hm m hm1 (by omega) hm3
theorem readvar_spec (s : ByteArray) (hs : s.size ≤ 140737488351232) : Ev (fun k => spec_ReadVar.f k s) (readN (bytesOf s)) := by
  unfold spec_ReadVar.f
  exact readvar_spec_loop s hs 7 1 (by omega) (by omega) (fun m h1 h2 => by omega)
/-- what the program's loop comes to, from a place on -/
def readFrom (n : Int) (i : Nat) (o : Option (Nat × Nat)) : Int × Int := match o with
  | some p => (n + 2 ^ (7 * i) * (p.1 : Int), ((p.2 + i : Nat) : Int))
  | none => (0, 0)
theorem readvar_impl_loop (s : ByteArray) (hs : s.size ≤ 140737488351232) : ∀ (d i : Nat) (n : Int), i + d = 7 → i ≤ s.size → 0 ≤ n → n < 2 ^ (7 * i) →
    Ev (fun k => impl_ReadVar.l0 k s n (i : Int)) (readFrom n i (rdv d (decide (i = 0)) ((bytesOf s).drop i))) := by
  intro d
  induction d with
  | zero =>
    intro i n hi hle h0 h1
    have : readFrom n i (rdv 0 (decide (i = 0)) ((bytesOf s).drop i)) = (0, 0) := rfl
    rw [this]
    by_cases hsz : (i : Int) < (s.size : Int)
    · refine Ev.step (impl_ReadVar.l0.eq_2 _ _ _) (ev_pos hsz ?_)
      exact Ev.step (impl_ReadVar.j1.eq_2 _ _ _ _) (ev_neg (by simp; omega) (ev_now rfl))
    · refine Ev.step (impl_ReadVar.l0.eq_2 _ _ _) (ev_neg hsz ?_)
      exact Ev.step (impl_ReadVar.j1.eq_2 _ _ _ _) (ev_neg (by simp) (ev_now rfl))
  | succ d ih =>
    intro i n hi hle h0 h1
    by_cases hsz : i < s.size
    · have hr := bt_range s (i : Int)
      have hdrop : (bytesOf s).drop i = bt s (i : Int) :: (bytesOf s).drop (i + 1) := by
        have hl : i < (bytesOf s).length := by rw [bytesOf_length]; exact hsz
        rw [List.drop_eq_getElem_cons hl, bt_getD, List.getD_eq_getElem?_getD, List.getElem?_eq_getElem hl]; rfl
      rw [hdrop]
      have wb : wrap64 (bt s (i : Int)) = bt s (i : Int) := wbt s _
      have f1 : (i : Int) < (s.size : Int) := by omega
      have f2 : (0 : Int) ≤ (i : Int) := by omega
      have f3 : decide ((i : Int) < 7) = true := by simp; omega
      have hw7 : (0 : Int) ≤ wrap64 (7 * (i : Int)) := by rw [w64 (by omega) (by omega)]; omega
      have hw1 : wrap64 ((i : Int) + 1) = ((i + 1 : Nat) : Int) := w64 (by omega) (by omega)
      have hP : (2 : Int) ^ (7 * (i + 1)) = 2 ^ (7 * i) * 128 := by
        have : 7 * (i + 1) = 7 * i + 7 := by omega
        rw [this, Int.pow_add]; rfl
      have hPpos : (0 : Int) < 2 ^ (7 * i) := Int.pow_pos (by decide)
      have hPmax : (2 : Int) ^ (7 * i) ≤ 4398046511104 := by
        have h7 : (2 : Nat) ^ (7 * i) ≤ 2 ^ 42 := Nat.pow_le_pow_right (by decide) (by omega)
        have e42 : (2 : Nat) ^ 42 = 4398046511104 := by decide
        rw [e42] at h7
        have : (2 : Int) ^ (7 * i) = ((2 ^ (7 * i) : Nat) : Int) := by simp
        omega
      have hshl : shl .i64 (Go.bits .and .i64 (wrap64 (bt s (i : Int))) 127) (wrap64 (7 * (i : Int))) = bt s (i : Int) % 128 * 2 ^ (7 * i) := by
        have hr' := bt_range s (i : Int)
        rw [wbt, and127 _ hr'.1 (by omega)]
        have e : wrap64 (7 * (i : Int)) = ((7 * i : Nat) : Int) := w64 (by omega) (by omega)
        rw [e]
        unfold shl
        have hm : min ((7 * i : Nat) : Int).toNat IntKind.i64.bits = 7 * i := by
          have : IntKind.i64.bits = 64 := rfl
          rw [this]; omega
        rw [hm, i64_w]
        have hlt : bt s (i : Int) % 128 * 2 ^ (7 * i) ≤ 127 * 2 ^ (7 * i) := Int.mul_le_mul_of_nonneg_right (show bt s (i : Int) % 128 ≤ 127 by omega) (Int.le_of_lt hPpos)
        have hge : 0 ≤ bt s (i : Int) % 128 * 2 ^ (7 * i) := Int.mul_nonneg (by omega) (Int.le_of_lt hPpos)
        exact w64 (by omega) (by omega)
      generalize hB : bt s (i : Int) = b at *
      have hor : Go.bits .or .i64 n (b % 128 * 2 ^ (7 * i)) = n + b % 128 * 2 ^ (7 * i) := by
        rw [or_comm', or_join (7 * i) _ _ (Int.mul_nonneg (by omega) (Int.le_of_lt hPpos)) (Int.mul_emod_left _ _) ?_ h0 h1 (by omega)]
        · omega
        · have hlt : b % 128 * 2 ^ (7 * i) ≤ 127 * 2 ^ (7 * i) := Int.mul_le_mul_of_nonneg_right (show b % 128 ≤ 127 by omega) (Int.le_of_lt hPpos)
          omega
      refine Ev.step (impl_ReadVar.l0.eq_2 _ _ _) (ev_pos f1 ?_)
      refine Ev.step (impl_ReadVar.j1.eq_2 _ _ _ _) (ev_pos f3 (ev_pos f2 (ev_pos f1 (ev_pos hw7 ?_))))
      rw [wb] at hshl
      rw [hB, wb, hshl, hor, hw1]
      clear hshl hor wb hw7 hw1 f3
      by_cases h128 : 128 ≤ b
      · refine ev_pos (by omega) ?_
        have hb' : 0 ≤ n + b % 128 * 2 ^ (7 * i) := Int.add_nonneg h0 (Int.mul_nonneg (by omega) (Int.le_of_lt hPpos))
        have hlt' : n + b % 128 * 2 ^ (7 * i) < 2 ^ (7 * (i + 1)) := by
          have : b % 128 * 2 ^ (7 * i) ≤ 127 * 2 ^ (7 * i) := Int.mul_le_mul_of_nonneg_right (by omega) (Int.le_of_lt hPpos)
          rw [hP]; omega
        have := ih (i + 1) _ (by omega) (by omega) hb' hlt'
        have hf : decide (i + 1 = 0) = false := by simp
        rw [hf] at this
        have e : readFrom n i (rdv (d + 1) (decide (i = 0)) (b :: (bytesOf s).drop (i + 1))) = readFrom (n + b % 128 * 2 ^ (7 * i)) (i + 1) (rdv d false ((bytesOf s).drop (i + 1))) := by
          rw [rdv, if_pos h128]
          cases rdv d false ((bytesOf s).drop (i + 1)) with
          | none => rfl
          | some p =>
            simp only [Option.map_some, readFrom]
            have e6 : (((b - 128).toNat + 128 * p.1 : Nat) : Int) = b % 128 + 128 * (p.1 : Int) := by omega
            rw [e6, hP]
            refine Prod.ext ?_ ?_
            · simp only
              rw [Int.mul_add, Int.mul_comm (b % 128), Int.mul_assoc, Int.add_assoc]
            · simp only
              omega
        rw [e]
        exact this
      · refine ev_neg (by omega) ?_
        have hmod : b % 128 = b := Int.emod_eq_of_lt (by omega) (by omega)
        by_cases hb0 : b = 0
        · refine ev_pos hb0 ?_
          by_cases hi0 : i = 0
          · refine ev_neg (by omega) (ev_now ?_)
            rw [rdv, if_neg h128, if_neg (by simp [hi0])]
            simp only [readFrom]
            subst hi0
            rw [hmod, hb0]
            simp
          · refine ev_pos (by omega) (ev_now ?_)
            rw [rdv, if_neg h128, if_pos (by simp [hi0, hb0])]
            rfl
        · refine ev_neg hb0 (ev_now ?_)
          rw [rdv, if_neg h128, if_neg (by simp [hb0])]
          simp only [readFrom]
          rw [hmod]
          have : ((b.toNat : Nat) : Int) = b := by omega
          rw [this, Int.mul_comm b]
          congr 2
          omega
    · have hd : (bytesOf s).drop i = [] := List.drop_eq_nil_of_le (by rw [bytesOf_length]; omega)
      rw [hd]
      have : readFrom n i (rdv (d + 1) (decide (i = 0)) []) = (0, 0) := rfl
      rw [this]
      refine Ev.step (impl_ReadVar.l0.eq_2 _ _ _) (ev_neg (by omega) ?_)
      exact Ev.step (impl_ReadVar.j1.eq_2 _ _ _ _) (ev_neg (by simp) (ev_now rfl))
theorem readvar_impl (s : ByteArray) (hs : s.size ≤ 140737488351232) : Ev (fun k => impl_ReadVar.f k s) (readN (bytesOf s)) := by
  unfold impl_ReadVar.f
  have := readvar_impl_loop s hs 7 0 0 (by omega) (by omega) (by omega) (by decide)
  have e : readFrom 0 0 (rdv 7 (decide (0 = 0)) ((bytesOf s).drop 0)) = readN (bytesOf s) := by
    simp only [List.drop_zero, decide_true]
    unfold readN
    cases rdv 7 true (bytesOf s) with
    | none => rfl
    | some p => simp [readFrom]
  rw [← e]
  exact this

/-! ## section resultok -/
/-- is a result right -/
def resOkB (c : Int) (d : ByteArray) : Bool := decide (0 ≤ c ∧ c ≤ 200 ∧ d.size ≤ 400)
theorem resok_spec (c : Int) (d : ByteArray) : spec_ResultOk.f c d = some (resOkB c d) := by
  unfold spec_ResultOk.f resOkB
  rw [l1In_eq, Option.bind_some]
  by_cases h : 0 ≤ c ∧ c ≤ 200
  · rw [if_pos (by simpa using h)]
    congr 1; apply Bool.eq_iff_iff.2; simp only [decide_eq_true_eq]; omega
  · rw [if_neg (by simpa using h)]
    congr 1; symm; apply decide_eq_false; rintro ⟨a, b, _⟩; exact h ⟨a, b⟩
theorem resok_impl (c : Int) (d : ByteArray) : impl_ResultOk.f c d = some (resOkB c d) := by
  unfold impl_ResultOk.f resOkB
  rw [within_eq, Option.bind_some]
  by_cases h : 0 ≤ c ∧ c ≤ 200
  · rw [if_pos (by simpa using h)]
    congr 1; apply Bool.eq_iff_iff.2; simp only [decide_eq_true_eq]; omega
  · rw [if_neg (by simpa using h)]
    congr 1; symm; apply decide_eq_false; rintro ⟨a, b, _⟩; exact h ⟨a, b⟩

/-! ## section showresS -/
/-- a result as a text -/
def showResN (c : Int) (d : ByteArray) : ByteArray := if resOkB c d = true then strOfNums (varL c.toNat) ++ d else ⟨#[]⟩
theorem showres_spec (c : Int) (d : ByteArray) : Ev (fun k => spec_ShowResult.f k c d) (showResN c d) := by
  unfold spec_ShowResult.f showResN
  refine ev_of (resok_spec c d) ?_
  by_cases h : resOkB c d = true
  · rw [if_pos h]
    have hh : 0 ≤ c ∧ c ≤ 200 ∧ d.size ≤ 400 := of_decide_eq_true h
    obtain ⟨n, rfl⟩ : ∃ n : Nat, c = n := ⟨c.toNat, by omega⟩
    refine ev_pos h (Ev.bind (var_spec n (by omega)) (ev_pos ?_ (ev_now rfl)))
    rw [strOfNums_size]
    have := varL_len 6 n (by omega)
    omega
  · rw [if_neg h]
    exact ev_neg h (ev_now rfl)

/-! ## section l8vars -/
theorem extract_bytes (s : ByteArray) (x : Nat) : bytesOf (s.extract x s.size) = (bytesOf s).drop x := by
  rw [bytesOf_extract]
  apply List.take_of_length_le
  rw [List.length_drop, bytesOf_length]; omega
theorem extract_size_le (s : ByteArray) (x : Nat) : (s.extract x s.size).size ≤ s.size := by
  rw [ByteArray.size_extract]; omega
/-- so many Vars from a place on; and where they end, -1 where one is none -/
def varsAt (l : List Int) (x : Int) : Nat → List Int → List Int × Int
  | 0, acc => (acc, x)
  | n + 1, acc => if x < 0 ∨ (l.length : Int) < x then (acc, -1) else
      match rdv 7 true (l.drop x.toNat) with
      | some p => varsAt l (x + (p.2 : Int)) n (acc ++ [(p.1 : Int)])
      | none => (acc, -1)
theorem l8vars_loop (s : ByteArray) (hs : s.size ≤ 140737488351232) (m : Nat) (hm : m ≤ 1000) : ∀ (d i : Nat) (x : Int) (acc : List Int), i + d = m → acc.length = i → (x ≤ 140737488351232 ∧ -1 ≤ x) →
    Ev (fun k => spec_l8Vars.l0 k s x (m : Int) acc (i : Int)) (varsAt (bytesOf s) x d acc) := by
  intro d
  induction d with
  | zero =>
    intro i x acc hi ha hx
    exact Ev.step (spec_l8Vars.l0.eq_2 _ _ _ _ _) (ev_neg (by omega) (ev_now rfl))
  | succ d ih =>
    intro i x acc hi ha hx
    rw [varsAt, bytesOf_length]
    refine Ev.step (spec_l8Vars.l0.eq_2 _ _ _ _ _) (ev_pos (by omega) ?_)
    by_cases h0 : x < 0
    · rw [if_pos (.inl h0)]
      exact ev_pos h0 (Ev.step (spec_l8Vars.j1.eq_2 _ _ _ _ _ _) (ev_pos rfl (ev_now rfl)))
    · refine ev_neg h0 ?_
      by_cases h1 : (s.size : Int) < x
      · rw [if_pos (.inr h1)]
        exact Ev.step (spec_l8Vars.j1.eq_2 _ _ _ _ _ _) (ev_pos (decide_eq_true h1) (ev_now rfl))
      · rw [if_neg (by omega)]
        refine Ev.step (spec_l8Vars.j1.eq_2 _ _ _ _ _ _) (ev_neg (by simp; omega) (ev_pos (by omega) (ev_pos (by omega) ?_)))
        refine Ev.bind (readvar_spec _ (Nat.le_trans (extract_size_le s x.toNat) hs)) ?_
        rw [extract_bytes]
        cases hr : rdv 7 true ((bytesOf s).drop x.toNat) with
        | none =>
          rw [readN_none hr]
          exact ev_pos rfl (ev_now rfl)
        | some p =>
          obtain ⟨n, k⟩ := p
          have hf := rdv_some 7 true _ n k (fun y hy => bytesOf_range s y (List.mem_of_mem_drop hy)) hr
          obtain ⟨q1, q2, q3, _, _, _, _⟩ := hf
          rw [List.length_drop, bytesOf_length] at q1
          rw [readN_some hr]
          refine ev_neg (by simp only; omega) (ev_pos (by omega) ?_)
          have e1 : wrap64 (x + (k : Int)) = x + (k : Int) := w64 (by omega) (by omega)
          have e2 : wrap64 ((i : Int) + 1) = ((i + 1 : Nat) : Int) := w64 (by omega) (by omega)
          simp only
          rw [e1, e2]
          exact ih (i + 1) (x + (k : Int)) (acc ++ [(n : Int)]) (by omega) (by simp; omega) (by omega)
theorem l8vars_spec (s : ByteArray) (hs : s.size ≤ 140737488351232) (x : Int) (hx : x ≤ 140737488351232 ∧ -1 ≤ x) (m : Nat) (hm : m ≤ 1000) : Ev (fun k => spec_l8Vars.f k s x (m : Int)) (varsAt (bytesOf s) x m []) := by
  unfold spec_l8Vars.f
  exact l8vars_loop s hs m hm m 0 x [] (by omega) rfl hx

/-! ## section FnExactReadResult -/
/-- what is read of a result -/
def readResN (s : ByteArray) : Int × ByteArray × Bool := match rdv 7 true (bytesOf s) with
  | some p => if resOkB (p.1 : Int) (s.extract p.2 s.size) = true then ((p.1 : Int), s.extract p.2 s.size, true) else (0, ⟨#[]⟩, false)
  | none => (0, ⟨#[]⟩, false)
theorem readres_spec (s : ByteArray) (hs : s.size ≤ 140737488351232) : Ev (fun k => spec_ReadResult.f k s) (readResN s) := by
  unfold spec_ReadResult.f readResN
  refine Ev.bind (l8vars_spec s hs 0 (by omega) 1 (by omega)) ?_
  rw [varsAt, if_neg (by simp)]
  have e0 : (bytesOf s).drop (0 : Int).toNat = bytesOf s := rfl
  rw [e0]
  cases hr : rdv 7 true (bytesOf s) with
  | none => exact ev_pos (show (-1 : Int) < 0 by decide) (ev_now rfl)
  | some p =>
    obtain ⟨n, k⟩ := p
    obtain ⟨q1, q2, q3, q4, q5, _, q7⟩ := rdv_some 7 true _ n k (bytesOf_range s) hr
    rw [bytesOf_length] at q1
    simp only [varsAt, List.nil_append, Int.zero_add]
    refine ev_neg (by omega) (ev_pos (by simp) (ev_pos (by omega) (ev_pos (by omega) ?_)))
    have e1 : rd [(n : Int)] 0 = (n : Int) := rfl
    have e2 : ((k : Nat) : Int).toNat = k := rfl
    rw [e1, e2]
    refine Ev.bind (showres_spec _ _) ?_
    unfold showResN
    by_cases h : resOkB (n : Int) (s.extract k s.size) = true
    · rw [if_pos h, if_pos h]
      refine ev_pos ?_ (ev_now rfl)
      rw [toList_eq_iff]
      apply byte_ext
      have e3 : ((n : Nat) : Int).toNat = n := rfl
      rw [bytesOf_append, extract_bytes, e3, bytesOf_strOfNums _ (varL_byte n), ← q4, List.take_append_drop]
    · rw [if_neg h, if_neg h]
      refine ev_neg ?_ (ev_now rfl)
      rw [toList_eq_iff]
      intro he
      have := congrArg ByteArray.size he
      have e4 : (⟨#[]⟩ : ByteArray).size = 0 := rfl
      omega
theorem readres_impl (s : ByteArray) (hs : s.size ≤ 140737488351232) : Ev (fun k => impl_ReadResult.f k s) (readResN s) := by
  unfold impl_ReadResult.f readResN
  refine Ev.bind (readvar_impl s hs) ?_
  cases hr : rdv 7 true (bytesOf s) with
  | none =>
    rw [readN_none hr]
    exact ev_pos (by decide) (ev_pos (by simp only; omega) (ev_pos rfl (ev_now rfl)))
  | some p =>
    obtain ⟨n, k⟩ := p
    obtain ⟨q1, q2, q3, q4, q5, _, q7⟩ := rdv_some 7 true _ n k (bytesOf_range s) hr
    rw [bytesOf_length] at q1
    rw [readN_some hr]
    have e2 : ((k : Nat) : Int).toNat = k := rfl
    simp only [e2]
    refine ev_pos (by omega) (ev_pos (by omega) (ev_neg (by omega) (ev_of (resok_impl _ _) ?_)))
    by_cases h : resOkB (n : Int) (s.extract k s.size) = true
    · exact ev_pos h (ev_now (by rw [if_pos h]))
    · exact ev_neg h (ev_now (by rw [if_neg h]))
theorem FnExactReadResult : laws_FnExactReadResult.Pure := by
  intro s hs
  unfold laws_FnExactReadResult.f
  refine Ev.rounds (r := true) ?_
  by_cases h : (s.size : Int) > 1048576
  · exact ev_pos h (ev_now rfl)
  · refine ev_neg h ?_
    refine Ev.bind (readres_spec s hs) (Ev.bind (readres_impl s hs) ?_)
    have e : laws_eqResult.f (readResN s).1 (readResN s).2.1 (readResN s).1 (readResN s).2.1 = some true := by
      unfold laws_eqResult.f; simp
    exact ev_of e (ev_pos rfl (ev_neg (by simp) (ev_now rfl)))

end Go.Proofs.Ytgpcgfmmmnmfhaa.Pure
