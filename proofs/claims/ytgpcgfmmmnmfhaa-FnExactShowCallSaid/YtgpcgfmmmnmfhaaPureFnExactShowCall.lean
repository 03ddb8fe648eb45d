/- The program's ShowCall returns what the reference's ShowCall returns, for all arguments: the statement over numbers and lists, proved. Conditions: none beyond the bounds of the arguments' kinds. -/
import Derived.Test.YtgpcgfmmmnmfhaaStmFnExactShowCall
import Derived.Test.YtgpcgfmmmnmfhaaMath
import Derived.Test.YtgpcgfmmmnmfhaaStr
namespace Go.Proofs.Ytgpcgfmmmnmfhaa.Pure
open Go.RowKit Go.Proofs.Ytgpcgfmmmnmfhaa.PFnExactShowCall Go.Proofs.YtgpcgfmmmnmfhaaW.PrintWords Go.Proofs.YtgpcgfmmmnmfhaaW.PrintLast Go.Proofs.YtgpcgfmmmnmfhaaW.PrintMore Go.Proofs.Ytgpcgfmmmnmfhaa.Mth Go.Proofs.Ytgpcgfmmmnmfhaa.Str

set_option linter.unusedVariables false
set_option linter.unusedSimpArgs false
/-! ## section within -/
theorem within_eq (a b c : Int) : impl_within.f a b c = some (decide (b ≤ a ∧ a ≤ c)) := by
  unfold impl_within.f
  by_cases h : a ≥ b
  · rw [if_pos h]; have : b ≤ a := h; simp [this]
  · rw [if_neg h]; have : ¬ b ≤ a := h; simp [this]

/-! ## section l1In -/
theorem l1In_eq (a b c : Int) : spec_l1In.f a b c = some (decide (b ≤ a ∧ a ≤ c)) := by
  unfold spec_l1In.f
  by_cases h : a ≥ b
  · rw [if_pos h]; have : b ≤ a := h; simp [this]
  · rw [if_neg h]; have : ¬ b ≤ a := h; simp [this]

/-! ## section varS -/
theorem var_spec_loop : ∀ (d n : Nat) (acc : List Int), n < 128 ^ (d + 1) → n < 562949953421312 → acc.length + d < 140737488355328 → Ev (fun k => spec_Var.l0 k (n : Int) acc) (strOfNums (acc ++ varL n)) := by
  intro d
  induction d with
  | zero =>
    intro n acc hn hb ha
    have h1 : n < 128 := by simpa using hn
    refine Ev.step (spec_Var.l0.eq_2 _ _) (ev_neg (by omega) (ev_pos (by omega) (ev_now ?_)))
    rw [varL_lt h1, Int.emod_eq_of_lt (by omega) (by omega)]
  | succ d ih =>
    intro n acc hn hb ha
    by_cases h1 : n < 128
    · refine Ev.step (spec_Var.l0.eq_2 _ _) (ev_neg (by omega) (ev_pos (by omega) (ev_now ?_)))
      rw [varL_lt h1, Int.emod_eq_of_lt (by omega) (by omega)]
    · refine Ev.step (spec_Var.l0.eq_2 _ _) (ev_pos (by omega) (ev_pos (by omega) ?_))
      have hd : wrap64 ((n : Int).tdiv 128) = ((n / 128 : Nat) : Int) := by
        rw [Int.tdiv_eq_ediv_of_nonneg (by omega)]
        unfold wrap64; omega
      have hm : wrap64 (128 + (n : Int).tmod 128) % 256 = ((128 + n % 128 : Nat) : Int) := by
        rw [Int.tmod_eq_emod_of_nonneg (by omega)]
        unfold wrap64; omega
      rw [hd, hm]
      have := ih (n / 128) (acc ++ [((128 + n % 128 : Nat) : Int)]) (by rw [Nat.pow_succ] at hn; omega) (by omega) (by simp; omega)
      rw [varL_ge (by omega)]
      simpa using this
theorem var_spec (n : Nat) (hn : n < 562949953421312) : Ev (fun k => spec_Var.f k (n : Int)) (strOfNums (varL n)) := by
  unfold spec_Var.f
  refine ev_of (l1In_eq _ _ _) (ev_pos (by simp; omega) ?_)
  have := var_spec_loop 6 n [] (by simpa using hn) hn (by simp)
  simpa using this
theorem var_spec_out (n : Int) (hn : n < 0 ∨ 562949953421311 < n) : Ev (fun k => spec_Var.f k n) (⟨#[]⟩ : ByteArray) := by
  unfold spec_Var.f
  exact ev_of (l1In_eq _ _ _) (ev_neg (by simp; omega) (ev_now rfl))

/-! ## section varI -/
theorem var_impl_loop : ∀ (d n : Nat) (acc : List Int), n < 128 ^ (d + 1) → n < 562949953421312 → acc.length + d < 140737488355328 → Ev (fun k => impl_Var.l0 k (n : Int) acc) (strOfNums (acc ++ varL n)) := by
  intro d
  induction d with
  | zero =>
    intro n acc hn hb ha
    have h1 : n < 128 := by simpa using hn
    refine Ev.step (impl_Var.l0.eq_2 _ _) (ev_neg (by omega) (ev_pos (by omega) (ev_now ?_)))
    rw [varL_lt h1, Int.emod_eq_of_lt (by omega) (by omega)]
  | succ d ih =>
    intro n acc hn hb ha
    by_cases h1 : n < 128
    · refine Ev.step (impl_Var.l0.eq_2 _ _) (ev_neg (by omega) (ev_pos (by omega) (ev_now ?_)))
      rw [varL_lt h1, Int.emod_eq_of_lt (by omega) (by omega)]
    · refine Ev.step (impl_Var.l0.eq_2 _ _) (ev_pos (by omega) (ev_pos (by omega) ?_))
      have hd : (n : Int) / 128 = ((n / 128 : Nat) : Int) := by omega
      have hm : (Go.bits .or .i64 (Go.bits .and .i64 (n : Int) 127) 128) % 256 = ((128 + n % 128 : Nat) : Int) := by
        rw [and127 _ (by omega) (by omega), or128 _ (by omega) (by omega)]
        omega
      rw [hd, hm]
      have := ih (n / 128) (acc ++ [((128 + n % 128 : Nat) : Int)]) (by rw [Nat.pow_succ] at hn; omega) (by omega) (by simp; omega)
      rw [varL_ge (by omega)]
      simpa using this
theorem var_impl (n : Nat) (hn : n < 562949953421312) : Ev (fun k => impl_Var.f k (n : Int)) (strOfNums (varL n)) := by
  unfold impl_Var.f
  refine ev_of (within_eq _ _ _) (ev_pos (by simp; omega) ?_)
  have := var_impl_loop 6 n [] (by simpa using hn) hn (by simp)
  simpa using this
theorem var_impl_out (n : Int) (hn : n < 0 ∨ 562949953421311 < n) : Ev (fun k => impl_Var.f k n) (⟨#[]⟩ : ByteArray) := by
  unfold impl_Var.f
  exact ev_of (within_eq _ _ _) (ev_neg (by simp; omega) (ev_now rfl))

/-! ## section callokD -/
/-- is a call right -/
def CallP (kd : Int) (path dst : ByteArray) (n m : Int) (data : ByteArray) : Prop :=
  (1 ≤ kd ∧ kd ≤ 22) ∧ path.size ≤ 60 ∧ dst.size ≤ 60 ∧ data.size ≤ 64 ∧ (-1000000 ≤ n ∧ n ≤ 1000000) ∧ (-1000000 ≤ m ∧ m ≤ 1000000) ∧ (dst.toList = [] ∨ kd = 9 ∨ kd = 10 ∨ kd = 12) ∧ (data.toList = [] ∨ kd = 5 ∨ kd = 6)
instance (kd : Int) (path dst : ByteArray) (n m : Int) (data : ByteArray) : Decidable (CallP kd path dst n m data) := by unfold CallP; infer_instance
def callB (kd : Int) (path dst : ByteArray) (n m : Int) (data : ByteArray) : Bool := decide (CallP kd path dst n m data)
theorem callB_yes {kd : Int} {path dst : ByteArray} {n m : Int} {data : ByteArray} (h : CallP kd path dst n m data) : callB kd path dst n m data = true := decide_eq_true h
theorem callB_no {kd : Int} {path dst : ByteArray} {n m : Int} {data : ByteArray} (h : ¬ CallP kd path dst n m data) : callB kd path dst n m data = false := decide_eq_false h
theorem szcall (kd : Int) (path dst : ByteArray) (n m : Int) (data : ByteArray) : ∃ v, laws_szCall.f kd path dst n m data 1048576 = some v := by
  unfold laws_szCall.f
  repeat' split
  all_goals exact ⟨_, rfl⟩

/-! ## section callokS -/
theorem callok_spec (kd : Int) (path dst : ByteArray) (n m : Int) (data : ByteArray) : Ev (fun k => spec_CallOk.f k kd path dst n m data) (callB kd path dst n m data) := by
  refine ⟨2, fun k hk => ?_⟩
  obtain ⟨k, rfl⟩ : ∃ j, k = j + 2 := ⟨k - 2, by omega⟩
  unfold spec_CallOk.f
  simp only [l1In_eq, Option.bind_some, spec_CallOk.j0]
  by_cases h : CallP kd path dst n m data
  · rw [callB_yes h]
    unfold CallP at h
    grind
  · rw [callB_no h]
    unfold CallP at h
    grind

/-! ## section callokI -/
theorem callok_impl (kd : Int) (path dst : ByteArray) (n m : Int) (data : ByteArray) : Ev (fun k => impl_CallOk.f k kd path dst n m data) (callB kd path dst n m data) := by
  refine ⟨4, fun k hk => ?_⟩
  obtain ⟨k, rfl⟩ : ∃ j, k = j + 4 := ⟨k - 4, by omega⟩
  unfold impl_CallOk.f
  simp only [within_eq, Option.bind_some, impl_CallOk.j0, impl_CallOk.j1, impl_CallOk.j2]
  by_cases h : CallP kd path dst n m data
  · rw [callB_yes h]
    unfold CallP at h
    grind
  · rw [callB_no h]
    unfold CallP at h
    grind

/-! ## section pieceD -/
/-- a text behind its length -/
def pieceB (s : ByteArray) : ByteArray := strOfNums (varL s.size) ++ s
theorem varB_size (n : Nat) (h : n < 562949953421312) : (strOfNums (varL n)).size ≤ 7 := by
  rw [strOfNums_size]; exact varL_len 6 n (by simpa using h)
theorem pieceB_size (s : ByteArray) (h : s.size ≤ 140737488351232) : (pieceB s).size ≤ 7 + s.size := by
  unfold pieceB
  rw [ByteArray.size_append]
  have := varB_size s.size (by omega)
  omega
def signN (n : Int) : Nat := if n < 0 then (-2 * n - 1).toNat else (2 * n).toNat
theorem signN_le (n : Int) (h : -1000000 ≤ n ∧ n ≤ 1000000) : signN n ≤ 2000000 := by unfold signN; split <;> omega
/-- a call as a text -/
def showCallB (kd : Int) (path dst : ByteArray) (n m : Int) (data : ByteArray) : ByteArray :=
  if callB kd path dst n m data = true then
    (((((strOfNums (varL kd.toNat) ++ pieceB path) ++ pieceB dst) ++ strOfNums (varL (signN n))) ++ strOfNums (varL (signN m))) ++ pieceB data) else ⟨#[]⟩

/-! ## section pieceS -/
theorem piece_spec (s : ByteArray) (h : s.size ≤ 140737488351232) : Ev (fun k => spec_l8Piece.f k s) (pieceB s) := by
  unfold spec_l8Piece.f pieceB
  refine Ev.bind (var_spec s.size (by omega)) (ev_pos ?_ (ev_now rfl))
  have := varB_size s.size (by omega)
  omega
theorem signed_spec (n : Int) (h : -1000000 ≤ n ∧ n ≤ 1000000) : Ev (fun k => spec_l8Signed.f k n) (strOfNums (varL (signN n))) := by
  unfold spec_l8Signed.f signN
  by_cases h0 : n < 0
  · rw [if_pos h0]
    refine ev_pos h0 ?_
    have e1 : wrap64 (wrap64 (-2 * n) - 1) = (((-2 * n - 1).toNat : Nat) : Int) := by
      rw [w64 (n := -2 * n) (by omega) (by omega), w64 (by omega) (by omega)]; omega
    rw [e1]
    exact Ev.bind (var_spec _ (by omega)) (ev_now rfl)
  · rw [if_neg h0]
    refine ev_neg h0 ?_
    have e1 : wrap64 (2 * n) = (((2 * n).toNat : Nat) : Int) := by
      rw [w64 (by omega) (by omega)]; omega
    rw [e1]
    exact Ev.bind (var_spec _ (by omega)) (ev_now rfl)
theorem showcall_spec (kd : Int) (path dst : ByteArray) (n m : Int) (data : ByteArray) : Ev (fun k => spec_ShowCall.f k kd path dst n m data) (showCallB kd path dst n m data) := by
  unfold spec_ShowCall.f showCallB
  refine Ev.bind (callok_spec kd path dst n m data) ?_
  by_cases h : callB kd path dst n m data = true
  · rw [if_pos h]
    have hp : CallP kd path dst n m data := of_decide_eq_true h
    obtain ⟨⟨h1, h2⟩, h3, h4, h5, h6, h7, _, _⟩ := hp
    obtain ⟨c, rfl⟩ : ∃ c : Nat, kd = c := ⟨kd.toNat, by omega⟩
    have z0 := varB_size c (by omega)
    have z1 := pieceB_size path (by omega)
    have z2 := pieceB_size dst (by omega)
    have z3 := varB_size (signN n) (by have := signN_le n h6; omega)
    have z4 := varB_size (signN m) (by have := signN_le m h7; omega)
    have z5 := pieceB_size data (by omega)
    have e : ((c : Nat) : Int).toNat = c := rfl
    rw [e]
    refine ev_pos h (Ev.bind (var_spec c (by omega)) (Ev.bind (piece_spec path (by omega)) (ev_pos (by omega) (Ev.bind (piece_spec dst (by omega)) (ev_pos ?_ (Ev.bind (signed_spec n h6) (ev_pos ?_ (Ev.bind (signed_spec m h7) (ev_pos ?_ (Ev.bind (piece_spec data (by omega)) (ev_pos ?_ (ev_now rfl))))))))))))
    all_goals simp only [ByteArray.size_append]
    all_goals omega
  · rw [if_neg h]
    exact ev_neg h (ev_now rfl)

/-! ## section pieceI -/
theorem piece_impl (s : ByteArray) (h : s.size ≤ 140737488351232) : Ev (fun k => impl_piece.f k s) (pieceB s) := by
  unfold impl_piece.f pieceB
  refine Ev.bind (var_impl s.size (by omega)) (ev_pos ?_ (ev_now rfl))
  have := varB_size s.size (by omega)
  omega
/-- the Vars of numbers, one behind the other -/
def varsB (l : List Nat) (acc : ByteArray) : ByteArray := l.foldl (fun a n => a ++ strOfNums (varL n)) acc
theorem varsB_cons (n : Nat) (l : List Nat) (acc : ByteArray) : varsB (n :: l) acc = varsB l (acc ++ strOfNums (varL n)) := rfl
theorem vars_impl_loop (l : List Nat) (hl : ∀ n ∈ l, n < 562949953421312) (hn : l.length ≤ 1000) : ∀ (d i : Nat) (acc : ByteArray), i + d = l.length → acc.size ≤ 7 * i →
    Ev (fun k => impl_vars.l0 k acc (l.map fun (n : Nat) => (n : Int)) (l.length : Int) (i : Int)) (varsB (l.drop i) acc) := by
  intro d
  induction d with
  | zero =>
    intro i acc hi ha
    rw [List.drop_eq_nil_of_le (by omega)]
    exact Ev.step (impl_vars.l0.eq_2 _ _ _ _) (ev_neg (by omega) (ev_now rfl))
  | succ d ih =>
    intro i acc hi ha
    have hi' : i < l.length := by omega
    have hrd : rd (l.map fun (n : Nat) => (n : Int)) (i : Int) = (l[i] : Int) := by
      unfold rd
      rw [List.getD_eq_getElem?_getD, List.getElem?_map, Int.toNat_natCast, List.getElem?_eq_getElem hi']; rfl
    have hb := hl l[i] (List.getElem_mem hi')
    refine Ev.step (impl_vars.l0.eq_2 _ _ _ _) (ev_pos (by omega) (ev_pos (by omega) (ev_pos (by rw [List.length_map]; omega) ?_)))
    rw [hrd]
    have z := varB_size l[i] hb
    refine Ev.bind (var_impl _ hb) (ev_pos (by omega) ?_)
    have e3 : wrap64 ((i : Int) + 1) = ((i + 1 : Nat) : Int) := w64 (by omega) (by omega)
    rw [e3, List.drop_eq_getElem_cons hi', varsB_cons]
    exact ih (i + 1) _ (by omega) (by rw [ByteArray.size_append]; omega)
theorem vars_impl (l : List Nat) (hl : ∀ n ∈ l, n < 562949953421312) (hn : l.length ≤ 1000) : Ev (fun k => impl_vars.f k (l.map fun (n : Nat) => (n : Int))) (varsB l ⟨#[]⟩) := by
  unfold impl_vars.f
  have := vars_impl_loop l hl hn l.length 0 ⟨#[]⟩ (by omega) (by decide)
  rw [List.length_map]
  simpa using this

/-! ## section showcallI -/
theorem signed_impl (n : Int) (h : -1000000 ≤ n ∧ n ≤ 1000000) : impl_signed.f n = some ((signN n : Nat) : Int) := by
  unfold impl_signed.f signN
  by_cases h0 : n < 0
  · rw [if_pos h0, if_pos h0]
    congr 1
    rw [w64 (n := -2 * n) (by omega) (by omega), w64 (by omega) (by omega)]; omega
  · rw [if_neg h0, if_neg h0]
    congr 1
    rw [w64 (by omega) (by omega)]; omega
theorem app_nil (a : ByteArray) : (⟨#[]⟩ : ByteArray) ++ a = a := by
  apply byte_ext
  rw [bytesOf_append]; rfl
theorem app_assoc (a b c : ByteArray) : a ++ b ++ c = a ++ (b ++ c) := by
  apply byte_ext
  simp only [bytesOf_append, List.append_assoc]
theorem showcall_impl (kd : Int) (path dst : ByteArray) (n m : Int) (data : ByteArray) : Ev (fun k => impl_ShowCall.f k kd path dst n m data) (showCallB kd path dst n m data) := by
  unfold impl_ShowCall.f showCallB
  refine Ev.bind (callok_impl kd path dst n m data) ?_
  by_cases h : callB kd path dst n m data = true
  · rw [if_pos h]
    have hp : CallP kd path dst n m data := of_decide_eq_true h
    obtain ⟨⟨h1, h2⟩, h3, h4, h5, h6, h7, _, _⟩ := hp
    obtain ⟨c, rfl⟩ : ∃ c : Nat, kd = c := ⟨kd.toNat, by omega⟩
    have z0 := varB_size c (by omega)
    have z1 := pieceB_size path (by omega)
    have z2 := pieceB_size dst (by omega)
    have b3 : signN n < 562949953421312 := by have := signN_le n h6; omega
    have b4 : signN m < 562949953421312 := by have := signN_le m h7; omega
    have z3 := varB_size (signN n) b3
    have z4 := varB_size (signN m) b4
    have z5 := pieceB_size data (by omega)
    have e : ((c : Nat) : Int).toNat = c := rfl
    rw [e]
    have hv := vars_impl [signN n, signN m] (by intro x hx; simp at hx; omega) (by simp)
    have ev : varsB [signN n, signN m] ⟨#[]⟩ = strOfNums (varL (signN n)) ++ strOfNums (varL (signN m)) := by
      rw [varsB_cons, varsB_cons, app_nil]; rfl
    rw [ev] at hv
    have zv : (strOfNums (varL (signN n)) ++ strOfNums (varL (signN m))).size ≤ 14 := by rw [ByteArray.size_append]; omega
    refine ev_pos h (Ev.bind (var_impl c (by omega)) (Ev.bind (piece_impl path (by omega)) (ev_pos (by omega) (Ev.bind (piece_impl dst (by omega)) (ev_pos ?_ (ev_of (signed_impl n h6) (ev_of (signed_impl m h7) (Ev.bind hv (ev_pos ?_ (Ev.bind (piece_impl data (by omega)) (ev_pos ?_ (ev_now ?_)))))))))))) 
    · simp only [ByteArray.size_append]; omega
    · simp only [ByteArray.size_append]; omega
    · simp only [ByteArray.size_append]; omega
    · rw [app_assoc _ (strOfNums (varL (signN n))) (strOfNums (varL (signN m)))]
  · rw [if_neg h]
    exact ev_neg h (ev_now rfl)

/-! ## section FnExactShowCall -/
theorem FnExactShowCall : laws_FnExactShowCall.Pure := by
  intro kd path dst n m data _ _ _ _ _ _
  refine Ev.rounds (r := true) ?_
  unfold laws_FnExactShowCall.f
  obtain ⟨v, hv⟩ := szcall kd path dst n m data
  refine ev_of hv ?_
  by_cases h : v < 0
  · exact ev_pos h (ev_now rfl)
  · refine ev_neg h ?_
    unfold laws_toCall.f
    exact ev_some (Ev.bind (showcall_spec _ _ _ _ _ _) (ev_some (Ev.bind (showcall_impl _ _ _ _ _ _) (ev_pos rfl (ev_now rfl)))))

end Go.Proofs.Ytgpcgfmmmnmfhaa.Pure
