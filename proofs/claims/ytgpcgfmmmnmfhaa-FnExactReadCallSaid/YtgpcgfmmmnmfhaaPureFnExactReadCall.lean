/- The program's ReadCall returns what the reference's ReadCall returns, for all arguments: the statement over numbers and lists, proved. Conditions: none beyond the bounds of the arguments' kinds. -/
import Derived.Test.YtgpcgfmmmnmfhaaStmFnExactReadCall
import Derived.Test.YtgpcgfmmmnmfhaaMath
import Derived.Test.YtgpcgfmmmnmfhaaStr
namespace Go.Proofs.Ytgpcgfmmmnmfhaa.Pure
open Go.RowKit Go.Proofs.Ytgpcgfmmmnmfhaa.PFnExactReadCall Go.Proofs.YtgpcgfmmmnmfhaaW.PrintWords Go.Proofs.YtgpcgfmmmnmfhaaW.PrintLast Go.Proofs.YtgpcgfmmmnmfhaaW.PrintMore Go.Proofs.Ytgpcgfmmmnmfhaa.Mth Go.Proofs.Ytgpcgfmmmnmfhaa.Str

set_option linter.unusedVariables false
set_option linter.unusedSimpArgs false
/-! ## section within -/
theorem within_eq (a b c : Int) : impl_within.f a b c = some (decide (b ≤ a ∧ a ≤ c)) := by
  unfold impl_within.f
  by_cases h : a ≥ b
  · rw [if_pos h]; have : b ≤ a := h; simp [this]
  · rw [if_neg h]; have : ¬ b ≤ a := h; simp [this]

/-! ## section l1In -/
theorem l1In_eq (a b c : Int) : spec_l1In.f a b c = some (decide (b ≤ a ∧ a ≤ c)) := by
  unfold spec_l1In.f
  by_cases h : a ≥ b
  · rw [if_pos h]; have : b ≤ a := h; simp [this]
  · rw [if_neg h]; have : ¬ b ≤ a := h; simp [this]

/-! ## section callokD0 -/
/-- is a call right -/
def CallP (kd : Int) (path dst : ByteArray) (n m : Int) (data : ByteArray) : Prop :=
  (1 ≤ kd ∧ kd ≤ 22) ∧ path.size ≤ 60 ∧ dst.size ≤ 60 ∧ data.size ≤ 64 ∧ (-1000000 ≤ n ∧ n ≤ 1000000) ∧ (-1000000 ≤ m ∧ m ≤ 1000000) ∧ (dst.toList = [] ∨ kd = 9 ∨ kd = 10 ∨ kd = 12) ∧ (data.toList = [] ∨ kd = 5 ∨ kd = 6)
instance (kd : Int) (path dst : ByteArray) (n m : Int) (data : ByteArray) : Decidable (CallP kd path dst n m data) := by unfold CallP; infer_instance
def callB (kd : Int) (path dst : ByteArray) (n m : Int) (data : ByteArray) : Bool := decide (CallP kd path dst n m data)
theorem callB_yes {kd : Int} {path dst : ByteArray} {n m : Int} {data : ByteArray} (h : CallP kd path dst n m data) : callB kd path dst n m data = true := decide_eq_true h
theorem callB_no {kd : Int} {path dst : ByteArray} {n m : Int} {data : ByteArray} (h : ¬ CallP kd path dst n m data) : callB kd path dst n m data = false := decide_eq_false h

/-! ## section callokS -/
theorem callok_spec (kd : Int) (path dst : ByteArray) (n m : Int) (data : ByteArray) : Ev (fun k => spec_CallOk.f k kd path dst n m data) (callB kd path dst n m data) := by
  refine ⟨2, fun k hk => ?_⟩
  obtain ⟨k, rfl⟩ : ∃ j, k = j + 2 := ⟨k - 2, by omega⟩
  unfold spec_CallOk.f
  simp only [l1In_eq, Option.bind_some, spec_CallOk.j0]
  by_cases h : CallP kd path dst n m data
  · rw [callB_yes h]
    unfold CallP at h
    grind
  · rw [callB_no h]
    unfold CallP at h
    grind

/-! ## section callokI -/
theorem callok_impl (kd : Int) (path dst : ByteArray) (n m : Int) (data : ByteArray) : Ev (fun k => impl_CallOk.f k kd path dst n m data) (callB kd path dst n m data) := by
  refine ⟨4, fun k hk => ?_⟩
  obtain ⟨k, rfl⟩ : ∃ j, k = j + 4 := ⟨k - 4, by omega⟩
  unfold impl_CallOk.f
  simp only [within_eq, Option.bind_some, impl_CallOk.j0, impl_CallOk.j1, impl_CallOk.j2]
  by_cases h : CallP kd path dst n m data
  · rw [callB_yes h]
    unfold CallP at h
    grind
  · rw [callB_no h]
    unfold CallP at h
    grind

/-! ## section varS -/
theorem var_spec_loop : ∀ (d n : Nat) (acc : List Int), n < 128 ^ (d + 1) → n < 562949953421312 → acc.length + d < 140737488355328 → Ev (fun k => spec_Var.l0 k (n : Int) acc) (strOfNums (acc ++ varL n)) := by
  intro d
  induction d with
  | zero =>
    intro n acc hn hb ha
    have h1 : n < 128 := by simpa using hn
    refine Ev.step (spec_Var.l0.eq_2 _ _) (ev_neg (by omega) (ev_pos (by omega) (ev_now ?_)))
    rw [varL_lt h1, Int.emod_eq_of_lt (by omega) (by omega)]
  | succ d ih =>
    intro n acc hn hb ha
    by_cases h1 : n < 128
    · refine Ev.step (spec_Var.l0.eq_2 _ _) (ev_neg (by omega) (ev_pos (by omega) (ev_now ?_)))
      rw [varL_lt h1, Int.emod_eq_of_lt (by omega) (by omega)]
    · refine Ev.step (spec_Var.l0.eq_2 _ _) (ev_pos (by omega) (ev_pos (by omega) ?_))
      have hd : wrap64 ((n : Int).tdiv 128) = ((n / 128 : Nat) : Int) := by
        rw [Int.tdiv_eq_ediv_of_nonneg (by omega)]
        unfold wrap64; omega
      have hm : wrap64 (128 + (n : Int).tmod 128) % 256 = ((128 + n % 128 : Nat) : Int) := by
        rw [Int.tmod_eq_emod_of_nonneg (by omega)]
        unfold wrap64; omega
      rw [hd, hm]
      have := ih (n / 128) (acc ++ [((128 + n % 128 : Nat) : Int)]) (by rw [Nat.pow_succ] at hn; omega) (by omega) (by simp; omega)
      rw [varL_ge (by omega)]
      simpa using this
theorem var_spec (n : Nat) (hn : n < 562949953421312) : Ev (fun k => spec_Var.f k (n : Int)) (strOfNums (varL n)) := by
  unfold spec_Var.f
  refine ev_of (l1In_eq _ _ _) (ev_pos (by simp; omega) ?_)
  have := var_spec_loop 6 n [] (by simpa using hn) hn (by simp)
  simpa using this
theorem var_spec_out (n : Int) (hn : n < 0 ∨ 562949953421311 < n) : Ev (fun k => spec_Var.f k n) (⟨#[]⟩ : ByteArray) := by
  unfold spec_Var.f
  exact ev_of (l1In_eq _ _ _) (ev_neg (by simp; omega) (ev_now rfl))

/-! ## section pieceD -/
/-- a text behind its length -/
def pieceB (s : ByteArray) : ByteArray := strOfNums (varL s.size) ++ s
theorem varB_size (n : Nat) (h : n < 562949953421312) : (strOfNums (varL n)).size ≤ 7 := by
  rw [strOfNums_size]; exact varL_len 6 n (by simpa using h)
theorem pieceB_size (s : ByteArray) (h : s.size ≤ 140737488351232) : (pieceB s).size ≤ 7 + s.size := by
  unfold pieceB
  rw [ByteArray.size_append]
  have := varB_size s.size (by omega)
  omega
def signN (n : Int) : Nat := if n < 0 then (-2 * n - 1).toNat else (2 * n).toNat
theorem signN_le (n : Int) (h : -1000000 ≤ n ∧ n ≤ 1000000) : signN n ≤ 2000000 := by unfold signN; split <;> omega
/-- a call as a text -/
def showCallB (kd : Int) (path dst : ByteArray) (n m : Int) (data : ByteArray) : ByteArray :=
  if callB kd path dst n m data = true then
    (((((strOfNums (varL kd.toNat) ++ pieceB path) ++ pieceB dst) ++ strOfNums (varL (signN n))) ++ strOfNums (varL (signN m))) ++ pieceB data) else ⟨#[]⟩

/-! ## section pieceS -/
theorem piece_spec (s : ByteArray) (h : s.size ≤ 140737488351232) : Ev (fun k => spec_l8Piece.f k s) (pieceB s) := by
  unfold spec_l8Piece.f pieceB
  refine Ev.bind (var_spec s.size (by omega)) (ev_pos ?_ (ev_now rfl))
  have := varB_size s.size (by omega)
  omega
theorem signed_spec (n : Int) (h : -1000000 ≤ n ∧ n ≤ 1000000) : Ev (fun k => spec_l8Signed.f k n) (strOfNums (varL (signN n))) := by
  unfold spec_l8Signed.f signN
  by_cases h0 : n < 0
  · rw [if_pos h0]
    refine ev_pos h0 ?_
    have e1 : wrap64 (wrap64 (-2 * n) - 1) = (((-2 * n - 1).toNat : Nat) : Int) := by
      rw [w64 (n := -2 * n) (by omega) (by omega), w64 (by omega) (by omega)]; omega
    rw [e1]
    exact Ev.bind (var_spec _ (by omega)) (ev_now rfl)
  · rw [if_neg h0]
    refine ev_neg h0 ?_
    have e1 : wrap64 (2 * n) = (((2 * n).toNat : Nat) : Int) := by
      rw [w64 (by omega) (by omega)]; omega
    rw [e1]
    exact Ev.bind (var_spec _ (by omega)) (ev_now rfl)
theorem showcall_spec (kd : Int) (path dst : ByteArray) (n m : Int) (data : ByteArray) : Ev (fun k => spec_ShowCall.f k kd path dst n m data) (showCallB kd path dst n m data) := by
  unfold spec_ShowCall.f showCallB
  refine Ev.bind (callok_spec kd path dst n m data) ?_
  by_cases h : callB kd path dst n m data = true
  · rw [if_pos h]
    have hp : CallP kd path dst n m data := of_decide_eq_true h
    obtain ⟨⟨h1, h2⟩, h3, h4, h5, h6, h7, _, _⟩ := hp
    obtain ⟨c, rfl⟩ : ∃ c : Nat, kd = c := ⟨kd.toNat, by omega⟩
    have z0 := varB_size c (by omega)
    have z1 := pieceB_size path (by omega)
    have z2 := pieceB_size dst (by omega)
    have z3 := varB_size (signN n) (by have := signN_le n h6; omega)
    have z4 := varB_size (signN m) (by have := signN_le m h7; omega)
    have z5 := pieceB_size data (by omega)
    have e : ((c : Nat) : Int).toNat = c := rfl
    rw [e]
    refine ev_pos h (Ev.bind (var_spec c (by omega)) (Ev.bind (piece_spec path (by omega)) (ev_pos (by omega) (Ev.bind (piece_spec dst (by omega)) (ev_pos ?_ (Ev.bind (signed_spec n h6) (ev_pos ?_ (Ev.bind (signed_spec m h7) (ev_pos ?_ (Ev.bind (piece_spec data (by omega)) (ev_pos ?_ (ev_now rfl))))))))))))
    all_goals simp only [ByteArray.size_append]
    all_goals omega
  · rw [if_neg h]
    exact ev_neg h (ev_now rfl)

/-! ## section readvar -/
theorem bt_getD (s : ByteArray) (i : Nat) : bt s (i : Int) = (bytesOf s).getD i 0 := bt_get s i
theorem wbt (s : ByteArray) (i : Int) : wrap64 (bt s i) = bt s i := by
  have := bt_range s i
  exact w64 (by omega) (by omega)
theorem low_drop (l : List Int) (i : Nat) (h : i < l.length) : low (l.drop i) = (l.getD i 0).toNat % 128 + 128 * low (l.drop (i + 1)) := by
  rw [List.drop_eq_getElem_cons h, low]
  rw [List.getD_eq_getElem?_getD, List.getElem?_eq_getElem h]; rfl
/-- the reference's inner loop: the number of the first bytes, from the last one down -/
theorem readvar_spec_inner (s : ByteArray) (x : Nat) (hx : x ≤ s.size) (hx7 : x ≤ 7) (r : Int × Int)
    (H : Ev (fun k => (spec_Var.f k ((low ((bytesOf s).take x) : Nat) : Int)).bind fun t111 => (if 0 ≤ (x : Int) then (if (x : Int) ≤ (s.size : Int) then (if t111.toList = (s.extract 0 (x : Int).toNat).toList then (some (((low ((bytesOf s).take x) : Nat) : Int), (x : Int))) else (spec_ReadVar.l0 k s (wrap64 ((x : Int) + 1)))) else (none)) else (none))) r) :
    ∀ (i : Nat), i ≤ x → Ev (fun k => spec_ReadVar.l1 k s (x : Int) ((low (((bytesOf s).take x).drop i) : Nat) : Int) ((i : Int) - 1)) r := by
  intro i
  induction i with
  | zero =>
    intro hi
    refine Ev.step (spec_ReadVar.l1.eq_2 _ _ _ _) (ev_neg (by omega) ?_)
    simpa using H
  | succ i ih =>
    intro hi
    have hlen : ((bytesOf s).take x).length = x := by rw [List.length_take, bytesOf_length]; omega
    have hb := low_bound (((bytesOf s).take x).drop (i + 1))
    have hb2 : low (((bytesOf s).take x).drop (i + 1)) < 128 ^ 7 := by
      refine Nat.lt_of_lt_of_le hb (Nat.pow_le_pow_right (by decide) ?_)
      rw [List.length_drop]; omega
    have hl := low_drop ((bytesOf s).take x) i (by omega)
    have e0 : (((i + 1 : Nat) : Int) - 1) = (i : Int) := by omega
    rw [e0]
    refine Ev.step (spec_ReadVar.l1.eq_2 _ _ _ _) (ev_pos (by omega) (ev_pos (by omega) (ev_pos (by omega) ?_)))
    have e1 : wrap64 (wrap64 (((low (((bytesOf s).take x).drop (i + 1)) : Nat) : Int) * 128) + (wrap64 (bt s (i : Int))).tmod 128) = ((low (((bytesOf s).take x).drop i) : Nat) : Int) := by
      have hr := bt_range s (i : Int)
      have hg : ((bytesOf s).take x).getD i 0 = bt s (i : Int) := by
        rw [bt_getD, List.getD_eq_getElem?_getD, List.getD_eq_getElem?_getD, List.getElem?_take_of_lt (by omega)]
      rw [wbt, hl, hg, Int.tmod_eq_emod_of_nonneg hr.1]
      have : (128 : Nat) ^ 7 = 562949953421312 := by decide
      have e5 : wrap64 (((low (((bytesOf s).take x).drop (i + 1)) : Nat) : Int) * 128) = ((low (((bytesOf s).take x).drop (i + 1)) : Nat) : Int) * 128 := w64 (by omega) (by omega)
      rw [e5, w64 (by omega) (by omega)]
      omega
    rw [e1]
    have e2 : wrap64 ((i : Int) - 1) = (i : Int) - 1 := w64 (by omega) (by omega)
    rw [e2]
    exact ih (by omega)
theorem readvar_spec_loop (s : ByteArray) (hs : s.size ≤ 140737488351232) : ∀ (d x : Nat), x + d = 8 → 1 ≤ x → (∀ m, 1 ≤ m → m < x → m ≤ s.size → (bytesOf s).take m ≠ varL (low ((bytesOf s).take m))) →
    Ev (fun k => spec_ReadVar.l0 k s (x : Int)) (readN (bytesOf s)) := by
  have hnone : ∀ x, (8 ≤ x ∨ s.size < x) → (∀ m, 1 ≤ m → m < x → m ≤ s.size → (bytesOf s).take m ≠ varL (low ((bytesOf s).take m))) → readN (bytesOf s) = (0, 0) := by
    intro x hx hm
    cases hr : rdv 7 true (bytesOf s) with
    | none => exact readN_none hr
    | some p =>
      obtain ⟨n, k⟩ := p
      obtain ⟨h1, h2, h3, h4, h5, _, h7⟩ := rdv_some 7 true _ n k (bytesOf_range s) hr
      rw [bytesOf_length] at h1
      exact absurd (by rw [h4, low_varL]) (hm k h3 (by omega) h1)
  intro d
  induction d with
  | zero =>
    intro x hx h1 hm
    rw [hnone x (by omega) hm]
    refine Ev.step (spec_ReadVar.l0.eq_2 _ _) (ev_neg (by omega) ?_)
    exact Ev.step (spec_ReadVar.j1.eq_2 _ _ _) (ev_neg (by simp) (ev_now rfl))
  | succ d ih =>
    intro x hx h1 hm
    refine Ev.step (spec_ReadVar.l0.eq_2 _ _) (ev_pos (by omega) ?_)
    by_cases hsz : s.size < x
    · rw [hnone x (by omega) hm]
      exact Ev.step (spec_ReadVar.j1.eq_2 _ _ _) (ev_neg (by simp; omega) (ev_now rfl))
    · refine Ev.step (spec_ReadVar.j1.eq_2 _ _ _) (ev_pos (by simp; omega) ?_)
      have e2 : wrap64 ((x : Int) - 1) = (x : Int) - 1 := w64 (by omega) (by omega)
      rw [e2]
      have e3 : (0 : Int) = ((low (((bytesOf s).take x).drop x) : Nat) : Int) := by
        rw [List.drop_eq_nil_of_le (by rw [List.length_take]; omega)]; rfl
      rw [e3]
      refine readvar_spec_inner s x (by omega) (by omega) _ ?_ x (Nat.le_refl _)
      have hlow : low ((bytesOf s).take x) < 562949953421312 := by
        refine Nat.lt_of_lt_of_le (low_bound _) ?_
        have : ((bytesOf s).take x).length ≤ 7 := by rw [List.length_take]; omega
        exact Nat.le_trans (Nat.pow_le_pow_right (by decide) this) (by decide)
      refine Ev.bind (var_spec _ hlow) (ev_pos (by omega) (ev_pos (by omega) ?_))
      by_cases ht : (bytesOf s).take x = varL (low ((bytesOf s).take x))
      · have hr := rdv_of_take ht (by simpa using hlow)
        rw [readN_some hr, ← ht]
        have hl : ((bytesOf s).take x).length = x := by rw [List.length_take, bytesOf_length]; omega
        rw [hl]
        refine ev_pos ?_ (ev_now rfl)
        rw [toList_eq_iff]
        apply byte_ext
        rw [bytesOf_strOfNums _ (fun y hy => bytesOf_range s y (List.mem_of_mem_take hy)), bytesOf_extract]
        simp
      · refine ev_neg ?_ ?_
        · rw [toList_eq_iff]
          intro he
          have := congrArg bytesOf he
          rw [bytesOf_strOfNums _ (varL_byte _), bytesOf_extract] at this
          simp at this
          exact ht this.symm
        · have e4 : wrap64 ((x : Int) + 1) = ((x + 1 : Nat) : Int) := w64 (by omega) (by omega)
          rw [e4]
          refine ih (x + 1) (by omega) (by omega) ?_
          intro m hm1 hm2 hm3
          by_cases hmx : m = x
          · subst hmx; exact ht
          · exact hm m hm1 (by omega) hm3
theorem readvar_spec (s : ByteArray) (hs : s.size ≤ 140737488351232) : Ev (fun k => spec_ReadVar.f k s) (readN (bytesOf s)) := by
  unfold spec_ReadVar.f
  exact readvar_spec_loop s hs 7 1 (by omega) (by omega) (fun m h1 h2 => by omega)
/-- what the program's loop comes to, from a place on -/
def readFrom (n : Int) (i : Nat) (o : Option (Nat × Nat)) : Int × Int := match o with
  | some p => (n + 2 ^ (7 * i) * (p.1 : Int), ((p.2 + i : Nat) : Int))
  | none => (0, 0)
theorem readvar_impl_loop (s : ByteArray) (hs : s.size ≤ 140737488351232) : ∀ (d i : Nat) (n : Int), i + d = 7 → i ≤ s.size → 0 ≤ n → n < 2 ^ (7 * i) →
    Ev (fun k => impl_ReadVar.l0 k s n (i : Int)) (readFrom n i (rdv d (decide (i = 0)) ((bytesOf s).drop i))) := by
  intro d
  induction d with
  | zero =>
    intro i n hi hle h0 h1
    have : readFrom n i (rdv 0 (decide (i = 0)) ((bytesOf s).drop i)) = (0, 0) := rfl
    rw [this]
    by_cases hsz : (i : Int) < (s.size : Int)
    · refine Ev.step (impl_ReadVar.l0.eq_2 _ _ _) (ev_pos hsz ?_)
      exact Ev.step (impl_ReadVar.j1.eq_2 _ _ _ _) (ev_neg (by simp; omega) (ev_now rfl))
    · refine Ev.step (impl_ReadVar.l0.eq_2 _ _ _) (ev_neg hsz ?_)
      exact Ev.step (impl_ReadVar.j1.eq_2 _ _ _ _) (ev_neg (by simp) (ev_now rfl))
  | succ d ih =>
    intro i n hi hle h0 h1
    by_cases hsz : i < s.size
    · have hr := bt_range s (i : Int)
      have hdrop : (bytesOf s).drop i = bt s (i : Int) :: (bytesOf s).drop (i + 1) := by
        have hl : i < (bytesOf s).length := by rw [bytesOf_length]; exact hsz
        rw [List.drop_eq_getElem_cons hl, bt_getD, List.getD_eq_getElem?_getD, List.getElem?_eq_getElem hl]; rfl
      rw [hdrop]
      have wb : wrap64 (bt s (i : Int)) = bt s (i : Int) := wbt s _
      have f1 : (i : Int) < (s.size : Int) := by omega
      have f2 : (0 : Int) ≤ (i : Int) := by omega
      have f3 : decide ((i : Int) < 7) = true := by simp; omega
      have hw7 : (0 : Int) ≤ wrap64 (7 * (i : Int)) := by rw [w64 (by omega) (by omega)]; omega
      have hw1 : wrap64 ((i : Int) + 1) = ((i + 1 : Nat) : Int) := w64 (by omega) (by omega)
      have hP : (2 : Int) ^ (7 * (i + 1)) = 2 ^ (7 * i) * 128 := by
        have : 7 * (i + 1) = 7 * i + 7 := by omega
        rw [this, Int.pow_add]; rfl
      have hPpos : (0 : Int) < 2 ^ (7 * i) := Int.pow_pos (by decide)
      have hPmax : (2 : Int) ^ (7 * i) ≤ 4398046511104 := by
        have h7 : (2 : Nat) ^ (7 * i) ≤ 2 ^ 42 := Nat.pow_le_pow_right (by decide) (by omega)
        have e42 : (2 : Nat) ^ 42 = 4398046511104 := by decide
        rw [e42] at h7
        have : (2 : Int) ^ (7 * i) = ((2 ^ (7 * i) : Nat) : Int) := by simp
        omega
      have hshl : shl .i64 (Go.bits .and .i64 (wrap64 (bt s (i : Int))) 127) (wrap64 (7 * (i : Int))) = bt s (i : Int) % 128 * 2 ^ (7 * i) := by
        have hr' := bt_range s (i : Int)
        rw [wbt, and127 _ hr'.1 (by omega)]
        have e : wrap64 (7 * (i : Int)) = ((7 * i : Nat) : Int) := w64 (by omega) (by omega)
        rw [e]
        unfold shl
        have hm : min ((7 * i : Nat) : Int).toNat IntKind.i64.bits = 7 * i := by
          have : IntKind.i64.bits = 64 := rfl
          rw [this]; omega
        rw [hm, i64_w]
        have hlt : bt s (i : Int) % 128 * 2 ^ (7 * i) ≤ 127 * 2 ^ (7 * i) := Int.mul_le_mul_of_nonneg_right (show bt s (i : Int) % 128 ≤ 127 by omega) (Int.le_of_lt hPpos)
        have hge : 0 ≤ bt s (i : Int) % 128 * 2 ^ (7 * i) := Int.mul_nonneg (by omega) (Int.le_of_lt hPpos)
        exact w64 (by omega) (by omega)
      generalize hB : bt s (i : Int) = b at *
      have hor : Go.bits .or .i64 n (b % 128 * 2 ^ (7 * i)) = n + b % 128 * 2 ^ (7 * i) := by
        rw [or_comm', or_join (7 * i) _ _ (Int.mul_nonneg (by omega) (Int.le_of_lt hPpos)) (Int.mul_emod_left _ _) ?_ h0 h1 (by omega)]
        · omega
        · have hlt : b % 128 * 2 ^ (7 * i) ≤ 127 * 2 ^ (7 * i) := Int.mul_le_mul_of_nonneg_right (show b % 128 ≤ 127 by omega) (Int.le_of_lt hPpos)
          omega
      refine Ev.step (impl_ReadVar.l0.eq_2 _ _ _) (ev_pos f1 ?_)
      refine Ev.step (impl_ReadVar.j1.eq_2 _ _ _ _) (ev_pos f3 (ev_pos f2 (ev_pos f1 (ev_pos hw7 ?_))))
      rw [wb] at hshl
      rw [hB, wb, hshl, hor, hw1]
      clear hshl hor wb hw7 hw1 f3
      by_cases h128 : 128 ≤ b
      · refine ev_pos (by omega) ?_
        have hb' : 0 ≤ n + b % 128 * 2 ^ (7 * i) := Int.add_nonneg h0 (Int.mul_nonneg (by omega) (Int.le_of_lt hPpos))
        have hlt' : n + b % 128 * 2 ^ (7 * i) < 2 ^ (7 * (i + 1)) := by
          have : b % 128 * 2 ^ (7 * i) ≤ 127 * 2 ^ (7 * i) := Int.mul_le_mul_of_nonneg_right (by omega) (Int.le_of_lt hPpos)
          rw [hP]; omega
        have := ih (i + 1) _ (by omega) (by omega) hb' hlt'
        have hf : decide (i + 1 = 0) = false := by simp
        rw [hf] at this
        have e : readFrom n i (rdv (d + 1) (decide (i = 0)) (b :: (bytesOf s).drop (i + 1))) = readFrom (n + b % 128 * 2 ^ (7 * i)) (i + 1) (rdv d false ((bytesOf s).drop (i + 1))) := by
          rw [rdv, if_pos h128]
          cases rdv d false ((bytesOf s).drop (i + 1)) with
          | none => rfl
          | some p =>
            simp only [Option.map_some, readFrom]
            have e6 : (((b - 128).toNat + 128 * p.1 : Nat) : Int) = b % 128 + 128 * (p.1 : Int) := by omega
            rw [e6, hP]
            refine Prod.ext ?_ ?_
            · simp only
              rw [Int.mul_add, Int.mul_comm (b % 128), Int.mul_assoc, Int.add_assoc]
            · simp only
              omega
        rw [e]
        exact this
      · refine ev_neg (by omega) ?_
        have hmod : b % 128 = b := Int.emod_eq_of_lt (by omega) (by omega)
        by_cases hb0 : b = 0
        · refine ev_pos hb0 ?_
          by_cases hi0 : i = 0
          · refine ev_neg (by omega) (ev_now ?_)
            rw [rdv, if_neg h128, if_neg (by simp [hi0])]
            simp only [readFrom]
            subst hi0
            rw [hmod, hb0]
            simp
          · refine ev_pos (by omega) (ev_now ?_)
            rw [rdv, if_neg h128, if_pos (by simp [hi0, hb0])]
            rfl
        · refine ev_neg hb0 (ev_now ?_)
          rw [rdv, if_neg h128, if_neg (by simp [hb0])]
          simp only [readFrom]
          rw [hmod]
          have : ((b.toNat : Nat) : Int) = b := by omega
          rw [this, Int.mul_comm b]
          congr 2
          omega
    · have hd : (bytesOf s).drop i = [] := List.drop_eq_nil_of_le (by rw [bytesOf_length]; omega)
      rw [hd]
      have : readFrom n i (rdv (d + 1) (decide (i = 0)) []) = (0, 0) := rfl
      rw [this]
      refine Ev.step (impl_ReadVar.l0.eq_2 _ _ _) (ev_neg (by omega) ?_)
      exact Ev.step (impl_ReadVar.j1.eq_2 _ _ _ _) (ev_neg (by simp) (ev_now rfl))
theorem readvar_impl (s : ByteArray) (hs : s.size ≤ 140737488351232) : Ev (fun k => impl_ReadVar.f k s) (readN (bytesOf s)) := by
  unfold impl_ReadVar.f
  have := readvar_impl_loop s hs 7 0 0 (by omega) (by omega) (by omega) (by decide)
  have e : readFrom 0 0 (rdv 7 (decide (0 = 0)) ((bytesOf s).drop 0)) = readN (bytesOf s) := by
    simp only [List.drop_zero, decide_true]
    unfold readN
    cases rdv 7 true (bytesOf s) with
    | none => rfl
    | some p => simp [readFrom]
  rw [← e]
  exact this

/-! ## section l8vars -/
theorem extract_bytes (s : ByteArray) (x : Nat) : bytesOf (s.extract x s.size) = (bytesOf s).drop x := by
  rw [bytesOf_extract]
  apply List.take_of_length_le
  rw [List.length_drop, bytesOf_length]; omega
theorem extract_size_le (s : ByteArray) (x : Nat) : (s.extract x s.size).size ≤ s.size := by
  rw [ByteArray.size_extract]; omega
/-- so many Vars from a place on; and where they end, -1 where one is none -/
def varsAt (l : List Int) (x : Int) : Nat → List Int → List Int × Int
  | 0, acc => (acc, x)
  | n + 1, acc => if x < 0 ∨ (l.length : Int) < x then (acc, -1) else
      match rdv 7 true (l.drop x.toNat) with
      | some p => varsAt l (x + (p.2 : Int)) n (acc ++ [(p.1 : Int)])
      | none => (acc, -1)
theorem l8vars_loop (s : ByteArray) (hs : s.size ≤ 140737488351232) (m : Nat) (hm : m ≤ 1000) : ∀ (d i : Nat) (x : Int) (acc : List Int), i + d = m → acc.length = i → (x ≤ 140737488351232 ∧ -1 ≤ x) →
    Ev (fun k => spec_l8Vars.l0 k s x (m : Int) acc (i : Int)) (varsAt (bytesOf s) x d acc) := by
  intro d
  induction d with
  | zero =>
    intro i x acc hi ha hx
    exact Ev.step (spec_l8Vars.l0.eq_2 _ _ _ _ _) (ev_neg (by omega) (ev_now rfl))
  | succ d ih =>
    intro i x acc hi ha hx
    rw [varsAt, bytesOf_length]
    refine Ev.step (spec_l8Vars.l0.eq_2 _ _ _ _ _) (ev_pos (by omega) ?_)
    by_cases h0 : x < 0
    · rw [if_pos (.inl h0)]
      exact ev_pos h0 (Ev.step (spec_l8Vars.j1.eq_2 _ _ _ _ _ _) (ev_pos rfl (ev_now rfl)))
    · refine ev_neg h0 ?_
      by_cases h1 : (s.size : Int) < x
      · rw [if_pos (.inr h1)]
        exact Ev.step (spec_l8Vars.j1.eq_2 _ _ _ _ _ _) (ev_pos (decide_eq_true h1) (ev_now rfl))
      · rw [if_neg (by omega)]
        refine Ev.step (spec_l8Vars.j1.eq_2 _ _ _ _ _ _) (ev_neg (by simp; omega) (ev_pos (by omega) (ev_pos (by omega) ?_)))
        refine Ev.bind (readvar_spec _ (Nat.le_trans (extract_size_le s x.toNat) hs)) ?_
        rw [extract_bytes]
        cases hr : rdv 7 true ((bytesOf s).drop x.toNat) with
        | none =>
          rw [readN_none hr]
          exact ev_pos rfl (ev_now rfl)
        | some p =>
          obtain ⟨n, k⟩ := p
          have hf := rdv_some 7 true _ n k (fun y hy => bytesOf_range s y (List.mem_of_mem_drop hy)) hr
          obtain ⟨q1, q2, q3, _, _, _, _⟩ := hf
          rw [List.length_drop, bytesOf_length] at q1
          rw [readN_some hr]
          refine ev_neg (by simp only; omega) (ev_pos (by omega) ?_)
          have e1 : wrap64 (x + (k : Int)) = x + (k : Int) := w64 (by omega) (by omega)
          have e2 : wrap64 ((i : Int) + 1) = ((i + 1 : Nat) : Int) := w64 (by omega) (by omega)
          simp only
          rw [e1, e2]
          exact ih (i + 1) (x + (k : Int)) (acc ++ [(n : Int)]) (by omega) (by simp; omega) (by omega)
theorem l8vars_spec (s : ByteArray) (hs : s.size ≤ 140737488351232) (x : Int) (hx : x ≤ 140737488351232 ∧ -1 ≤ x) (m : Nat) (hm : m ≤ 1000) : Ev (fun k => spec_l8Vars.f k s x (m : Int)) (varsAt (bytesOf s) x m []) := by
  unfold spec_l8Vars.f
  exact l8vars_loop s hs m hm m 0 x [] (by omega) rfl hx

/-! ## section readcallD -/
/-- the number of which signN makes one -/
def unN (z : Nat) : Int := if z % 2 = 1 then -(((z + 1) / 2 : Nat) : Int) else ((z / 2 : Nat) : Int)
theorem signN_unN (z : Nat) : signN (unN z) = z := by
  unfold signN unN
  repeat' split
  all_goals omega
theorem unN_tdiv (z : Nat) (hz : z < 562949953421312) : (if (Int.tmod (z : Int) 2) = 1 then (some (wrap64 (Int.tdiv (wrap64 (-(wrap64 ((z : Int) + 1)))) 2))) else (some (wrap64 (Int.tdiv (z : Int) 2)))) = some (unN z) := by
  have e1 : Int.tmod (z : Int) 2 = ((z % 2 : Nat) : Int) := by rw [Int.tmod_eq_emod_of_nonneg (by omega)]; omega
  have e2 : Int.tdiv (z : Int) 2 = ((z / 2 : Nat) : Int) := by rw [Int.tdiv_eq_ediv_of_nonneg (by omega)]; omega
  have e3 : wrap64 ((z : Int) + 1) = ((z + 1 : Nat) : Int) := by rw [w64 (by omega) (by omega)]; omega
  have e4 : Int.tdiv (-((z + 1 : Nat) : Int)) 2 = -(((z + 1) / 2 : Nat) : Int) := by
    rw [Int.neg_tdiv, Int.tdiv_eq_ediv_of_nonneg (by omega)]; omega
  unfold unN
  rw [e1, e2, e3]
  by_cases h : z % 2 = 1
  · rw [if_pos (by omega), if_pos h, w64 (n := -((z + 1 : Nat) : Int)) (by omega) (by omega), e4, w64 (by omega) (by omega)]
  · rw [if_neg (by omega), if_neg h, w64 (by omega) (by omega)]
/-- a Var from a place on, and where it ends; none: it stands not there -/
def pnum (L : List Int) : Option Nat → Nat × Option Nat
  | none => (0, none)
  | some p => match rdv 7 true (L.drop p) with
    | some q => (q.1, some (p + q.2))
    | none => (0, none)
theorem pnum_yes {L : List Int} {p : Nat} {q : Nat × Nat} (h : rdv 7 true (L.drop p) = some q) : pnum L (some p) = (q.1, some (p + q.2)) := by simp only [pnum, h]
theorem pnum_no {L : List Int} {p : Nat} (h : rdv 7 true (L.drop p) = none) : pnum L (some p) = (0, none) := by simp only [pnum, h]
/-- a piece from a place on -/
def ptake (s : ByteArray) (o : Option Nat) : ByteArray × Option Nat :=
  match (pnum (bytesOf s) o).2 with
  | some p => if (pnum (bytesOf s) o).1 + p ≤ s.size then (s.extract p (p + (pnum (bytesOf s) o).1), some (p + (pnum (bytesOf s) o).1)) else (⟨#[]⟩, none)
  | none => (⟨#[]⟩, none)
def posI : Option Nat → Int
  | some p => (p : Int)
  | none => -1
def inside (s : ByteArray) : Option Nat → Prop
  | some p => p ≤ s.size
  | none => True
theorem pnum_in (s : ByteArray) (o : Option Nat) (h : inside s o) : inside s (pnum (bytesOf s) o).2 := by
  cases o with
  | none => trivial
  | some p =>
    cases hr : rdv 7 true ((bytesOf s).drop p) with
    | none => rw [pnum_no hr]; trivial
    | some q =>
      rw [pnum_yes hr]
      obtain ⟨n, k⟩ := q
      obtain ⟨q1, _⟩ := rdv_some 7 true _ n k (fun y hy => bytesOf_range s y (List.mem_of_mem_drop hy)) hr
      rw [List.length_drop, bytesOf_length] at q1
      have : p ≤ s.size := h
      show p + k ≤ s.size
      omega
theorem ptake_in (s : ByteArray) (o : Option Nat) : inside s (ptake s o).2 := by
  unfold ptake
  cases h : (pnum (bytesOf s) o).2 with
  | none => trivial
  | some p =>
    simp only
    split
    · show p + _ ≤ s.size; omega
    · trivial
/-- what was read stands there as it is written -/
theorem pnum_back (s : ByteArray) (o : Option Nat) (q : Nat) (hi : inside s o) (h : (pnum (bytesOf s) o).2 = some q) :
    ∃ p, o = some p ∧ p < q ∧ q ≤ s.size ∧ (pnum (bytesOf s) o).1 < 562949953421312 ∧ (bytesOf s).take q = (bytesOf s).take p ++ varL (pnum (bytesOf s) o).1 := by
  have hin := pnum_in s o hi
  rw [h] at hin
  cases o with
  | none => exact absurd h (by simp [pnum])
  | some p =>
    refine ⟨p, rfl, ?_⟩
    cases hr : rdv 7 true ((bytesOf s).drop p) with
    | none => rw [pnum_no hr] at h; exact absurd h (by simp)
    | some x =>
      obtain ⟨n, k⟩ := x
      rw [pnum_yes hr] at h ⊢
      simp only [Option.some.injEq] at h
      obtain ⟨q1, q2, q3, q4, q5, _, q7⟩ := rdv_some 7 true _ n k (fun y hy => bytesOf_range s y (List.mem_of_mem_drop hy)) hr
      refine ⟨by omega, hin, by simpa using q5, ?_⟩
      simp only
      rw [← h, ← q4, List.take_add]
theorem ptake_back (s : ByteArray) (o : Option Nat) (q : Nat) (hi : inside s o) (h : (ptake s o).2 = some q) :
    ∃ p, o = some p ∧ p < q ∧ q ≤ s.size ∧ (bytesOf s).take q = (bytesOf s).take p ++ bytesOf (pieceB (ptake s o).1) := by
  unfold ptake at h ⊢
  cases hp : (pnum (bytesOf s) o).2 with
  | none => rw [hp] at h; exact absurd h (by simp)
  | some x =>
    obtain ⟨p, h1, h2, h3, h4, h5⟩ := pnum_back s o x hi hp
    rw [hp] at h
    simp only at h ⊢
    by_cases hc : (pnum (bytesOf s) o).1 + x ≤ s.size
    · rw [if_pos hc] at h ⊢
      simp only [Option.some.injEq] at h
      refine ⟨p, h1, by omega, by omega, ?_⟩
      have es : (s.extract x (x + (pnum (bytesOf s) o).1)).size = (pnum (bytesOf s) o).1 := by rw [ByteArray.size_extract]; omega
      unfold pieceB
      rw [bytesOf_append, bytesOf_strOfNums _ (varL_byte _), es, ← List.append_assoc, ← h5, ← h, List.take_add, bytesOf_extract]
      congr 2
      try omega
    · rw [if_neg hc] at h
      exact absurd h (by simp)
theorem pnum_none (L : List Int) : pnum L none = (0, none) := rfl
theorem ptake_none (s : ByteArray) : ptake s none = (⟨#[]⟩, none) := rfl
/-- what is read of a call -/
def readCallN (s : ByteArray) : Int × ByteArray × ByteArray × Int × Int × ByteArray × Bool :=
  let a := pnum (bytesOf s) (some 0)
  let b := ptake s a.2
  let c := ptake s b.2
  let d := pnum (bytesOf s) c.2
  let e := pnum (bytesOf s) d.2
  let f := ptake s e.2
  if f.2 = some s.size ∧ callB (a.1 : Int) b.1 c.1 (unN d.1) (unN e.1) f.1 = true then ((a.1 : Int), b.1, c.1, unN d.1, unN e.1, f.1, true) else (0, ⟨#[]⟩, ⟨#[]⟩, 0, 0, ⟨#[]⟩, false)

/-! ## section readcallS -/
theorem varsAt_one (s : ByteArray) (o : Option Nat) (hi : inside s o) : varsAt (bytesOf s) (posI o) 1 [] = (match (pnum (bytesOf s) o).2 with | some _ => [((pnum (bytesOf s) o).1 : Int)] | none => [], posI (pnum (bytesOf s) o).2) := by
  cases o with
  | none => rw [varsAt, if_pos (.inl (by decide))]; rfl
  | some p =>
    have hp : p ≤ s.size := hi
    have e : posI (some p) = (p : Int) := rfl
    have e2 : ((p : Nat) : Int).toNat = p := rfl
    rw [varsAt, e, if_neg (by rw [bytesOf_length]; omega), e2]
    cases hr : rdv 7 true ((bytesOf s).drop p) with
    | none => rw [pnum_no hr]; rfl
    | some q => rw [pnum_yes hr]; simp [varsAt, posI]
theorem varsAt_two (s : ByteArray) (o : Option Nat) (hi : inside s o) (q : Nat) (h : (pnum (bytesOf s) (pnum (bytesOf s) o).2).2 = some q) : varsAt (bytesOf s) (posI o) 2 [] = ([((pnum (bytesOf s) o).1 : Int), ((pnum (bytesOf s) (pnum (bytesOf s) o).2).1 : Int)], (q : Int)) := by
  cases o with
  | none => exact absurd h (by simp [pnum])
  | some p =>
    have hp : p ≤ s.size := hi
    have e : posI (some p) = (p : Int) := rfl
    have e2 : ((p : Nat) : Int).toNat = p := rfl
    have hin := pnum_in s (some p) hi
    rw [varsAt, e, if_neg (by rw [bytesOf_length]; omega), e2]
    cases hr : rdv 7 true ((bytesOf s).drop p) with
    | none => rw [pnum_no hr] at h; exact absurd h (by simp [pnum])
    | some x =>
      rw [pnum_yes hr] at h hin ⊢
      simp only at h hin ⊢
      have hx : p + x.2 ≤ s.size := hin
      have e3 : ((p : Int) + (x.2 : Int)).toNat = p + x.2 := by omega
      rw [varsAt, if_neg (by rw [bytesOf_length]; omega), e3]
      cases hr2 : rdv 7 true ((bytesOf s).drop (p + x.2)) with
      | none => rw [pnum_no hr2] at h; exact absurd h (by simp)
      | some y =>
        rw [pnum_yes hr2] at h ⊢
        simp only [Option.some.injEq] at h
        simp only [varsAt, List.nil_append, List.cons_append]
        rw [← h]; simp <;> omega
theorem varsAt_two_none (s : ByteArray) (o : Option Nat) (hi : inside s o) (h : (pnum (bytesOf s) (pnum (bytesOf s) o).2).2 = none) : (varsAt (bytesOf s) (posI o) 2 []).2 = -1 := by
  cases o with
  | none => rw [varsAt, if_pos (.inl (by decide))]
  | some p =>
    have hp : p ≤ s.size := hi
    have e : posI (some p) = (p : Int) := rfl
    have e2 : ((p : Nat) : Int).toNat = p := rfl
    have hin := pnum_in s (some p) hi
    rw [varsAt, e, if_neg (by rw [bytesOf_length]; omega), e2]
    cases hr : rdv 7 true ((bytesOf s).drop p) with
    | none => rfl
    | some x =>
      rw [pnum_yes hr] at h hin
      simp only at h hin ⊢
      have hx : p + x.2 ≤ s.size := hin
      have e3 : ((p : Int) + (x.2 : Int)).toNat = p + x.2 := by omega
      rw [varsAt, if_neg (by rw [bytesOf_length]; omega), e3]
      cases hr2 : rdv 7 true ((bytesOf s).drop (p + x.2)) with
      | none => rfl
      | some y => rw [pnum_yes hr2] at h; exact absurd h (by simp)
theorem posI_in (s : ByteArray) (hs : s.size ≤ 140737488351232) (o : Option Nat) (hi : inside s o) : posI o ≤ 140737488351232 ∧ -1 ≤ posI o := by
  cases o with
  | none => exact ⟨by decide, by decide⟩
  | some p => have : p ≤ s.size := hi; show (p : Int) ≤ _ ∧ _ ≤ (p : Int); omega
theorem take_spec (s : ByteArray) (hs : s.size ≤ 140737488351232) (o : Option Nat) (hi : inside s o) : Ev (fun k => spec_l8Take.f k s (posI o)) ((ptake s o).1, posI (ptake s o).2) := by
  unfold spec_l8Take.f
  have hv := l8vars_spec s hs (posI o) (posI_in s hs o hi) 1 (by omega)
  rw [varsAt_one s o hi] at hv
  refine Ev.bind hv ?_
  have hin := pnum_in s o hi
  unfold ptake
  cases hp : (pnum (bytesOf s) o).2 with
  | none => exact ev_pos (show (-1 : Int) < 0 by decide) (ev_now rfl)
  | some x =>
    rw [hp] at hin
    have hx : x ≤ s.size := hin
    obtain ⟨p, h1, h2, h3, h4, h5⟩ := pnum_back s o x hi hp
    have e : posI (some x) = (x : Int) := rfl
    have e0 : rd [((pnum (bytesOf s) o).1 : Int)] 0 = ((pnum (bytesOf s) o).1 : Int) := rfl
    simp only [e, e0]
    refine ev_neg (by omega) (ev_pos (by simp) ?_)
    have w1 : wrap64 ((s.size : Int) - (x : Int)) = ((s.size - x : Nat) : Int) := by rw [w64 (by omega) (by omega)]; omega
    have w2 : wrap64 ((x : Int) + ((pnum (bytesOf s) o).1 : Int)) = ((x + (pnum (bytesOf s) o).1 : Nat) : Int) := by rw [w64 (by omega) (by omega)]; omega
    rw [w1, w2]
    by_cases hc : (pnum (bytesOf s) o).1 + x ≤ s.size
    · rw [if_pos hc]
      exact ev_neg (by omega) (ev_pos (by omega) (ev_pos (by omega) (ev_pos (by omega) (ev_now rfl))))
    · rw [if_neg hc]
      exact ev_pos (by omega) (ev_now rfl)
theorem l8Number_eq (z : Nat) (hz : z < 562949953421312) : spec_l8Number.f (z : Int) = some (unN z) := by
  unfold spec_l8Number.f
  exact unN_tdiv z hz
theorem take_all_size {s : ByteArray} {p : Nat} (t : ByteArray) (hp : p ≤ s.size) (h : (bytesOf s).take p = bytesOf t) : t = s ↔ p = s.size := by
  constructor
  · rintro rfl
    have := congrArg List.length h
    rw [List.length_take, bytesOf_length] at this
    omega
  · intro e
    apply byte_ext
    rw [← h, e, List.take_of_length_le (by rw [bytesOf_length]; omega)]
theorem readcall_spec (s : ByteArray) (hs : s.size ≤ 140737488351232) : Ev (fun k => spec_ReadCall.f k s) (readCallN s) := by
  unfold spec_ReadCall.f readCallN
  have i0 : inside s (some 0) := Nat.zero_le _
  have ha := l8vars_spec s hs (posI (some 0)) (posI_in s hs _ i0) 1 (by omega)
  rw [varsAt_one s _ i0] at ha
  refine Ev.bind ha ?_
  have i1 := pnum_in s (some 0) i0
  simp only
  generalize hA : pnum (bytesOf s) (some 0) = a at i1 ⊢
  refine Ev.bind (take_spec s hs a.2 i1) ?_
  have i2 := ptake_in s a.2
  generalize hB : ptake s a.2 = b at i2 ⊢
  refine Ev.bind (take_spec s hs b.2 i2) ?_
  have i3 := ptake_in s b.2
  generalize hC : ptake s b.2 = c at i3 ⊢
  refine Ev.bind (l8vars_spec s hs (posI c.2) (posI_in s hs _ i3) 2 (by omega)) ?_
  have i4 := pnum_in s c.2 i3
  have i5 := pnum_in s _ i4
  cases hE : (pnum (bytesOf s) (pnum (bytesOf s) c.2).2).2 with
  | none =>
    rw [varsAt_two_none s c.2 i3 hE]
    refine Ev.bind (take_spec s hs none trivial) ?_
    rw [ptake_none]
    refine ev_pos (show (-1 : Int) < 0 by decide) (ev_now ?_)
    rw [if_neg (by simp)]
  | some q =>
    rw [varsAt_two s c.2 i3 q hE]
    rw [hE] at i5
    refine Ev.bind (take_spec s hs (some q) i5) ?_
    have i6 := ptake_in s (some q)
    generalize hF : ptake s (some q) = f at i6 ⊢
    obtain ⟨f1, f2⟩ := f
    cases f2 with
    | none =>
      refine ev_pos (show (-1 : Int) < 0 by decide) (ev_now ?_)
      rw [if_neg (by simp)]
    | some z =>
      have hF2 : (ptake s (some q)).2 = some z := by rw [hF]
      obtain ⟨_, e1, l1, m1, t1⟩ := ptake_back s (some q) z i5 hF2
      cases e1
      obtain ⟨p2, e2, l2, m2, n2, t2⟩ := pnum_back s _ q i4 hE
      obtain ⟨p3, e3, l3, m3, n3, t3⟩ := pnum_back s _ _ i3 e2
      have e3' : (ptake s b.2).2 = some p3 := by rw [hC]; exact e3
      obtain ⟨p4, e4, l4, m4, t4⟩ := ptake_back s _ _ i2 e3'
      have e4' : (ptake s a.2).2 = some p4 := by rw [hB]; exact e4
      obtain ⟨p5, e5, l5, m5, t5⟩ := ptake_back s _ _ i1 e4'
      have e5' : (pnum (bytesOf s) (some 0)).2 = some p5 := by rw [hA]; exact e5
      obtain ⟨_, e6, l6, m6, n6, t6⟩ := pnum_back s _ _ i0 e5'
      cases e6
      rw [hA] at t6 n6
      rw [hB] at t5
      rw [hC] at t4
      rw [hF] at t1
      simp only at t1
      have g0 : posI (some z) = (z : Int) := rfl
      simp only [e5, g0]
      have r0 : rd [((a.1 : Nat) : Int)] 0 = (a.1 : Int) := rfl
      have r1 : rd [((pnum (bytesOf s) c.2).1 : Int), ((pnum (bytesOf s) (pnum (bytesOf s) c.2).2).1 : Int)] 0 = ((pnum (bytesOf s) c.2).1 : Int) := rfl
      have r2 : rd [((pnum (bytesOf s) c.2).1 : Int), ((pnum (bytesOf s) (pnum (bytesOf s) c.2).2).1 : Int)] 1 = ((pnum (bytesOf s) (pnum (bytesOf s) c.2).2).1 : Int) := rfl
      rw [r0, r1, r2]
      refine ev_neg (by omega) (ev_pos (by simp) (ev_pos (by simp) (ev_of (l8Number_eq _ n3) (ev_pos (by simp) (ev_of (l8Number_eq _ n2) (Ev.bind (showcall_spec _ _ _ _ _ _) ?_))))))
      unfold showCallB
      by_cases hc : callB (a.1 : Int) b.1 c.1 (unN (pnum (bytesOf s) c.2).1) (unN (pnum (bytesOf s) (pnum (bytesOf s) c.2).2).1) f1 = true
      · rw [if_pos hc]
        have g1 : ((a.1 : Nat) : Int).toNat = a.1 := rfl
        have ht := (take_all_size (s := s) (p := z) (((((strOfNums (varL a.1) ++ pieceB b.1) ++ pieceB c.1) ++ strOfNums (varL (pnum (bytesOf s) c.2).1)) ++ strOfNums (varL (pnum (bytesOf s) (pnum (bytesOf s) c.2).2).1)) ++ pieceB f1) m1 (by
          simp only [bytesOf_append, bytesOf_strOfNums _ (varL_byte _)]
          rw [t1, t2, t3, t4, t5, t6]
          simp))
        rw [g1, signN_unN, signN_unN]
        by_cases hz : z = s.size
        · refine ev_pos (toList_eq_iff.2 (ht.2 hz)) (ev_now ?_)
          rw [if_pos ⟨by rw [hz], hc⟩]
        · refine ev_neg (fun h => hz (ht.1 (toList_eq_iff.1 h))) (ev_now ?_)
          rw [if_neg (fun h => hz (Option.some.inj h.1))]
      · rw [if_neg hc]
        refine ev_neg (fun h => ?_) (ev_now (by rw [if_neg (fun h => hc h.2)]))
        have := congrArg ByteArray.size (toList_eq_iff.1 h)
        have g2 : (⟨#[]⟩ : ByteArray).size = 0 := rfl
        omega

/-! ## section readcallI -/
/-- the reader stands at a place, or has seen what is no number -/
def stands (s : ByteArray) (o : Option Nat) (rest : ByteArray) (bad : Bool) : Prop := match o with
  | some p => p ≤ s.size ∧ rest = s.extract p s.size ∧ bad = false
  | none => bad = true ∧ rest.size ≤ s.size
theorem extract_extract (s : ByteArray) (p k : Nat) : (s.extract p s.size).extract k (s.extract p s.size).size = s.extract (p + k) s.size := by
  apply byte_ext
  rw [extract_bytes, extract_bytes, extract_bytes, List.drop_drop]
theorem num_impl (s : ByteArray) (hs : s.size ≤ 140737488351232) (o : Option Nat) (rest : ByteArray) (bad : Bool) (h : stands s o rest bad) :
    ∃ rest' bad', Ev (fun k => impl_reader_num.f k rest bad) (((pnum (bytesOf s) o).1 : Int), rest', bad') ∧ stands s (pnum (bytesOf s) o).2 rest' bad' := by
  unfold impl_reader_num.f
  cases o with
  | none =>
    obtain ⟨rfl, h2⟩ := h
    exact ⟨rest, true, Ev.bind (readvar_impl rest (by omega)) (ev_pos rfl (ev_now rfl)), rfl, h2⟩
  | some p =>
    obtain ⟨h1, rfl, rfl⟩ := h
    have hz : (s.extract p s.size).size = s.size - p := by rw [ByteArray.size_extract]; omega
    have hv := readvar_impl (s.extract p s.size) (by omega)
    rw [extract_bytes] at hv
    cases hr : rdv 7 true ((bytesOf s).drop p) with
    | none =>
      rw [readN_none hr] at hv
      rw [pnum_no hr]
      exact ⟨s.extract p s.size, true, Ev.bind hv (ev_neg (by simp) (ev_pos rfl (ev_now rfl))), rfl, by omega⟩
    | some q =>
      obtain ⟨n, k⟩ := q
      rw [readN_some hr] at hv
      rw [pnum_yes hr]
      obtain ⟨q1, q2, q3, q4, q5, _, q7⟩ := rdv_some 7 true _ n k (fun y hy => bytesOf_range s y (List.mem_of_mem_drop hy)) hr
      rw [List.length_drop, bytesOf_length] at q1
      refine ⟨s.extract (p + k) s.size, false, Ev.bind hv (ev_neg (by simp) (ev_neg (by simp only; omega) (ev_pos (by simp only; omega) (ev_pos (by simp only; omega) (ev_now ?_))))), by omega, rfl, rfl⟩
      have e : ((k : Nat) : Int).toNat = k := rfl
      simp only [e]
      rw [extract_extract]
theorem piece_impl' (s : ByteArray) (hs : s.size ≤ 140737488351232) (o : Option Nat) (rest : ByteArray) (bad : Bool) (h : stands s o rest bad) :
    ∃ rest' bad', Ev (fun k => impl_reader_piece.f k rest bad) ((ptake s o).1, rest', bad') ∧ stands s (ptake s o).2 rest' bad' := by
  unfold impl_reader_piece.f
  obtain ⟨r1, b1, h1, h2⟩ := num_impl s hs o rest bad h
  have hx : ∃ rest' bad', impl_reader_text.f r1 b1 ((pnum (bytesOf s) o).1 : Int) = some ((ptake s o).1, rest', bad') ∧ stands s (ptake s o).2 rest' bad' := by
    unfold impl_reader_text.f ptake
    cases hp : (pnum (bytesOf s) o).2 with
    | none =>
      rw [hp] at h2
      obtain ⟨rfl, h3⟩ := h2
      exact ⟨r1, true, by rw [if_pos rfl], rfl, h3⟩
    | some p =>
      rw [hp] at h2
      obtain ⟨h3, rfl, rfl⟩ := h2
      have hz : (s.extract p s.size).size = s.size - p := by rw [ByteArray.size_extract]; omega
      rw [if_neg (by simp)]
      simp only
      by_cases hc : (pnum (bytesOf s) o).1 + p ≤ s.size
      · rw [if_pos hc, if_neg (by omega), if_pos (by omega), if_pos (by omega)]
        have e : (((pnum (bytesOf s) o).1 : Nat) : Int).toNat = (pnum (bytesOf s) o).1 := rfl
        refine ⟨s.extract (p + (pnum (bytesOf s) o).1) s.size, false, ?_, by omega, rfl, rfl⟩
        rw [e, extract_extract]
        have e2 : (s.extract p s.size).extract 0 (pnum (bytesOf s) o).1 = s.extract p (p + (pnum (bytesOf s) o).1) := by
          apply byte_ext
          rw [bytesOf_extract, extract_bytes, bytesOf_extract]
          simp
        rw [e2]
      · rw [if_neg hc, if_pos (by omega)]
        exact ⟨_, true, rfl, rfl, by omega⟩
  obtain ⟨r2, b2, h3, h4⟩ := hx
  exact ⟨r2, b2, Ev.bind h1 (ev_of h3 (ev_now rfl)), h4⟩
theorem unsigned_eq (z : Nat) (hz : z < 562949953421312) : impl_unsigned.f (z : Int) = some (unN z) := by
  unfold impl_unsigned.f
  exact unN_tdiv z hz
theorem pnum_lt (s : ByteArray) (o : Option Nat) : (pnum (bytesOf s) o).1 < 562949953421312 := by
  cases o with
  | none => simp [pnum]
  | some p =>
    cases hr : rdv 7 true ((bytesOf s).drop p) with
    | none => rw [pnum_no hr]; decide
    | some q =>
      rw [pnum_yes hr]
      obtain ⟨n, k⟩ := q
      obtain ⟨q1, q2, q3, q4, q5, _, q7⟩ := rdv_some 7 true _ n k (fun y hy => bytesOf_range s y (List.mem_of_mem_drop hy)) hr
      simpa using q5
theorem readcall_impl (s : ByteArray) (hs : s.size ≤ 140737488351232) : Ev (fun k => impl_ReadCall.f k s) (readCallN s) := by
  unfold impl_ReadCall.f readCallN
  have s0 : stands s (some 0) s false := ⟨Nat.zero_le _, byte_ext (by rw [extract_bytes]; rfl), rfl⟩
  obtain ⟨r1, b1, v1, s1⟩ := num_impl s hs _ _ _ s0
  simp only
  generalize hA : pnum (bytesOf s) (some 0) = a at v1 s1 ⊢
  obtain ⟨r2, b2, v2, s2⟩ := piece_impl' s hs _ _ _ s1
  generalize hB : ptake s a.2 = b at v2 s2 ⊢
  obtain ⟨r3, b3, v3, s3⟩ := piece_impl' s hs _ _ _ s2
  generalize hC : ptake s b.2 = c at v3 s3 ⊢
  obtain ⟨r4, b4, v4, s4⟩ := num_impl s hs _ _ _ s3
  have n4 := pnum_lt s c.2
  generalize hD : pnum (bytesOf s) c.2 = d at v4 s4 n4 ⊢
  obtain ⟨r5, b5, v5, s5⟩ := num_impl s hs _ _ _ s4
  have n5 := pnum_lt s d.2
  generalize hE : pnum (bytesOf s) d.2 = e at v5 s5 n5 ⊢
  obtain ⟨r6, b6, v6, s6⟩ := piece_impl' s hs _ _ _ s5
  generalize hF : ptake s e.2 = f at v6 s6 ⊢
  refine Ev.bind v1 (Ev.bind v2 (Ev.bind v3 (Ev.bind v4 (ev_of (unsigned_eq _ n4) (Ev.bind v5 (ev_of (unsigned_eq _ n5) (Ev.bind v6 ?_)))))))
  obtain ⟨f1, f2⟩ := f
  cases f2 with
  | none =>
    obtain ⟨rfl, _⟩ := s6
    rw [if_neg (by simp)]
    exact ev_pos rfl (ev_now rfl)
  | some z =>
    obtain ⟨h1, rfl, rfl⟩ := s6
    refine ev_neg (by simp) ?_
    have hz : (s.extract z s.size).size = s.size - z := by rw [ByteArray.size_extract]; omega
    by_cases hq : z = s.size
    · refine ev_pos ?_ (Ev.bind (callok_impl _ _ _ _ _ _) ?_)
      · rw [toList_iff, extract_bytes, List.drop_of_length_le (by rw [bytesOf_length]; omega)]; rfl
      · by_cases hc : callB (a.1 : Int) b.1 c.1 (unN d.1) (unN e.1) f1 = true
        · refine ev_pos hc (ev_now ?_)
          rw [if_pos ⟨by rw [hq], hc⟩]
        · refine ev_neg hc (ev_now ?_)
          rw [if_neg (fun h => hc h.2)]
    · rw [if_neg (fun h => hq (Option.some.inj h.1))]
      refine ev_neg (fun h => ?_) (ev_now rfl)
      rw [toList_iff, extract_bytes] at h
      have := congrArg List.length h
      rw [List.length_drop, bytesOf_length] at this
      simp at this
      omega

/-! ## section FnExactReadCall -/
theorem FnExactReadCall : laws_FnExactReadCall.Pure := by
  intro s hs
  unfold laws_FnExactReadCall.f
  refine Ev.rounds (r := true) ?_
  by_cases h : (s.size : Int) > 1048576
  · exact ev_pos h (ev_now rfl)
  · refine ev_neg h (Ev.bind (readcall_spec s hs) (Ev.bind (readcall_impl s hs) ?_))
    generalize readCallN s = z
    have e : laws_eqCall.f z.1 z.2.1 z.2.2.1 z.2.2.2.1 z.2.2.2.2.1 z.2.2.2.2.2.1 z.1 z.2.1 z.2.2.1 z.2.2.2.1 z.2.2.2.2.1 z.2.2.2.2.2.1 = some true := by
      unfold laws_eqCall.f; simp
    exact ev_of e (ev_pos rfl (ev_neg (by simp) (ev_now rfl)))

end Go.Proofs.Ytgpcgfmmmnmfhaa.Pure
