/- The law FnNumbers answers true for every input: the statement over numbers and lists, proved. Conditions: none beyond the bounds of the arguments' kinds. -/
import Derived.Test.YtgpcgfmmmnmfhaaStmFnNumbers
import Derived.Test.YtgpcgfmmmnmfhaaMath
import Derived.Test.YtgpcgfmmmnmfhaaStr
namespace Go.Proofs.Ytgpcgfmmmnmfhaa.Pure
open Go.RowKit Go.Proofs.Ytgpcgfmmmnmfhaa.PFnNumbers Go.Proofs.YtgpcgfmmmnmfhaaW.PrintWords Go.Proofs.YtgpcgfmmmnmfhaaW.PrintLast Go.Proofs.YtgpcgfmmmnmfhaaW.PrintMore Go.Proofs.Ytgpcgfmmmnmfhaa.Mth Go.Proofs.Ytgpcgfmmmnmfhaa.Str

set_option linter.unusedVariables false
set_option linter.unusedSimpArgs false
/-! ## section within -/
theorem within_eq (a b c : Int) : impl_within.f a b c = some (decide (b ≤ a ∧ a ≤ c)) := by
  unfold impl_within.f
  by_cases h : a ≥ b
  · rw [if_pos h]; have : b ≤ a := h; simp [this]
  · rw [if_neg h]; have : ¬ b ≤ a := h; simp [this]

/-! ## section l1In -/
theorem l1In_eq (a b c : Int) : spec_l1In.f a b c = some (decide (b ≤ a ∧ a ≤ c)) := by
  unfold spec_l1In.f
  by_cases h : a ≥ b
  · rw [if_pos h]; have : b ≤ a := h; simp [this]
  · rw [if_neg h]; have : ¬ b ≤ a := h; simp [this]

/-! ## section varS -/
theorem var_spec_loop : ∀ (d n : Nat) (acc : List Int), n < 128 ^ (d + 1) → n < 562949953421312 → acc.length + d < 140737488355328 → Ev (fun k => spec_Var.l0 k (n : Int) acc) (strOfNums (acc ++ varL n)) := by
  intro d
  induction d with
  | zero =>
    intro n acc hn hb ha
    have h1 : n < 128 := by simpa using hn
    refine Ev.step (spec_Var.l0.eq_2 _ _) (ev_neg (by omega) (ev_pos (by omega) (ev_now ?_)))
    rw [varL_lt h1, Int.emod_eq_of_lt (by omega) (by omega)]
  | succ d ih =>
    intro n acc hn hb ha
    by_cases h1 : n < 128
    · refine Ev.step (spec_Var.l0.eq_2 _ _) (ev_neg (by omega) (ev_pos (by omega) (ev_now ?_)))
      rw [varL_lt h1, Int.emod_eq_of_lt (by omega) (by omega)]
    · refine Ev.step (spec_Var.l0.eq_2 _ _) (ev_pos (by omega) (ev_pos (by omega) ?_))
      have hd : wrap64 ((n : Int).tdiv 128) = ((n / 128 : Nat) : Int) := by
        rw [Int.tdiv_eq_ediv_of_nonneg (by omega)]
        unfold wrap64; omega
      have hm : wrap64 (128 + (n : Int).tmod 128) % 256 = ((128 + n % 128 : Nat) : Int) := by
        rw [Int.tmod_eq_emod_of_nonneg (by omega)]
        unfold wrap64; omega
      rw [hd, hm]
      have := ih (n / 128) (acc ++ [((128 + n % 128 : Nat) : Int)]) (by rw [Nat.pow_succ] at hn; omega) (by omega) (by simp; omega)
      rw [varL_ge (by omega)]
      simpa using this
theorem var_spec (n : Nat) (hn : n < 562949953421312) : Ev (fun k => spec_Var.f k (n : Int)) (strOfNums (varL n)) := by
  unfold spec_Var.f
  refine ev_of (l1In_eq _ _ _) (ev_pos (by simp; omega) ?_)
  have := var_spec_loop 6 n [] (by simpa using hn) hn (by simp)
  simpa using this
theorem var_spec_out (n : Int) (hn : n < 0 ∨ 562949953421311 < n) : Ev (fun k => spec_Var.f k n) (⟨#[]⟩ : ByteArray) := by
  unfold spec_Var.f
  exact ev_of (l1In_eq _ _ _) (ev_neg (by simp; omega) (ev_now rfl))

/-! ## section varI -/
theorem var_impl_loop : ∀ (d n : Nat) (acc : List Int), n < 128 ^ (d + 1) → n < 562949953421312 → acc.length + d < 140737488355328 → Ev (fun k => impl_Var.l0 k (n : Int) acc) (strOfNums (acc ++ varL n)) := by
  intro d
  induction d with
  | zero =>
    intro n acc hn hb ha
    have h1 : n < 128 := by simpa using hn
    refine Ev.step (impl_Var.l0.eq_2 _ _) (ev_neg (by omega) (ev_pos (by omega) (ev_now ?_)))
    rw [varL_lt h1, Int.emod_eq_of_lt (by omega) (by omega)]
  | succ d ih =>
    intro n acc hn hb ha
    by_cases h1 : n < 128
    · refine Ev.step (impl_Var.l0.eq_2 _ _) (ev_neg (by omega) (ev_pos (by omega) (ev_now ?_)))
      rw [varL_lt h1, Int.emod_eq_of_lt (by omega) (by omega)]
    · refine Ev.step (impl_Var.l0.eq_2 _ _) (ev_pos (by omega) (ev_pos (by omega) ?_))
      have hd : (n : Int) / 128 = ((n / 128 : Nat) : Int) := by omega
      have hm : (Go.bits .or .i64 (Go.bits .and .i64 (n : Int) 127) 128) % 256 = ((128 + n % 128 : Nat) : Int) := by
        rw [and127 _ (by omega) (by omega), or128 _ (by omega) (by omega)]
        omega
      rw [hd, hm]
      have := ih (n / 128) (acc ++ [((128 + n % 128 : Nat) : Int)]) (by rw [Nat.pow_succ] at hn; omega) (by omega) (by simp; omega)
      rw [varL_ge (by omega)]
      simpa using this
theorem var_impl (n : Nat) (hn : n < 562949953421312) : Ev (fun k => impl_Var.f k (n : Int)) (strOfNums (varL n)) := by
  unfold impl_Var.f
  refine ev_of (within_eq _ _ _) (ev_pos (by simp; omega) ?_)
  have := var_impl_loop 6 n [] (by simpa using hn) hn (by simp)
  simpa using this
theorem var_impl_out (n : Int) (hn : n < 0 ∨ 562949953421311 < n) : Ev (fun k => impl_Var.f k n) (⟨#[]⟩ : ByteArray) := by
  unfold impl_Var.f
  exact ev_of (within_eq _ _ _) (ev_neg (by simp; omega) (ev_now rfl))

/-! ## section readvarI -/
theorem bt_getD (s : ByteArray) (i : Nat) : bt s (i : Int) = (bytesOf s).getD i 0 := bt_get s i
theorem wbt (s : ByteArray) (i : Int) : wrap64 (bt s i) = bt s i := by
  have := bt_range s i
  exact w64 (by omega) (by omega)
theorem low_drop (l : List Int) (i : Nat) (h : i < l.length) : low (l.drop i) = (l.getD i 0).toNat % 128 + 128 * low (l.drop (i + 1)) := by
  rw [List.drop_eq_getElem_cons h, low]
  rw [List.getD_eq_getElem?_getD, List.getElem?_eq_getElem h]; rfl
/-- what the program's loop comes to, from a place on -/
def readFrom (n : Int) (i : Nat) (o : Option (Nat × Nat)) : Int × Int := match o with
  | some p => (n + 2 ^ (7 * i) * (p.1 : Int), ((p.2 + i : Nat) : Int))
  | none => (0, 0)
theorem readvar_impl_loop (s : ByteArray) (hs : s.size ≤ 140737488351232) : ∀ (d i : Nat) (n : Int), i + d = 7 → i ≤ s.size → 0 ≤ n → n < 2 ^ (7 * i) →
    Ev (fun k => impl_ReadVar.l0 k s n (i : Int)) (readFrom n i (rdv d (decide (i = 0)) ((bytesOf s).drop i))) := by
  intro d
  induction d with
  | zero =>
    intro i n hi hle h0 h1
    have : readFrom n i (rdv 0 (decide (i = 0)) ((bytesOf s).drop i)) = (0, 0) := rfl
    rw [this]
    by_cases hsz : (i : Int) < (s.size : Int)
    · refine Ev.step (impl_ReadVar.l0.eq_2 _ _ _) (ev_pos hsz ?_)
      exact Ev.step (impl_ReadVar.j1.eq_2 _ _ _ _) (ev_neg (by simp; omega) (ev_now rfl))
    · refine Ev.step (impl_ReadVar.l0.eq_2 _ _ _) (ev_neg hsz ?_)
      exact Ev.step (impl_ReadVar.j1.eq_2 _ _ _ _) (ev_neg (by simp) (ev_now rfl))
  | succ d ih =>
    intro i n hi hle h0 h1
    by_cases hsz : i < s.size
    · have hr := bt_range s (i : Int)
      have hdrop : (bytesOf s).drop i = bt s (i : Int) :: (bytesOf s).drop (i + 1) := by
        have hl : i < (bytesOf s).length := by rw [bytesOf_length]; exact hsz
        rw [List.drop_eq_getElem_cons hl, bt_getD, List.getD_eq_getElem?_getD, List.getElem?_eq_getElem hl]; rfl
      rw [hdrop]
      have wb : wrap64 (bt s (i : Int)) = bt s (i : Int) := wbt s _
      have f1 : (i : Int) < (s.size : Int) := by omega
      have f2 : (0 : Int) ≤ (i : Int) := by omega
      have f3 : decide ((i : Int) < 7) = true := by simp; omega
      have hw7 : (0 : Int) ≤ wrap64 (7 * (i : Int)) := by rw [w64 (by omega) (by omega)]; omega
      have hw1 : wrap64 ((i : Int) + 1) = ((i + 1 : Nat) : Int) := w64 (by omega) (by omega)
      have hP : (2 : Int) ^ (7 * (i + 1)) = 2 ^ (7 * i) * 128 := by
        have : 7 * (i + 1) = 7 * i + 7 := by omega
        rw [this, Int.pow_add]; rfl
      have hPpos : (0 : Int) < 2 ^ (7 * i) := Int.pow_pos (by decide)
      have hPmax : (2 : Int) ^ (7 * i) ≤ 4398046511104 := by
        have h7 : (2 : Nat) ^ (7 * i) ≤ 2 ^ 42 := Nat.pow_le_pow_right (by decide) (by omega)
        have e42 : (2 : Nat) ^ 42 = 4398046511104 := by decide
        rw [e42] at h7
        have : (2 : Int) ^ (7 * i) = ((2 ^ (7 * i) : Nat) : Int) := by simp
        omega
      have hshl : shl .i64 (Go.bits .and .i64 (wrap64 (bt s (i : Int))) 127) (wrap64 (7 * (i : Int))) = bt s (i : Int) % 128 * 2 ^ (7 * i) := by
        have hr' := bt_range s (i : Int)
        rw [wbt, and127 _ hr'.1 (by omega)]
        have e : wrap64 (7 * (i : Int)) = ((7 * i : Nat) : Int) := w64 (by omega) (by omega)
        rw [e]
        unfold shl
        have hm : min ((7 * i : Nat) : Int).toNat IntKind.i64.bits = 7 * i := by
          have : IntKind.i64.bits = 64 := rfl
          rw [this]; omega
        rw [hm, i64_w]
        have hlt : bt s (i : Int) % 128 * 2 ^ (7 * i) ≤ 127 * 2 ^ (7 * i) := Int.mul_le_mul_of_nonneg_right (show bt s (i : Int) % 128 ≤ 127 by omega) (Int.le_of_lt hPpos)
        have hge : 0 ≤ bt s (i : Int) % 128 * 2 ^ (7 * i) := Int.mul_nonneg (by omega) (Int.le_of_lt hPpos)
        exact w64 (by omega) (by omega)
      generalize hB : bt s (i : Int) = b at *
      have hor : Go.bits .or .i64 n (b % 128 * 2 ^ (7 * i)) = n + b % 128 * 2 ^ (7 * i) := by
        rw [or_comm', or_join (7 * i) _ _ (Int.mul_nonneg (by omega) (Int.le_of_lt hPpos)) (Int.mul_emod_left _ _) ?_ h0 h1 (by omega)]
        · omega
        · have hlt : b % 128 * 2 ^ (7 * i) ≤ 127 * 2 ^ (7 * i) := Int.mul_le_mul_of_nonneg_right (show b % 128 ≤ 127 by omega) (Int.le_of_lt hPpos)
          omega
      refine Ev.step (impl_ReadVar.l0.eq_2 _ _ _) (ev_pos f1 ?_)
      refine Ev.step (impl_ReadVar.j1.eq_2 _ _ _ _) (ev_pos f3 (ev_pos f2 (ev_pos f1 (ev_pos hw7 ?_))))
      rw [wb] at hshl
      rw [hB, wb, hshl, hor, hw1]
      clear hshl hor wb hw7 hw1 f3
      by_cases h128 : 128 ≤ b
      · refine ev_pos (by omega) ?_
        have hb' : 0 ≤ n + b % 128 * 2 ^ (7 * i) := Int.add_nonneg h0 (Int.mul_nonneg (by omega) (Int.le_of_lt hPpos))
        have hlt' : n + b % 128 * 2 ^ (7 * i) < 2 ^ (7 * (i + 1)) := by
          have : b % 128 * 2 ^ (7 * i) ≤ 127 * 2 ^ (7 * i) := Int.mul_le_mul_of_nonneg_right (by omega) (Int.le_of_lt hPpos)
          rw [hP]; omega
        have := ih (i + 1) _ (by omega) (by omega) hb' hlt'
        have hf : decide (i + 1 = 0) = false := by simp
        rw [hf] at this
        have e : readFrom n i (rdv (d + 1) (decide (i = 0)) (b :: (bytesOf s).drop (i + 1))) = readFrom (n + b % 128 * 2 ^ (7 * i)) (i + 1) (rdv d false ((bytesOf s).drop (i + 1))) := by
          rw [rdv, if_pos h128]
          cases rdv d false ((bytesOf s).drop (i + 1)) with
          | none => rfl
          | some p =>
            simp only [Option.map_some, readFrom]
            have e6 : (((b - 128).toNat + 128 * p.1 : Nat) : Int) = b % 128 + 128 * (p.1 : Int) := by omega
            rw [e6, hP]
            refine Prod.ext ?_ ?_
            · simp only
              rw [Int.mul_add, Int.mul_comm (b % 128), Int.mul_assoc, Int.add_assoc]
            · simp only
              omega
        rw [e]
        exact this
      · refine ev_neg (by omega) ?_
        have hmod : b % 128 = b := Int.emod_eq_of_lt (by omega) (by omega)
        by_cases hb0 : b = 0
        · refine ev_pos hb0 ?_
          by_cases hi0 : i = 0
          · refine ev_neg (by omega) (ev_now ?_)
            rw [rdv, if_neg h128, if_neg (by simp [hi0])]
            simp only [readFrom]
            subst hi0
            rw [hmod, hb0]
            simp
          · refine ev_pos (by omega) (ev_now ?_)
            rw [rdv, if_neg h128, if_pos (by simp [hi0, hb0])]
            rfl
        · refine ev_neg hb0 (ev_now ?_)
          rw [rdv, if_neg h128, if_neg (by simp [hb0])]
          simp only [readFrom]
          rw [hmod]
          have : ((b.toNat : Nat) : Int) = b := by omega
          rw [this, Int.mul_comm b]
          congr 2
          omega
    · have hd : (bytesOf s).drop i = [] := List.drop_eq_nil_of_le (by rw [bytesOf_length]; omega)
      rw [hd]
      have : readFrom n i (rdv (d + 1) (decide (i = 0)) []) = (0, 0) := rfl
      rw [this]
      refine Ev.step (impl_ReadVar.l0.eq_2 _ _ _) (ev_neg (by omega) ?_)
      exact Ev.step (impl_ReadVar.j1.eq_2 _ _ _ _) (ev_neg (by simp) (ev_now rfl))
theorem readvar_impl (s : ByteArray) (hs : s.size ≤ 140737488351232) : Ev (fun k => impl_ReadVar.f k s) (readN (bytesOf s)) := by
  unfold impl_ReadVar.f
  have := readvar_impl_loop s hs 7 0 0 (by omega) (by omega) (by omega) (by decide)
  have e : readFrom 0 0 (rdv 7 (decide (0 = 0)) ((bytesOf s).drop 0)) = readN (bytesOf s) := by
    simp only [List.drop_zero, decide_true]
    unfold readN
    cases rdv 7 true (bytesOf s) with
    | none => rfl
    | some p => simp [readFrom]
  rw [← e]
  exact this

/-! ## section fixedI -/
theorem pow_256 (i : Nat) : (2 : Nat) ^ (8 * i) = 256 ^ i := by rw [Nat.pow_mul]
theorem shr_8 (n i : Nat) (hi : i ≤ 7) : (shr .i64 (n : Int) (wrap64 (8 * (i : Int)))) = ((n / 256 ^ i : Nat) : Int) := by
  have e : wrap64 (8 * (i : Int)) = ((8 * i : Nat) : Int) := w64 (by omega) (by omega)
  rw [e]
  unfold shr
  have hm : min ((8 * i : Nat) : Int).toNat IntKind.i64.bits = 8 * i := by
    have : IntKind.i64.bits = 64 := rfl
    rw [this]; omega
  rw [hm]
  have : (2 : Int) ^ (8 * i) = ((256 ^ i : Nat) : Int) := by rw [← pow_256]; simp
  rw [this]; simp
theorem fixed_impl_loop (n : Nat) : ∀ (i : Nat) (acc : List Int), i ≤ 7 → acc.length + i ≤ 7 → Ev (fun k => impl_Fixed.l0 k (n : Int) acc ((i : Int) - 1)) (strOfNums (acc ++ fixL i n)) := by
  intro i
  induction i with
  | zero =>
    intro acc hi ha
    refine Ev.step (impl_Fixed.l0.eq_2 _ _ _) (ev_neg (by omega) (ev_now ?_))
    simp [fixL]
  | succ i ih =>
    intro acc hi ha
    have e0 : ((i + 1 : Nat) : Int) - 1 = (i : Int) := by omega
    rw [e0]
    have hw7 : (0 : Int) ≤ wrap64 (8 * (i : Int)) := by rw [w64 (by omega) (by omega)]; omega
    refine Ev.step (impl_Fixed.l0.eq_2 _ _ _) (ev_pos (by omega) (ev_pos hw7 (ev_pos (by omega) ?_)))
    have e3 : wrap64 ((i : Int) - 1) = (i : Int) - 1 := w64 (by omega) (by omega)
    rw [shr_8 n i (by omega), e3]
    have := ih (acc ++ [((n / 256 ^ i : Nat) : Int) % 256]) (by omega) (by simp; omega)
    rw [fixL_head]
    have e4 : ((n / 256 ^ i % 256 : Nat) : Int) = ((n / 256 ^ i : Nat) : Int) % 256 := by omega
    rw [e4]
    simpa using this
theorem fixed_top (w : Nat) (hw : w ≤ 7) : wrap64 ((shl .i64 1 (wrap64 (8 * (w : Int)))) - 1) = ((256 ^ w : Nat) : Int) - 1 := by
  have e : wrap64 (8 * (w : Int)) = ((8 * w : Nat) : Int) := w64 (by omega) (by omega)
  rw [e]
  unfold shl
  have hm : min ((8 * w : Nat) : Int).toNat IntKind.i64.bits = 8 * w := by
    have : IntKind.i64.bits = 64 := rfl
    rw [this]; omega
  rw [hm, i64_w]
  have hp : (2 : Int) ^ (8 * w) = ((256 ^ w : Nat) : Int) := by rw [← pow_256]; simp
  have hb : 256 ^ w ≤ 72057594037927936 := Nat.le_trans (Nat.pow_le_pow_right (by decide) hw) (by decide)
  rw [hp, Int.one_mul]
  clear hm hp e
  generalize 256 ^ w = P at hb ⊢
  have e2 : wrap64 (P : Int) = (P : Int) := w64 (by omega) (by omega)
  rw [e2]
  exact w64 (by omega) (by omega)
theorem fixed_impl (n w : Nat) (hw : 1 ≤ w) (hw7 : w ≤ 7) (hn : n ≤ 9223372036854775807) : Ev (fun k => impl_Fixed.f k (n : Int) (w : Int)) (if n < 256 ^ w then strOfNums (fixL w n) else (⟨#[]⟩ : ByteArray)) := by
  unfold impl_Fixed.f
  have h8 : (0 : Int) ≤ wrap64 (8 * (w : Int)) := by rw [w64 (by omega) (by omega)]; omega
  refine ev_of (within_eq _ _ _) (ev_pos (by simp; omega) (ev_pos h8 (ev_of (within_eq _ _ _) ?_)))
  rw [fixed_top w hw7]
  generalize hP : 256 ^ w = P
  by_cases h : n < P
  · rw [if_pos h]
    refine Ev.step (impl_Fixed.j0.eq_2 _ _ _) (ev_neg (by simp; omega) ?_)
    have e3 : wrap64 ((w : Int) - 1) = (w : Int) - 1 := w64 (by omega) (by omega)
    rw [e3]
    have := fixed_impl_loop n w [] hw7 (by simp; omega)
    simpa using this
  · rw [if_neg h]
    exact Ev.step (impl_Fixed.j0.eq_2 _ _ _) (ev_pos (by simp; omega) (ev_now rfl))
theorem fixed_impl_out (n w : Int) (h : w < 1 ∨ 7 < w ∨ n < 0) : Ev (fun k => impl_Fixed.f k n w) (⟨#[]⟩ : ByteArray) := by
  unfold impl_Fixed.f
  by_cases hw : 1 ≤ w ∧ w ≤ 7
  · have h8 : (0 : Int) ≤ wrap64 (8 * w) := by rw [w64 (by omega) (by omega)]; omega
    refine ev_of (within_eq _ _ _) (ev_pos (by simpa using hw) (ev_pos h8 (ev_of (within_eq _ _ _) ?_)))
    exact Ev.step (impl_Fixed.j0.eq_2 _ _ _) (ev_pos (by simp; omega) (ev_now rfl))
  · refine ev_of (within_eq _ _ _) (ev_neg (by simpa using hw) ?_)
    exact Ev.step (impl_Fixed.j0.eq_2 _ _ _) (ev_pos rfl (ev_now rfl))

/-! ## section readfixedD -/
/-- what is read of a Fixed -/
def readFixN (l : List Int) (w : Int) : Int × Bool := if 1 ≤ w ∧ w ≤ 7 ∧ w ≤ (l.length : Int) then (fixN (l.take w.toNat), true) else (0, false)
theorem fixN_le (l : List Int) (hl : ∀ x ∈ l, 0 ≤ x ∧ x ≤ 255) (k : Nat) (hk : l.length = k) (h6 : k ≤ 6) : 0 ≤ fixN l ∧ fixN l ≤ 281474976710655 := by
  have := fixN_range k l hl hk
  have hp : (256 : Int) ^ k ≤ 281474976710656 := by
    have h7 : (256 : Nat) ^ k ≤ 256 ^ 6 := Nat.pow_le_pow_right (by decide) h6
    have e42 : (256 : Nat) ^ 6 = 281474976710656 := by decide
    rw [e42] at h7
    have : (256 : Int) ^ k = ((256 ^ k : Nat) : Int) := by simp
    omega
  omega

/-! ## section readfixedI -/
theorem readfixed_impl_loop (s : ByteArray) (w : Nat) (hw : w ≤ 7) (hs : w ≤ s.size) : ∀ (d i : Nat), i + d = w → Ev (fun k => impl_ReadFixed.l0 k s (fixN ((bytesOf s).take i)) (w : Int) (i : Int)) (fixN ((bytesOf s).take w), true) := by
  intro d
  induction d with
  | zero =>
    intro i hi
    obtain rfl : i = w := by omega
    exact Ev.step (impl_ReadFixed.l0.eq_2 _ _ _ _) (ev_neg (by omega) (ev_now rfl))
  | succ d ih =>
    intro i hi
    refine Ev.step (impl_ReadFixed.l0.eq_2 _ _ _ _) (ev_pos (by omega) (ev_pos (by omega) (ev_pos (by omega) ?_)))
    have hr := bt_range s (i : Int)
    have hb := fixN_le ((bytesOf s).take i) (fun y hy => bytesOf_range s y (List.mem_of_mem_take hy)) i (by rw [List.length_take, bytesOf_length]; omega) (by omega)
    have e1 : Go.bits .or .i64 (wrap64 (fixN ((bytesOf s).take i) * 256)) (wrap64 (bt s (i : Int))) = fixN ((bytesOf s).take (i + 1)) := by
      rw [bytesOf_take_snoc s i (by omega), fixN_snoc]
      rw [w64 (n := fixN ((bytesOf s).take i) * 256) (by omega) (by omega), w64 (n := bt s (i : Int)) (by omega) (by omega)]
      exact or_join 8 _ _ (by omega) (by omega) (by omega) (by omega) (by omega) (by omega)
    have e3 : wrap64 ((i : Int) + 1) = ((i + 1 : Nat) : Int) := w64 (by omega) (by omega)
    rw [e1, e3]
    exact ih (i + 1) (by omega)
theorem readfixed_impl (s : ByteArray) (w : Int) : Ev (fun k => impl_ReadFixed.f k s w) (readFixN (bytesOf s) w) := by
  unfold impl_ReadFixed.f
  by_cases hw : 1 ≤ w ∧ w ≤ 7
  · refine ev_of (within_eq _ _ _) (ev_pos (by simpa using hw) ?_)
    unfold readFixN
    rw [bytesOf_length]
    by_cases hs : w ≤ (s.size : Int)
    · rw [if_pos ⟨hw.1, hw.2, hs⟩]
      obtain ⟨n, rfl⟩ : ∃ n : Nat, w = n := ⟨w.toNat, by omega⟩
      refine Ev.step (impl_ReadFixed.j0.eq_2 _ _ _) (ev_neg (by simp; omega) ?_)
      have := readfixed_impl_loop s n (by omega) (by omega) n 0 (by omega)
      simpa [fixN] using this
    · rw [if_neg (by omega)]
      exact Ev.step (impl_ReadFixed.j0.eq_2 _ _ _) (ev_pos (by simp; omega) (ev_now rfl))
  · refine ev_of (within_eq _ _ _) (ev_neg (by simpa using hw) ?_)
    unfold readFixN
    rw [if_neg (by omega)]
    exact Ev.step (impl_ReadFixed.j0.eq_2 _ _ _) (ev_pos rfl (ev_now rfl))

/-! ## section decI -/
theorem dec_impl_end (x : Int) (acc : List Int) (ha : acc.length ≤ 1000) : ∀ (r : ByteArray), r = strOfNums ((if x < 0 then [45] else []) ++ acc) →
    Ev (fun _ : Nat => if x < 0 then (if 1 + (strOfNums acc).size ≤ 9223372036854775807 then (some ((⟨#[45]⟩ : ByteArray) ++ (strOfNums acc))) else (none)) else (some (strOfNums acc))) r := by
  rintro r rfl
  by_cases h : x < 0
  · refine ev_pos h (ev_pos ?_ (ev_now ?_))
    · rw [strOfNums_size]; omega
    · rw [if_pos h, strOfNums_append]; rfl
  · refine ev_neg h (ev_now ?_)
    rw [if_neg h]; rfl
theorem dec_impl_loop (x : Int) : ∀ (d : Nat) (low : Int) (acc : List Int), low.natAbs < 10 ^ (d + 1) → -9223372036854775808 ≤ low → low ≤ 9223372036854775807 → acc.length + d ≤ 900 →
    Ev (fun k => impl_Dec.l0 k x (strOfNums acc) low) (strOfNums ((if x < 0 then [45] else []) ++ (digs low.natAbs ++ acc))) := by
  have hend : ∀ (low : Int) (acc : List Int), low.natAbs < 10 → acc.length ≤ 900 →
      Ev (fun k => impl_Dec.l0 k x (strOfNums acc) low) (strOfNums ((if x < 0 then [45] else []) ++ (digs low.natAbs ++ acc))) := by
    intro low acc hl ha
    have e : digs low.natAbs = [((48 + low.natAbs % 10 : Nat) : Int)] := by rw [digs_lt hl, Nat.mod_eq_of_lt hl]
    rw [e]
    refine Ev.step (impl_Dec.l0.eq_2 _ _ _) ?_
    by_cases hm : low.tmod 10 < 0
    · refine ev_pos hm (ev_some (ev_pos ?_ (ev_of (within_eq _ _ _) (ev_pos (by simp; omega) ?_))))
      · rw [strOfNums_size, strOfNums_size]; simp; omega
      · rw [dec_neg low (by omega) (by omega) hm, ← strOfNums_append]
        exact dec_impl_end x _ (by simp; omega) _ rfl
    · refine ev_neg hm (ev_some (ev_pos ?_ (ev_of (within_eq _ _ _) (ev_pos (by simp; omega) ?_))))
      · rw [strOfNums_size, strOfNums_size]; simp; omega
      · rw [dec_pos low (by omega) (by omega) hm, ← strOfNums_append]
        exact dec_impl_end x _ (by simp; omega) _ rfl
  intro d
  induction d with
  | zero =>
    intro low acc hl _ _ ha
    exact hend low acc (by simpa using hl) (by omega)
  | succ d ih =>
    intro low acc hl h0 h1 ha
    by_cases hlt : low.natAbs < 10
    · exact hend low acc hlt (by omega)
    · have hn := dec_next low h0 h1
      have hpow : (wrap64 (low.tdiv 10)).natAbs < 10 ^ (d + 1) := by rw [hn.1]; rw [Nat.pow_succ] at hl; omega
      have hrec := ih (wrap64 (low.tdiv 10)) ([((48 + low.natAbs % 10 : Nat) : Int)] ++ acc) hpow hn.2.1 hn.2.2 (by simp; omega)
      rw [hn.1] at hrec
      rw [digs_ge (by omega), List.append_assoc]
      refine Ev.step (impl_Dec.l0.eq_2 _ _ _) ?_
      by_cases hm : low.tmod 10 < 0
      · refine ev_pos hm (ev_some (ev_pos ?_ (ev_of (within_eq _ _ _) (ev_neg (by simp; omega) ?_))))
        · rw [strOfNums_size, strOfNums_size]; simp; omega
        · rw [dec_neg low h0 h1 hm, ← strOfNums_append]; exact hrec
      · refine ev_neg hm (ev_some (ev_pos ?_ (ev_of (within_eq _ _ _) (ev_neg (by simp; omega) ?_))))
        · rw [strOfNums_size, strOfNums_size]; simp; omega
        · rw [dec_pos low h0 h1 hm, ← strOfNums_append]; exact hrec
theorem dec_impl (x : Int) (h0 : -9223372036854775808 ≤ x) (h1 : x ≤ 9223372036854775807) : Ev (fun k => impl_Dec.f k x) (strOfNums (decL x)) := by
  unfold impl_Dec.f
  have := dec_impl_loop x 19 x [] (by omega) h0 h1 (by simp)
  rw [List.append_nil] at this
  have e : (if x < 0 then [45] else []) ++ digs x.natAbs = decL x := by
    unfold decL
    by_cases h : x < 0
    · rw [if_pos h, if_pos h]; rfl
    · rw [if_neg h, if_neg h]; rfl
  rw [e] at this
  exact this

/-! ## section readdecD -/
theorem head_bt (s : ByteArray) (h : 0 < s.size) : (bytesOf s).head? = some (bt s 0) := by
  have := bytesOf_drop_cons s 0 h
  rw [List.drop_zero] at this
  rw [this]; rfl
theorem dec_same (s : ByteArray) (m : Int) (hm : -9223372036854775808 ≤ m ∧ m ≤ 9223372036854775807) : (strOfNums (decL m)).toList = s.toList ↔ decL m = bytesOf s := by
  have hb : ∀ x ∈ decL m, 0 ≤ x ∧ x ≤ 255 := by
    intro x hx
    unfold decL at hx
    split at hx
    · rcases List.mem_cons.1 hx with rfl | hx
      · omega
      · have := digs_digit _ x hx; omega
    · have := digs_digit _ x hx; omega
  rw [toList_eq_iff]
  constructor
  · intro h; rw [← h, bytesOf_strOfNums _ hb]
  · intro h; rw [h, strOfNums_bytesOf]
/-- what is read of a Dec: told by what it is -/
def DecRes (l : List Int) (r : Int × Bool) : Prop := (∃ n, r = (n, true) ∧ IsDec l n) ∨ (r = (0, false) ∧ ∀ n, ¬ IsDec l n)
theorem decRes_eq {l : List Int} {a b : Int × Bool} (ha : DecRes l a) (hb : DecRes l b) : a = b := by
  rcases ha with ⟨n, rfl, hn⟩ | ⟨rfl, hn⟩
  · rcases hb with ⟨m, rfl, hm⟩ | ⟨rfl, hm⟩
    · rw [isDec_inj hn hm]
    · exact absurd hn (hm n)
  · rcases hb with ⟨m, rfl, hm⟩ | ⟨rfl, hm⟩
    · exact absurd hm (hn m)
    · rfl
theorem digs_len9 (n : Nat) (h : n ≤ 999999999) : (digs n).length ≤ 9 := digs_len 8 n (by omega)
theorem decL_len (n : Int) : (decL n).length = (digs n.natAbs).length + (if n < 0 then 1 else 0) := by
  unfold decL; split <;> simp
theorem decL_head (n : Int) : (decL n).head? = some 45 ↔ n < 0 := by
  unfold decL
  by_cases h : n < 0
  · rw [if_pos h]; simp [h]
  · rw [if_neg h]
    constructor
    · intro hh
      have hm : (45 : Int) ∈ digs n.natAbs := List.mem_of_mem_head? (by rw [hh]; simp)
      have := digs_digit _ _ hm
      omega
    · intro h'; exact absurd h' h

/-! ## section readdecI -/
theorem extract_bytes' (s : ByteArray) (x : Nat) : bytesOf (s.extract x s.size) = (bytesOf s).drop x := by
  rw [bytesOf_extract]
  apply List.take_of_length_le
  rw [List.length_drop, bytesOf_length]; omega
/-- a text without the - ahead -/
def bodyOf (s : ByteArray) : ByteArray := if (bytesOf s).head? = some 45 then s.extract 1 s.size else s
theorem trim_dash (s : ByteArray) : strings_TrimPrefix.f s (⟨#[45]⟩ : ByteArray) = some (bodyOf s) := by
  unfold strings_TrimPrefix.f stringslite_TrimPrefix.f stringslite_HasPrefix.f bodyOf
  have e1 : (((⟨#[45]⟩ : ByteArray).size : Nat) : Int) = 1 := rfl
  rw [e1]
  by_cases h : 0 < s.size
  · rw [if_pos (by omega), if_pos (by omega), if_pos (by omega), Option.bind_some]
    have hb := bytesOf_drop_cons s 0 h
    rw [List.drop_zero] at hb
    have e2 : ((s.extract 0 ((1 : Int) : Int).toNat).toList == (⟨#[45]⟩ : ByteArray).toList) = decide ((bytesOf s).head? = some 45) := by
      apply Bool.eq_iff_iff.2
      rw [beq_iff_eq, toList_eq_iff, decide_eq_true_eq, hb]
      have e3 : bytesOf (s.extract 0 ((1 : Int) : Int).toNat) = [bt s 0] := by
        rw [bytesOf_extract, List.drop_zero, hb]; rfl
      constructor
      · intro he
        rw [he] at e3
        have : bytesOf (⟨#[45]⟩ : ByteArray) = [45] := rfl
        rw [this] at e3
        have h5 : bt s 0 = 45 := (List.cons.inj e3).1.symm
        show some (bt s 0) = some 45
        rw [h5]
      · intro he
        apply byte_ext
        rw [e3]
        have : bt s 0 = 45 := by simpa using he
        rw [this]; rfl
    rw [e2]
    by_cases hd : (bytesOf s).head? = some 45
    · rw [decide_eq_true hd, if_pos rfl, if_pos (by omega), if_pos (by omega), Option.bind_some, if_pos hd]; rfl
    · rw [decide_eq_false hd, if_neg (by simp), Option.bind_some, if_neg hd]
  · rw [if_neg (by omega), Option.bind_some, if_neg (by simp), Option.bind_some, if_neg]
    have : (bytesOf s) = [] := List.length_eq_zero_iff.1 (by rw [bytesOf_length]; omega)
    rw [this]; simp
theorem body_bytes (s : ByteArray) : bytesOf (bodyOf s) = if (bytesOf s).head? = some 45 then (bytesOf s).drop 1 else bytesOf s := by
  unfold bodyOf
  split
  · exact extract_bytes' s 1
  · rfl
theorem pow9 (k : Nat) (h : k ≤ 9) : (10 : Int) ^ k ≤ 1000000000 := by
  have h7 : (10 : Nat) ^ k ≤ 10 ^ 9 := Nat.pow_le_pow_right (by decide) h
  have e42 : (10 : Nat) ^ 9 = 1000000000 := by decide
  rw [e42] at h7
  have : (10 : Int) ^ k = ((10 ^ k : Nat) : Int) := by simp
  omega
/-- what the program makes of the number -/
def decEndI (s : ByteArray) (n : Int) : Int × Bool :=
  if decL (if (bodyOf s).size < s.size then -n else n) = bytesOf s then ((if (bodyOf s).size < s.size then -n else n), true) else (0, false)
theorem readdec_impl_loop (s : ByteArray) (h9 : (bodyOf s).size ≤ 9) : ∀ (d i : Nat), i + d = (bodyOf s).size → (∀ x ∈ (bytesOf (bodyOf s)).take i, isDig x = true) →
    Ev (fun k => impl_ReadDec.l0 k s (bodyOf s) (numOf ((bytesOf (bodyOf s)).take i)) ((bodyOf s).size : Int) (i : Int)) (if (bytesOf (bodyOf s)).all isDig = true then decEndI s (numOf (bytesOf (bodyOf s))) else (0, false)) := by
  intro d
  induction d with
  | zero =>
    intro i hi hd
    have et : (bytesOf (bodyOf s)).take i = bytesOf (bodyOf s) := List.take_of_length_le (by rw [bytesOf_length]; omega)
    rw [et] at hd ⊢
    rw [if_pos (List.all_eq_true.2 hd)]
    have hb := numOf_bound _ hd
    rw [bytesOf_length] at hb
    have hp := pow9 (bodyOf s).size h9
    unfold decEndI
    refine Ev.step (fun _ => impl_ReadDec.l0.eq_2 ..) (ev_neg (by omega) ?_)
    have key : ∀ m : Int, -1000000000 ≤ m → m ≤ 1000000000 → Ev (fun k => ((impl_Dec.f k m).bind fun t121 => (if t121.toList = s.toList then (some (m, true)) else (some (0, false))))) (if decL m = bytesOf s then (m, true) else (0, false)) := by
      intro m h0 h1
      refine Ev.bind (dec_impl m (by omega) (by omega)) ?_
      by_cases c3 : decL m = bytesOf s
      · rw [if_pos c3]; exact ev_pos ((dec_same s m (by omega)).2 c3) (ev_now rfl)
      · rw [if_neg c3]; exact ev_neg (fun h => c3 ((dec_same s m (by omega)).1 h)) (ev_now rfl)
    by_cases hlt : (bodyOf s).size < s.size
    · rw [if_pos hlt]
      have e : wrap64 (-numOf (bytesOf (bodyOf s))) = -numOf (bytesOf (bodyOf s)) := w64 (by omega) (by omega)
      refine ev_pos (by omega) ?_
      rw [e]
      exact key _ (by omega) (by omega)
    · rw [if_neg hlt]
      exact ev_neg (by omega) (key _ (by omega) (by omega))
  | succ d ih =>
    intro i hi hd
    have hr := bt_range (bodyOf s) (i : Int)
    have hb := numOf_bound _ hd
    have hl : ((bytesOf (bodyOf s)).take i).length ≤ 9 := by rw [List.length_take]; omega
    have hp := pow9 _ hl
    have e3 : wrap64 ((i : Int) + 1) = ((i + 1 : Nat) : Int) := w64 (by omega) (by omega)
    have hno : isDig (bt (bodyOf s) (i : Int)) = false → (bytesOf (bodyOf s)).all isDig = false := by
      intro hx
      have hin : bt (bodyOf s) (i : Int) ∈ bytesOf (bodyOf s) := by
        have := bytesOf_drop_cons (bodyOf s) i (by omega)
        exact List.mem_of_mem_drop (i := i) (by rw [this]; simp)
      cases ha : (bytesOf (bodyOf s)).all isDig with
      | false => rfl
      | true => rw [List.all_eq_true.1 ha _ hin] at hx; cases hx
    refine Ev.step (fun _ => impl_ReadDec.l0.eq_2 ..) (ev_pos (by omega) (ev_pos (by omega) (ev_pos (by omega) ?_)))
    by_cases h1 : bt (bodyOf s) (i : Int) < 48
    · rw [hno (decide_eq_false (by omega)), if_neg (by simp)]
      exact ev_pos h1 (ev_now rfl)
    · refine ev_neg h1 ?_
      by_cases h2 : bt (bodyOf s) (i : Int) > 57
      · rw [hno (decide_eq_false (by omega)), if_neg (by simp)]
        exact ev_pos h2 (ev_now rfl)
      · refine ev_neg h2 ?_
        have ih' := ih (i + 1) (by omega) (by
          rw [bytesOf_take_snoc (bodyOf s) i (by omega)]
          intro x hx
          rcases List.mem_append.1 hx with hx | hx
          · exact hd x hx
          · simp at hx; subst hx; exact decide_eq_true (by omega))
        rw [bytesOf_take_snoc (bodyOf s) i (by omega), numOf_snoc] at ih'
        have e1 : wrap64 (wrap64 (10 * numOf ((bytesOf (bodyOf s)).take i)) + (bt (bodyOf s) (i : Int) - 48) % 256) = numOf ((bytesOf (bodyOf s)).take i) * 10 + (bt (bodyOf s) (i : Int) - 48) := by
          rw [w64 (n := 10 * numOf ((bytesOf (bodyOf s)).take i)) (by omega) (by omega), w64 (by omega) (by omega)]; omega
        rw [e1, e3]
        exact ih'
theorem readdec_impl (s : ByteArray) (hs : s.size ≤ 140737488351232) : ∃ r, Ev (fun k => impl_ReadDec.f k s) r ∧ DecRes (bytesOf s) r := by
  have hsz : (bodyOf s).size = if (bytesOf s).head? = some 45 then s.size - 1 else s.size := by
    have := congrArg List.length (body_bytes s)
    rw [bytesOf_length] at this
    rw [this]
    split
    · rw [List.length_drop, bytesOf_length]
    · rw [bytesOf_length]
  have hlt : ((bodyOf s).size < s.size) ↔ (bytesOf s).head? = some 45 := by
    rw [hsz]
    constructor
    · intro h
      by_cases hc : (bytesOf s).head? = some 45
      · exact hc
      · rw [if_neg hc] at h; omega
    · intro hc
      rw [if_pos hc]
      have : (bytesOf s) ≠ [] := by intro e; rw [e] at hc; simp at hc
      have : 0 < (bytesOf s).length := List.length_pos_iff.2 this
      rw [bytesOf_length] at this
      omega
  have hbody : ∀ n, IsDec (bytesOf s) n → bytesOf (bodyOf s) = digs n.natAbs := by
    rintro n ⟨hn, _, _⟩
    rw [body_bytes, ← hn]
    by_cases hneg : n < 0
    · rw [if_pos ((decL_head n).2 hneg)]; unfold decL; rw [if_pos hneg]; rfl
    · rw [if_neg (fun h => hneg ((decL_head n).1 h))]; unfold decL; rw [if_neg hneg]
  unfold impl_ReadDec.f
  by_cases hw : 1 ≤ (bodyOf s).size ∧ (bodyOf s).size ≤ 9
  · have hloop := readdec_impl_loop s hw.2 (bodyOf s).size 0 (by omega) (by intro x hx; simp at hx)
    rw [List.take_zero] at hloop
    refine ⟨_, ev_of (trim_dash s) (ev_of (within_eq _ _ _) (ev_pos (by simp; omega) hloop)), ?_⟩
    by_cases ha : (bytesOf (bodyOf s)).all isDig = true
    · rw [if_pos ha]
      unfold decEndI
      have hb := numOf_bound _ (List.all_eq_true.1 ha)
      rw [bytesOf_length] at hb
      have hp := pow9 (bodyOf s).size hw.2
      by_cases c2 : decL (if (bodyOf s).size < s.size then -numOf (bytesOf (bodyOf s)) else numOf (bytesOf (bodyOf s))) = bytesOf s
      · rw [if_pos c2]
        refine .inl ⟨_, rfl, c2, ?_⟩
        split <;> omega
      · rw [if_neg c2]
        refine .inr ⟨rfl, ?_⟩
        intro n hn
        apply c2
        rw [hbody n hn, numOf_digs, ← hn.1]
        congr 1
        by_cases hneg : n < 0
        · rw [if_pos (hlt.2 (by rw [← hn.1]; exact (decL_head n).2 hneg))]; omega
        · rw [if_neg (fun h => hneg ((decL_head n).1 (by rw [hn.1]; exact hlt.1 h)))]; omega
    · rw [if_neg ha]
      refine .inr ⟨rfl, ?_⟩
      intro n hn
      apply ha
      rw [hbody n hn]
      exact List.all_eq_true.2 (digs_isDig _)
  · refine ⟨(0, false), ev_of (trim_dash s) (ev_of (within_eq _ _ _) (ev_neg (by simp; omega) (ev_now rfl))), .inr ⟨rfl, ?_⟩⟩
    intro n hn
    apply hw
    have := congrArg List.length (hbody n hn)
    rw [bytesOf_length] at this
    have h9 := digs_len9 n.natAbs (by have := hn.2; omega)
    have h1 := digs_pos n.natAbs
    omega

/-! ## section hexD -/
theorem digit_eq (n : Int) (h0 : 0 ≤ n) (h1 : n < 16) : bt (⟨#[48, 49, 50, 51, 52, 53, 54, 55, 56, 57, 97, 98, 99, 100, 101, 102]⟩ : ByteArray) n = hexC n := by
  obtain ⟨m, rfl⟩ := Int.eq_ofNat_of_zero_le h0
  have : m < 16 := by omega
  have h : ∀ k : Fin 16, bt (⟨#[48, 49, 50, 51, 52, 53, 54, 55, 56, 57, 97, 98, 99, 100, 101, 102]⟩ : ByteArray) (k.val : Int) = hexC (k.val : Int) := by decide
  exact h ⟨m, this⟩

/-! ## section hexI -/
theorem wraps_u8' (n : Int) (h₀ : 0 ≤ n) (h₁ : n < 2 ^ 8) : IntKind.u8.wrap n = n := by rw [IntKind.wrap_u8]; omega
theorem and15_u8 (x : Int) (h0 : 0 ≤ x) (h1 : x < 256) : Go.bits .and .u8 x 15 = x % 16 := by
  have := Go.bits_mask .u8 8 (by decide) wraps_u8' 4 (by decide) x h0 h1
  simpa using this
theorem hex_impl_loop (s : ByteArray) (hs : s.size ≤ 1048576) : ∀ (d i : Nat), i + d = s.size → Ev (fun k => impl_Hex.l0 k s (hexL ((bytesOf s).take i)) (s.size : Int) (i : Int)) (strOfNums (hexL (bytesOf s))) := by
  intro d
  induction d with
  | zero =>
    intro i hi
    refine Ev.step (impl_Hex.l0.eq_2 _ _ _ _) (ev_neg (by omega) (ev_now ?_))
    rw [List.take_of_length_le (by rw [bytesOf_length]; omega)]
  | succ d ih =>
    intro i hi
    have hr := bt_range s (i : Int)
    have e2 : Go.bits .and .u8 (bt s (i : Int)) 15 = bt s (i : Int) % 16 := and15_u8 _ hr.1 (by omega)
    refine Ev.step (impl_Hex.l0.eq_2 _ _ _ _) (ev_pos (by omega) (ev_pos (by omega) (ev_pos (by omega) (ev_pos (by omega) (ev_pos (by omega) ?_)))))
    rw [e2]
    refine ev_pos (by omega) (ev_pos (by omega) (ev_some (ev_pos ?_ ?_)))
    · rw [hexL_len, List.length_take]; simp; omega
    · rw [digit_eq _ (by omega) (by omega), digit_eq _ (by omega) (by omega), ← hexL_snoc, ← bytesOf_take_snoc s i (by omega)]
      have e3 : wrap64 ((i : Int) + 1) = ((i + 1 : Nat) : Int) := w64 (by omega) (by omega)
      rw [e3]
      exact ih (i + 1) (by omega)
theorem hex_impl (s : ByteArray) (hs : s.size ≤ 1048576) : Ev (fun k => impl_Hex.f k s) (strOfNums (hexL (bytesOf s))) := by
  unfold impl_Hex.f
  exact hex_impl_loop s hs s.size 0 (by omega)

/-! ## section unhexD -/
def unC (c : Int) : Int := if 48 ≤ c ∧ c ≤ 57 then c - 48 else if 97 ≤ c ∧ c ≤ 102 then c - 87 else -1
theorem unC_range (c : Int) : -1 ≤ unC c ∧ unC c ≤ 15 := by unfold unC; split <;> (try split) <;> omega
theorem unC_hexC (n : Int) (h0 : 0 ≤ n) (h1 : n < 16) : unC (hexC n) = n := by
  unfold unC hexC
  repeat' split
  all_goals omega
def unL : List Int → List Int → ByteArray × Bool
  | a :: b :: l, acc => if unC a < 0 then ((⟨#[]⟩ : ByteArray), false) else if unC b < 0 then ((⟨#[]⟩ : ByteArray), false) else unL l (acc ++ [(wrap64 ((wrap64 (16 * unC a)) + unC b)) % 256])
  | [], acc => (strOfNums acc, true)
  | [_], acc => (strOfNums acc, true)

/-! ## section unhexI -/
theorem index_eq (c : Int) (h0 : 0 ≤ c) (h1 : c ≤ 255) : strings_IndexByte.f (⟨#[48, 49, 50, 51, 52, 53, 54, 55, 56, 57, 97, 98, 99, 100, 101, 102]⟩ : ByteArray) c = some (unC c) := by
  obtain ⟨m, rfl⟩ := Int.eq_ofNat_of_zero_le h0
  have hm : m < 256 := by omega
  have h : ∀ k : Fin 256, Lib.indexByte [48, 49, 50, 51, 52, 53, 54, 55, 56, 57, 97, 98, 99, 100, 101, 102] (k.val : Int).toNat.toUInt8 = unC (k.val : Int) := by decide +kernel
  unfold strings_IndexByte.f
  exact congrArg some (h ⟨m, hm⟩)
theorem unhex_impl_loop (s : ByteArray) (hs : s.size ≤ 2097152) : ∀ (d i : Nat) (acc : List Int), i + 2 * d = s.size → acc.length ≤ i → Ev (fun k => impl_Unhex.l0 k s acc (i : Int)) (unL ((bytesOf s).drop i) acc) := by
  intro d
  induction d with
  | zero =>
    intro i acc hi ha
    rw [List.drop_of_length_le (by rw [bytesOf_length]; omega)]
    exact Ev.step (fun _ => impl_Unhex.l0.eq_2 _ _ _ _) (ev_neg (by omega) (ev_now rfl))
  | succ d ih =>
    intro i acc hi ha
    have e3 : wrap64 ((i : Int) + 1) = ((i + 1 : Nat) : Int) := w64 (by omega) (by omega)
    have e4 : wrap64 ((i : Int) + 2) = ((i + 2 : Nat) : Int) := w64 (by omega) (by omega)
    have hb1 := bt_range s (i : Int)
    have hb2 := bt_range s ((i + 1 : Nat) : Int)
    rw [bytesOf_drop_cons s i (by omega), bytesOf_drop_cons s (i + 1) (by omega)]
    refine Ev.step (fun _ => impl_Unhex.l0.eq_2 _ _ _ _) (ev_pos (by omega) (ev_pos (by omega) ?_))
    rw [e3, e4]
    refine ev_of (index_eq _ (by omega) (by omega)) (ev_pos (by omega) (ev_pos (by omega) (ev_of (index_eq _ (by omega) (by omega)) ?_)))
    rw [unL]
    by_cases h1 : unC (bt s (i : Int)) < 0
    · rw [if_pos h1]; exact ev_pos h1 (ev_now rfl)
    · rw [if_neg h1]
      refine ev_neg h1 ?_
      by_cases h2 : unC (bt s ((i + 1 : Nat) : Int)) < 0
      · rw [if_pos h2]; exact ev_pos h2 (ev_now rfl)
      · rw [if_neg h2]
        exact ev_neg h2 (ev_pos (by omega) (ih (i + 2) _ (by omega) (by simp; omega)))
theorem unhex_impl (s : ByteArray) (hs : s.size ≤ 2097152) : Ev (fun k => impl_Unhex.f k s) (if s.size % 2 = 1 then ((⟨#[]⟩ : ByteArray), false) else unL (bytesOf s) []) := by
  unfold impl_Unhex.f
  by_cases h : s.size % 2 = 1
  · rw [if_pos h]; exact ev_neg (by omega) (ev_now rfl)
  · rw [if_neg h]
    have := unhex_impl_loop s hs (s.size / 2) 0 [] (by omega) (by simp)
    exact ev_pos (by omega) this

/-! ## section drawD -/
/-! what is drawn: that it is there, and how great it is -/
theorem w64_range (n : Int) : -9223372036854775808 ≤ wrap64 n ∧ wrap64 n ≤ 9223372036854775807 := by unfold wrap64; omega
theorem and255 (x : Int) : 0 ≤ Go.bits .and .i64 x 255 ∧ Go.bits .and .i64 x 255 ≤ 255 := by
  have h : Go.bits .and .i64 x 255 = IntKind.i64.wrap ((((BitVec.ofInt 64 x) &&& (BitVec.ofInt 64 255)).toNat : Nat) : Int) := rfl
  have e : (BitVec.ofInt 64 255).toNat = 255 := by decide
  rw [h, BitVec.toNat_and, e]
  have := Nat.and_le_right (n := (BitVec.ofInt 64 x).toNat) (m := 255)
  generalize (BitVec.ofInt 64 x).toNat &&& 255 = m at this
  rw [IntKind.wrap_i64]; omega
def curOk (l : List Int) (i : Int) : Prop := 0 ≤ i ∧ i ≤ (l.length : Int) ∧ l.length ≤ 1048576
theorem l1New_loop (l : List Int) (hl : l.length ≤ 1048576) : ∀ (d i : Nat) (h : Int), i + d = l.length → ∃ h', Ev (fun k => spec_l1New.l0 k l h (i : Int)) (l, 0, h') := by
  intro d
  induction d with
  | zero =>
    intro i h hi
    exact ⟨h, Ev.step (fun _ => spec_l1New.l0.eq_2 _ _ _ _) (ev_neg (by omega) (ev_now rfl))⟩
  | succ d ih =>
    intro i h hi
    by_cases hc : (i : Int) < 4000
    · obtain ⟨h', e⟩ := ih (i + 1) (Go.bits .and .i64 (wrap64 ((wrap64 ((wrap64 (h * 131)) + (wrap64 (rd l (i : Int))))) + 7)) 1073741823) (by omega)
      have e3 : wrap64 ((i : Int) + 1) = ((i + 1 : Nat) : Int) := w64 (by omega) (by omega)
      refine ⟨h', Ev.step (fun _ => spec_l1New.l0.eq_2 _ _ _ _) (ev_pos (by omega) (ev_pos hc (ev_pos (by omega) ?_)))⟩
      rw [e3]; exact e
    · exact ⟨h, Ev.step (fun _ => spec_l1New.l0.eq_2 _ _ _ _) (ev_pos (by omega) (ev_neg hc (ev_now rfl)))⟩
theorem l1New_ex (l : List Int) (hl : l.length ≤ 1048576) : ∃ h, Ev (fun k => spec_l1New.f k l) (l, 0, h) := by
  unfold spec_l1New.f
  exact l1New_loop l hl l.length 0 _ (by omega)
theorem l1Byte_ex (l : List Int) (i h : Int) (hc : curOk l i) : ∃ v i' h', spec_l1Byte.f l i h = some (v, i', h') ∧ (0 ≤ v ∧ v ≤ 255) ∧ curOk l i' := by
  obtain ⟨h0, h1, h2⟩ := hc
  unfold spec_l1Byte.f
  by_cases hlt : i < (l.length : Int)
  · rw [if_pos hlt, if_pos h0]
    exact ⟨_, _, _, rfl, and255 _, by rw [w64 (by omega) (by omega)]; omega, by rw [w64 (by omega) (by omega)]; omega, h2⟩
  · rw [if_neg hlt]
    exact ⟨_, _, _, rfl, and255 _, h0, h1, h2⟩
theorem tmod_lt (x a : Int) (hx : 0 ≤ x) (ha : 0 < a) : 0 ≤ Int.tmod x a ∧ Int.tmod x a < a := by
  rw [Int.tmod_eq_emod_of_nonneg hx]
  exact ⟨Int.emod_nonneg _ (by omega), Int.emod_lt_of_pos _ ha⟩
theorem l1Below_ex (l : List Int) (i h a : Int) (hc : curOk l i) : ∃ v i' h', spec_l1Below.f l i h a = some (v, i', h') ∧ 0 ≤ v ∧ (0 < a → v < a) ∧ (a ≤ 0 → v = 0) ∧ curOk l i' := by
  unfold spec_l1Below.f
  by_cases h0 : a ≤ 0
  · rw [if_pos h0]
    exact ⟨0, i, h, rfl, by omega, by omega, fun _ => rfl, hc⟩
  · rw [if_neg h0]
    by_cases h1 : a ≤ 256
    · rw [if_pos h1]
      obtain ⟨v, i', h', e, hv, hi⟩ := l1Byte_ex l i h hc
      rw [e, Option.bind_some, if_neg (by omega)]
      have := tmod_lt v a hv.1 (by omega)
      exact ⟨_, _, _, rfl, this.1, fun _ => this.2, fun h => absurd h h0, hi⟩
    · rw [if_neg h1]
      obtain ⟨v1, i1, h1', e1, hv1, hi1⟩ := l1Byte_ex l i h hc
      obtain ⟨v2, i2, h2', e2, hv2, hi2⟩ := l1Byte_ex l i1 h1' hi1
      obtain ⟨v3, i3, h3', e3, hv3, hi3⟩ := l1Byte_ex l i2 h2' hi2
      obtain ⟨v4, i4, h4', e4, hv4, hi4⟩ := l1Byte_ex l i3 h3' hi3
      simp only [e1, e2, e3, e4, Option.bind_some]
      rw [if_neg (by omega)]
      have w : wrap64 ((wrap64 ((wrap64 ((wrap64 (v1 * 16777216)) + (wrap64 (v2 * 65536)))) + (wrap64 (v3 * 256)))) + v4) = v1 * 16777216 + v2 * 65536 + v3 * 256 + v4 := by
        rw [w64 (n := v1 * 16777216) (by omega) (by omega), w64 (n := v2 * 65536) (by omega) (by omega), w64 (n := v3 * 256) (by omega) (by omega), w64 (n := v1 * 16777216 + v2 * 65536) (by omega) (by omega), w64 (n := v1 * 16777216 + v2 * 65536 + v3 * 256) (by omega) (by omega), w64 (by omega) (by omega)]
      rw [w]
      have := tmod_lt (v1 * 16777216 + v2 * 65536 + v3 * 256 + v4) a (by omega) (by omega)
      exact ⟨_, _, _, rfl, this.1, fun _ => this.2, fun h => absurd h h0, hi4⟩
theorem l1PickInt_ex (l : List Int) (i h : Int) (p : List Int) (hp : 0 < p.length) (hc : curOk l i) : ∃ j i' h', spec_l1PickInt.f l i h p = some (rd p (j : Int), i', h') ∧ 0 ≤ j ∧ j < (p.length : Int) ∧ curOk l i' := by
  unfold spec_l1PickInt.f
  obtain ⟨v, i', h', e, h0, h1, _, hi⟩ := l1Below_ex l i h (p.length : Int) hc
  have h2 := h1 (by omega)
  rw [e, Option.bind_some, if_pos h0, if_pos h2]
  exact ⟨v, _, _, rfl, h0, h2, hi⟩

/-! ## section drawNum -/
theorem l1Num_ex (l : List Int) (i h : Int) (hc : curOk l i) : ∃ v i' h', spec_l1Num.f l i h = some (v, i', h') ∧ (-9223372036854775808 ≤ v ∧ v ≤ 9223372036854775807) ∧ curOk l i' := by
  unfold spec_l1Num.f
  obtain ⟨v, i1, h1, e, _, _, _, hi1⟩ := l1Below_ex l i h 8 hc
  rw [e, Option.bind_some]
  simp only
  split
  · obtain ⟨j, i2, h2, e2, hj0, hj1, hi2⟩ := l1PickInt_ex l i1 h1 [(-1), 0, 127, 128, 255, 256, 16383, 16384, 65535, 65536, 562949953421311, 562949953421312, 999999999, 1000000000, (-999999999), 9223372036854775807, (-9223372036854775808)] (by decide) hi1
    rw [e2, Option.bind_some]
    refine ⟨_, _, _, rfl, ?_, hi2⟩
    obtain ⟨m, rfl⟩ := Int.eq_ofNat_of_zero_le hj0
    have hm : m < 17 := by simp at hj1; omega
    have : ∀ q : Fin 17, -9223372036854775808 ≤ rd [(-1), 0, 127, 128, 255, 256, 16383, 16384, 65535, 65536, 562949953421311, 562949953421312, 999999999, 1000000000, (-999999999), 9223372036854775807, (-9223372036854775808)] (q.val : Int) ∧ rd [(-1), 0, 127, 128, 255, 256, 16383, 16384, 65535, 65536, 562949953421311, 562949953421312, 999999999, 1000000000, (-999999999), 9223372036854775807, (-9223372036854775808)] (q.val : Int) ≤ 9223372036854775807 := by decide
    exact this ⟨m, hm⟩
  · split
    · obtain ⟨v2, i2, h2, e2, _, _, _, hi2⟩ := l1Below_ex l i1 h1 1000000000 hi1
      obtain ⟨v3, i3, h3, e3, _, _, _, hi3⟩ := l1Below_ex l i2 h2 1000000000 hi2
      simp only [e2, e3, Option.bind_some]
      exact ⟨_, _, _, rfl, w64_range _, hi3⟩
    · split
      · obtain ⟨v2, i2, h2, e2, _, _, _, hi2⟩ := l1Below_ex l i1 h1 100000 hi1
        simp only [e2, Option.bind_some]
        exact ⟨_, _, _, rfl, w64_range _, hi2⟩
      · obtain ⟨v2, i2, h2, e2, g0, g1, _, hi2⟩ := l1Below_ex l i1 h1 70000 hi1
        simp only [e2, Option.bind_some]
        exact ⟨_, _, _, rfl, by have := g1 (by decide); omega, hi2⟩

/-! ## section drawText -/
theorem l1Text_loop (l : List Int) (x6 : Int) : ∀ (d : Nat) (acc : List Int) (i h : Int), d + acc.length ≤ 100000 → curOk l i →
    ∃ s i' h', Ev (fun k => spec_l1Text.l0 k acc x6 (d : Int) l i h) (s, i', h') ∧ s.size ≤ d + acc.length ∧ curOk l i' := by
  intro d
  induction d with
  | zero =>
    intro acc i h ha hc
    exact ⟨_, _, _, Ev.step (fun _ => spec_l1Text.l0.eq_2 _ _ _ _ _ _ _) (ev_neg (by omega) (ev_now rfl)), by rw [strOfNums_size]; omega, hc⟩
  | succ d ih =>
    intro acc i h ha hc
    obtain ⟨v, i1, h1, e, _, hi1⟩ := l1Byte_ex l i h hc
    have e3 : wrap64 (((d + 1 : Nat) : Int) - 1) = (d : Int) := by rw [w64 (by omega) (by omega)]; omega
    have step : ∀ b : Int, ∃ s i' h', Ev (fun k => if acc.length < 140737488355328 then spec_l1Text.l0 k (acc ++ [b]) x6 (wrap64 (((d + 1 : Nat) : Int) - 1)) l i1 h1 else none) (s, i', h') ∧ s.size ≤ d + 1 + acc.length ∧ curOk l i' := by
      intro b
      obtain ⟨s, i', h', g, gs, gi⟩ := ih (acc ++ [b]) i1 h1 (by simp; omega) hi1
      exact ⟨s, i', h', ev_pos (by omega) (by rw [e3]; exact g), by simp at gs; omega, gi⟩
    by_cases c1 : x6 = 1
    · by_cases c2 : x6 = 2
      · omega
      · obtain ⟨s, i', h', g, gs, gi⟩ := step ((Int.tmod v 2) % 256)
        exact ⟨s, i', h', Ev.step (fun _ => spec_l1Text.l0.eq_2 _ _ _ _ _ _ _) (ev_pos (by omega) (ev_of e (ev_pos c1 (ev_neg c2 g)))), gs, gi⟩
    · by_cases c2 : x6 = 2
      · obtain ⟨s, i', h', g, gs, gi⟩ := step ((wrap64 (97 + (Int.tmod v 4))) % 256)
        exact ⟨s, i', h', Ev.step (fun _ => spec_l1Text.l0.eq_2 _ _ _ _ _ _ _) (ev_pos (by omega) (ev_of e (ev_neg c1 (ev_pos c2 g)))), gs, gi⟩
      · obtain ⟨s, i', h', g, gs, gi⟩ := step ((v) % 256)
        exact ⟨s, i', h', Ev.step (fun _ => spec_l1Text.l0.eq_2 _ _ _ _ _ _ _) (ev_pos (by omega) (ev_of e (ev_neg c1 (ev_neg c2 g)))), gs, gi⟩
theorem l1Text_ex (l : List Int) (i h : Int) (a : Nat) (ha : a ≤ 90000) (hc : curOk l i) : ∃ s i' h', Ev (fun k => spec_l1Text.f k l i h (a : Int)) (s, i', h') ∧ s.size ≤ a ∧ curOk l i' := by
  unfold spec_l1Text.f
  obtain ⟨v, i1, h1, e, _, _, _, hi1⟩ := l1Below_ex l i h 4 hc
  obtain ⟨v2, i2, h2, e2, g0, g1, _, hi2⟩ := l1Below_ex l i1 h1 (wrap64 ((a : Int) + 1)) hi1
  rw [w64 (by omega) (by omega)] at g1
  have g2 := g1 (by omega)
  obtain ⟨n, rfl⟩ := Int.eq_ofNat_of_zero_le g0
  obtain ⟨s, i', h', g, gs, gi⟩ := l1Text_loop l v n [] i2 h2 (by simp; omega) hi2
  exact ⟨s, i', h', ev_of e (ev_of e2 g), by simp at gs; omega, gi⟩

/-! ## section drawSpoil -/
theorem l1Once_ex (l : List Int) (i h a : Int) (hc : curOk l i) : ∃ v i' h', spec_l1Once.f l i h a = some (v, i', h') ∧ curOk l i' := by
  unfold spec_l1Once.f
  obtain ⟨v, i1, h1, e, _, _, _, hi1⟩ := l1Below_ex l i h a hc
  rw [e, Option.bind_some]
  exact ⟨_, _, _, rfl, hi1⟩
theorem l1Spoil_ex (l : List Int) (i h : Int) (s : ByteArray) (hs : s.size ≤ 1000000) (hc : curOk l i) : ∃ r i' h', Ev (fun k => spec_l1Spoil.f k l i h s) (r, i', h') ∧ r.size ≤ s.size + 3 ∧ curOk l i' := by
  unfold spec_l1Spoil.f
  by_cases h0 : (s.size : Int) = 0
  · obtain ⟨t, i1, h1, e, g, hi1⟩ := l1Text_ex l i h 3 (by omega) hc
    exact ⟨t, i1, h1, ev_pos h0 (Ev.bind e (ev_now rfl)), by omega, hi1⟩
  · obtain ⟨v, i1, h1, e1, p0, p1, _, hi1⟩ := l1Below_ex l i h (s.size : Int) hc
    have p2 := p1 (by omega)
    obtain ⟨v2, i2, h2, e2, q0, q1, _, hi2⟩ := l1Below_ex l i1 h1 4 hi1
    have w1 : wrap64 (v + 1) = v + 1 := w64 (by omega) (by omega)
    have z1 : (s.extract 0 v.toNat).size = v.toNat := by rw [ByteArray.size_extract]; omega
    have z2 : (s.extract (v + 1).toNat s.size).size = s.size - (v + 1).toNat := by rw [ByteArray.size_extract]; omega
    have z3 : (s.extract v.toNat s.size).size = s.size - v.toNat := by rw [ByteArray.size_extract]; omega
    by_cases c0 : v2 = 0
    · refine ⟨_, _, _, ev_neg h0 (ev_of e1 (ev_of e2 (ev_pos c0 (ev_pos p0 (ev_pos (by dsimp only; omega) (ev_pos (by dsimp only; rw [w1]; omega) (ev_pos (by dsimp only; rw [w1]; omega) (ev_pos (by dsimp only; rw [w1]; omega) (ev_now rfl))))))))), ?_, hi2⟩
      dsimp only; rw [ByteArray.size_append, w1, z1, z2]; omega
    · by_cases c1 : v2 = 1
      · obtain ⟨b, i3, h3, e3, _, hi3⟩ := l1Byte_ex l i2 h2 hi2
        refine ⟨_, _, _, ev_neg h0 (ev_of e1 (ev_of e2 (ev_neg c0 (ev_pos c1 (ev_pos p0 (ev_pos (by dsimp only; omega) (ev_of e3 (ev_some (ev_pos ?_ (ev_pos ?_ (ev_now rfl))))))))))), ?_, hi3⟩
        · dsimp only; rw [strOfNums_size, z1]; simp; omega
        · dsimp only; rw [ByteArray.size_append, strOfNums_size, z1, z3]; simp; omega
        · dsimp only; rw [ByteArray.size_append, ByteArray.size_append, strOfNums_size, z1, z3]; simp; omega
      · by_cases c2 : v2 = 2
        · exact ⟨_, _, _, ev_neg h0 (ev_of e1 (ev_of e2 (ev_neg c0 (ev_neg c1 (ev_pos c2 (ev_pos p0 (ev_pos (by dsimp only; omega) (ev_now rfl)))))))), by dsimp only; omega, hi2⟩
        · obtain ⟨b, i3, h3, e3, _, _, _, hi3⟩ := l1Below_ex l i2 h2 255 hi2
          refine ⟨_, _, _, ev_neg h0 (ev_of e1 (ev_of e2 (ev_neg c0 (ev_neg c1 (ev_neg c2 (ev_pos p0 (ev_pos (by dsimp only; omega) (ev_pos p2 (ev_of e3 (ev_some (ev_pos ?_ (ev_pos (by dsimp only; rw [w1]; omega) (ev_pos (by dsimp only; rw [w1]; omega) (ev_pos ?_ (ev_now rfl))))))))))))))), ?_, hi3⟩
          · dsimp only; rw [strOfNums_size, z1]; simp; omega
          · dsimp only; rw [ByteArray.size_append, strOfNums_size, w1, z1, z2]; simp; omega
          · dsimp only; rw [ByteArray.size_append, ByteArray.size_append, strOfNums_size, w1, z1, z2]; simp; omega

/-! ## section FnNumbers -/
theorem drawVar_ex (l : List Int) (hl : l.length ≤ 1048576) : ∃ n, Ev (fun k => spec_DrawVar.f k l) n ∧ -9223372036854775808 ≤ n ∧ n ≤ 9223372036854775807 := by
  unfold spec_DrawVar.f
  obtain ⟨h, e⟩ := l1New_ex l hl
  obtain ⟨v, i', h', e2, hr, _⟩ := l1Num_ex l 0 h ⟨by omega, by omega, hl⟩
  exact ⟨v, Ev.bind e (ev_of e2 (ev_now rfl)), hr⟩
theorem drawHex_ex (l : List Int) (hl : l.length ≤ 1048576) : ∃ s, Ev (fun k => spec_DrawHex.f k l) s ∧ s.size ≤ 40 := by
  unfold spec_DrawHex.f
  obtain ⟨h, e⟩ := l1New_ex l hl
  obtain ⟨s, i', h', e2, hs, _⟩ := l1Text_ex l 0 h 40 (by omega) ⟨by omega, by omega, hl⟩
  exact ⟨s, Ev.bind e (Ev.bind e2 (ev_now rfl)), hs⟩
theorem specVar_ex (n : Int) : ∃ s, Ev (fun k => spec_Var.f k n) s ∧ s.size ≤ 7 := by
  by_cases h : 0 ≤ n ∧ n ≤ 562949953421311
  · obtain ⟨m, rfl⟩ := Int.eq_ofNat_of_zero_le h.1
    exact ⟨_, var_spec m (by omega), by rw [strOfNums_size]; exact varL_len 6 m (by omega)⟩
  · exact ⟨_, var_spec_out n (by omega), by decide⟩
theorem drawReadVar_ex (l : List Int) (hl : l.length ≤ 1048576) : ∃ s, Ev (fun k => spec_DrawReadVar.f k l) s ∧ s.size ≤ 100 := by
  unfold spec_DrawReadVar.f
  obtain ⟨h, e⟩ := l1New_ex l hl
  obtain ⟨v, i1, h1, e2, hr, hi1⟩ := l1Num_ex l 0 h ⟨by omega, by omega, hl⟩
  obtain ⟨s, e3, hs⟩ := specVar_ex v
  obtain ⟨t, i2, h2, e4, ht, hi2⟩ := l1Text_ex l i1 h1 4 (by omega) hi1
  obtain ⟨b, i3, h3, e5, hi3⟩ := l1Once_ex l i2 h2 4 hi2
  cases b with
  | false => exact ⟨s ++ t, Ev.bind e (ev_of e2 (Ev.bind e3 (Ev.bind e4 (ev_pos (by dsimp only; omega) (ev_of e5 (ev_neg (by simp) (ev_now rfl))))))), by rw [ByteArray.size_append]; omega⟩
  | true =>
    obtain ⟨r, i4, h4, e6, hr6, _⟩ := l1Spoil_ex l i3 h3 (s ++ t) (by rw [ByteArray.size_append]; omega) hi3
    exact ⟨r, Ev.bind e (ev_of e2 (Ev.bind e3 (Ev.bind e4 (ev_pos (by dsimp only; omega) (ev_of e5 (ev_pos rfl (Ev.bind e6 (ev_now rfl)))))))), by rw [ByteArray.size_append] at hr6; omega⟩
/-- what is drawn of a code, said once -/
structure Drawn3 (l : List Int) (n : Int) (tail s : ByteArray) : Prop where
  n0 : -9223372036854775808 ≤ n ∧ n ≤ 9223372036854775807
  t0 : tail.size ≤ 40
  s0 : s.size ≤ 100
  s1 : Ev (fun k => spec_DrawReadVar.f k l) s
theorem str_nil_iff (s : ByteArray) : s.toList = ([] : List UInt8) ↔ s.size = 0 := by
  rw [toList_iff, ← bytesOf_length]
  simp
theorem unL_hexL : ∀ (l acc : List Int), (∀ x ∈ l, 0 ≤ x ∧ x ≤ 255) → unL (hexL l) acc = (strOfNums (acc ++ l), true)
  | [], acc, _ => by rw [show hexL [] = [] from rfl, unL, List.append_nil]
  | x :: l, acc, h => by
    have hx := h x (by simp)
    have e : hexL (x :: l) = hexC (x / 16) :: hexC (x % 16) :: hexL l := rfl
    rw [e, unL, unC_hexC _ (by omega) (by omega), unC_hexC _ (by omega) (by omega), if_neg (by omega), if_neg (by omega), unL_hexL l _ (fun y hy => h y (by simp [hy]))]
    have w : wrap64 ((wrap64 (16 * (x / 16))) + x % 16) % 256 = x := by
      rw [w64 (n := 16 * (x / 16)) (by omega) (by omega), w64 (by omega) (by omega)]; omega
    rw [w]; simp
theorem numbers_j2 (l : List Int) (n : Int) (tail s : ByteArray) (D : Drawn3 l n tail s) : Ev (fun k => laws_FnNumbers.j2 k l tail false) true := by
  refine Ev.step (fun _ => laws_FnNumbers.j2.eq_2 _ _ _ _) (ev_neg (by simp) ?_)
  have ht := D.t0
  have hs := D.s0
  have hx : (strOfNums (hexL (bytesOf tail))).size = 2 * tail.size := by rw [strOfNums_size, hexL_len, bytesOf_length]
  have hu := unhex_impl (strOfNums (hexL (bytesOf tail))) (by omega)
  have hb : ∀ y ∈ hexL (bytesOf tail), 0 ≤ y ∧ y ≤ 255 := by
    intro y hy
    unfold hexL at hy
    rw [List.mem_flatMap] at hy
    obtain ⟨x, hx1, hx2⟩ := hy
    have hr := bytesOf_range tail x hx1
    simp only [List.mem_cons, List.not_mem_nil, or_false] at hx2
    rcases hx2 with rfl | rfl
    · exact hexC_range _ (by omega) (by omega)
    · exact hexC_range _ (by omega) (by omega)
  rw [if_neg (by omega), bytesOf_strOfNums _ hb, unL_hexL _ _ (bytesOf_range tail), List.nil_append, strOfNums_bytesOf] at hu
  refine Ev.bind (hex_impl tail (by omega)) (Ev.bind hu (Ev.bind D.s1 (Ev.bind (readvar_impl s (by omega)) (ev_pos rfl (ev_pos rfl ?_)))))
  cases hr : rdv 7 true (bytesOf s) with
  | none => rw [readN_none hr]; exact ev_pos rfl (ev_now rfl)
  | some p =>
    obtain ⟨m, q⟩ := p
    obtain ⟨q1, q2, q3, q4, q5, _, q7⟩ := rdv_some 7 true _ m q (bytesOf_range s) hr
    rw [bytesOf_length] at q1
    rw [readN_some hr]
    have e2 : ((q : Nat) : Int).toNat = q := rfl
    refine ev_neg (by simp only; omega) (Ev.bind (var_impl m (by simpa using q5)) (Ev.bind D.s1 (ev_pos (by simp only; omega) (ev_pos (by simp only; omega) (ev_now ?_)))))
    simp only [e2]
    have : strOfNums (varL m) = s.extract 0 q := by
      apply byte_ext
      rw [bytesOf_strOfNums _ (varL_byte m), bytesOf_extract, ← q4]; simp
    rw [this]; simp
theorem numbers_j1 (l : List Int) (n : Int) (tail s : ByteArray) (D : Drawn3 l n tail s) : Ev (fun k => laws_FnNumbers.j1 k l n tail false) true := by
  refine Ev.step (fun _ => laws_FnNumbers.j1.eq_2 _ _ _ _ _) (ev_neg (by simp) ?_)
  have hn := D.n0
  have hlen : (strOfNums (decL n)).size ≤ 30 := by
    rw [strOfNums_size, decL_len]
    have := digs_len 20 n.natAbs (by omega)
    split <;> omega
  obtain ⟨r, e, hr⟩ := readdec_impl (strOfNums (decL n)) (by omega)
  have hdb : ∀ y ∈ decL n, 0 ≤ y ∧ y ≤ 255 := by
    intro y hy
    unfold decL at hy
    split at hy
    · rcases List.mem_cons.1 hy with rfl | hy
      · omega
      · have := digs_digit _ y hy; omega
    · have := digs_digit _ y hy; omega
  rw [bytesOf_strOfNums _ hdb] at hr
  have hres : r = if -1000000000 < n ∧ n < 1000000000 then (n, true) else (0, false) := by
    rcases hr with ⟨m, rfl, hm⟩ | ⟨rfl, hno⟩
    · have : m = n := decL_inj hm.1
      obtain ⟨_, h1, h2⟩ := hm
      rw [if_pos (by omega), this]
    · rw [if_neg (fun h => hno n ⟨rfl, by omega, by omega⟩)]
  refine Ev.bind (dec_impl n hn.1 hn.2) (Ev.bind e ?_)
  rw [hres]
  have J := numbers_j2 l n tail s D
  by_cases h1 : n > -1000000000
  · refine ev_pos h1 ?_
    by_cases h2 : n < 1000000000
    · rw [if_pos ⟨by omega, h2⟩]
      refine ev_neg (by simp [h2]) (ev_pos rfl ?_)
      simpa using J
    · rw [if_neg (by omega)]
      exact ev_neg (by simp; omega) (ev_neg (by simp) J)
  · rw [if_neg (by omega)]
    exact ev_neg h1 (ev_neg (by simp) (ev_neg (by simp) J))
theorem numbers_j0 (l : List Int) (n : Int) (tail s : ByteArray) (D : Drawn3 l n tail s) : Ev (fun k => laws_FnNumbers.j0 k l n tail false) true := by
  refine Ev.step (fun _ => laws_FnNumbers.j0.eq_2 _ _ _ _ _) (ev_neg (by simp) ?_)
  have hn := D.n0
  have ht := D.t0
  have J := numbers_j1 l n tail s D
  by_cases h0 : n < 0
  · refine Ev.bind (fixed_impl_out n 7 (.inr (.inr h0))) (ev_pos (by have : (⟨#[]⟩ : ByteArray).size = 0 := rfl; omega) (Ev.bind (readfixed_impl _ 7) (ev_pos ((str_nil_iff _).2 rfl) (ev_pos h0 ?_))))
    have : (((⟨#[]⟩ : ByteArray).toList == ([] : List UInt8)) != true) = false := by rw [(str_nil_iff _).2 rfl]; rfl
    rw [this]; exact J
  · obtain ⟨m, rfl⟩ := Int.eq_ofNat_of_zero_le (show 0 ≤ n by omega)
    have hf := fixed_impl m 7 (by omega) (by omega) (by omega)
    by_cases h1 : m < 256 ^ 7
    · rw [if_pos h1] at hf
      have hz : (strOfNums (fixL 7 m)).size = 7 := by rw [strOfNums_size, fixL_len]
      have hb : (bytesOf (strOfNums (fixL 7 m) ++ tail)).take 7 = fixL 7 m := by
        rw [bytesOf_append, bytesOf_strOfNums _ (fixL_byte 7 m), List.take_left' (fixL_len 7 m)]
      have hrf := readfixed_impl (strOfNums (fixL 7 m) ++ tail) 7
      have hl : (bytesOf (strOfNums (fixL 7 m) ++ tail)).length = 7 + tail.size := by rw [bytesOf_length, ByteArray.size_append, hz]
      unfold readFixN at hrf
      have e7 : (7 : Int).toNat = 7 := rfl
      rw [if_pos (by rw [hl]; omega), e7, hb, fixN_fixL 7 m h1] at hrf
      have hnn : ¬ (strOfNums (fixL 7 m)).toList = ([] : List UInt8) := fun h => by have := (str_nil_iff _).1 h; omega
      refine Ev.bind hf (ev_pos (by omega) (Ev.bind hrf (ev_neg hnn (ev_pos rfl (ev_pos rfl (ev_pos (by omega) (ev_neg h0 ?_)))))))
      have : (((strOfNums (fixL 7 m)).toList == ([] : List UInt8)) != (decide ((m : Int) ≥ 72057594037927936))) = false := by
        have h2 : m < 72057594037927936 := by simpa using h1
        have e1 : ((strOfNums (fixL 7 m)).toList == ([] : List UInt8)) = false := by simpa using hnn
        rw [e1, decide_eq_false (by omega)]; rfl
      rw [this]; exact J
    · rw [if_neg h1] at hf
      refine Ev.bind hf (ev_pos (by have : (⟨#[]⟩ : ByteArray).size = 0 := rfl; omega) (Ev.bind (readfixed_impl _ 7) (ev_pos ((str_nil_iff _).2 rfl) (ev_neg h0 ?_))))
      have : (((⟨#[]⟩ : ByteArray).toList == ([] : List UInt8)) != (decide ((m : Int) ≥ 72057594037927936))) = false := by
        have h2 : 72057594037927936 ≤ m := by simpa using h1
        rw [(str_nil_iff _).2 rfl, decide_eq_true (by omega)]; rfl
      rw [this]; exact J
theorem FnNumbers : laws_FnNumbers.Pure := by
  intro l hl
  unfold laws_FnNumbers.f
  refine Ev.rounds (r := true) ?_
  unfold laws_big.f
  refine ev_some ?_
  by_cases hbig : (l.length : Int) > 1048576
  · exact ev_pos (by simpa using hbig) (ev_now rfl)
  · refine ev_neg (by simpa using hbig) ?_
    have hl2 : l.length ≤ 1048576 := by omega
    obtain ⟨n, e1, hn⟩ := drawVar_ex l hl2
    obtain ⟨tail, e2, ht⟩ := drawHex_ex l hl2
    obtain ⟨s, e3, hs⟩ := drawReadVar_ex l hl2
    have D : Drawn3 l n tail s := ⟨hn, ht, hs, e3⟩
    have J := numbers_j0 l n tail s D
    have z0 : (⟨#[]⟩ : ByteArray).size = 0 := rfl
    refine Ev.bind e1 (Ev.bind e2 ?_)
    by_cases h0 : 0 ≤ n ∧ n ≤ 562949953421311
    · obtain ⟨m, rfl⟩ := Int.eq_ofNat_of_zero_le h0.1
      have hz : (strOfNums (varL m)).size = (varL m).length := strOfNums_size _
      have hz7 : (varL m).length ≤ 7 := varL_len 6 m (by omega)
      have hz1 := varL_pos m
      have hnn : ¬ (strOfNums (varL m)).toList = ([] : List UInt8) := fun h => by have := (str_nil_iff _).1 h; omega
      have hr : readN (bytesOf (strOfNums (varL m) ++ tail)) = ((m : Int), ((varL m).length : Int)) := by
        rw [bytesOf_append, bytesOf_strOfNums _ (varL_byte m)]
        exact readN_some (rdv_varL 6 m true _ (by omega) (by simp))
      have hv := readvar_impl (strOfNums (varL m) ++ tail) (by rw [ByteArray.size_append]; omega)
      rw [hr] at hv
      refine Ev.bind (var_impl m (by omega)) (ev_pos (by omega) (Ev.bind hv (ev_pos (by omega) (ev_neg ?_ (ev_neg hnn (ev_pos rfl ?_))))))
      · have e1 : ((strOfNums (varL m)).toList != ([] : List UInt8)) = true := by simpa using hnn
        rw [e1, decide_eq_true h0.2]; simp
      · have : (((varL m).length : Int) != ((strOfNums (varL m)).size : Int)) = false := by rw [hz]; simp
        simp only [this]; exact J
    · have e1 : ((⟨#[]⟩ : ByteArray).toList != ([] : List UInt8)) = false := by rw [(str_nil_iff _).2 rfl]; rfl
      refine Ev.bind (var_impl_out n (by omega)) (ev_pos (by omega) (Ev.bind (readvar_impl _ (by rw [ByteArray.size_append]; omega)) ?_))
      by_cases h1 : n ≥ 0
      · refine ev_pos h1 (ev_neg ?_ (ev_pos ((str_nil_iff _).2 rfl) J))
        rw [e1, decide_eq_false (by omega)]; simp
      · refine ev_neg h1 (ev_neg ?_ (ev_pos ((str_nil_iff _).2 rfl) J))
        rw [e1]; simp

end Go.Proofs.Ytgpcgfmmmnmfhaa.Pure
