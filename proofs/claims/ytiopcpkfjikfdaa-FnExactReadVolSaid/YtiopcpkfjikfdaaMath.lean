import Derived.Laws.BitsLemmas
import Derived.Laws.BytesArg
import Derived.RowKit
set_option linter.unusedVariables false
namespace Go.Proofs.Ytiopcpkfjikfdaa.Mth
open Go.RowKit

theorem w64 {n : Int} (h0 : -9223372036854775808 ≤ n) (h1 : n ≤ 9223372036854775807) : wrap64 n = n := by
  unfold wrap64; omega

theorem wf_i64 {n : Int} (h : (Lit.int .i64 n).wf = true) : -9223372036854775808 ≤ n ∧ n ≤ 9223372036854775807 := by
  simp [Lit.wf, IntKind.min, IntKind.max, IntKind.signed, IntKind.bits] at h
  omega

theorem wraps_i64 (n : Int) (h₀ : 0 ≤ n) (h₁ : n < 2 ^ 63) : IntKind.i64.wrap n = n := by
  rw [IntKind.wrap_i64]; omega

/-- x & (2^i - 1) of a number that is not below 0 -/
theorem and_mask (i : Nat) (hi : i ≤ 63) (x : Int) (h₀ : 0 ≤ x) (h₁ : x ≤ 9223372036854775807) : Go.bits .and .i64 x (2 ^ i - 1) = x % 2 ^ i :=
  bits_mask .i64 63 (by decide) wraps_i64 i hi x h₀ (by omega)

theorem and127 (x : Int) (h₀ : 0 ≤ x) (h₁ : x ≤ 9223372036854775807) : Go.bits .and .i64 x 127 = x % 128 := by
  have := and_mask 7 (by decide) x h₀ h₁; simpa using this

theorem or_join (i : Nat) (x y : Int) (hx₀ : 0 ≤ x) (hx : x % 2 ^ i = 0) (hx₁ : x ≤ 9223372036854775807) (hy₀ : 0 ≤ y) (hy : y < 2 ^ i) (hy₁ : y ≤ 9223372036854775807) : Go.bits .or .i64 x y = x + y :=
  bits_join .i64 63 (by decide) wraps_i64 i x y hx₀ hx (by omega) hy₀ hy (by omega)

theorem or_comm' (k : IntKind) (x y : Int) : Go.bits .or k x y = Go.bits .or k y x := by
  unfold Go.bits; simp only [BitVec.or_comm]

theorem or128 (y : Int) (h0 : 0 ≤ y) (h1 : y < 128) : Go.bits .or .i64 y 128 = 128 + y := by
  rw [or_comm']; exact or_join 7 128 y (by decide) (by decide) (by decide) h0 (by simpa using h1) (by omega)

/-! ### Var -/
def varL (n : Nat) : List Int := if h : n < 128 then [(n : Int)] else ((128 + n % 128 : Nat) : Int) :: varL (n / 128)
termination_by n

theorem varL_lt {n : Nat} (h : n < 128) : varL n = [(n : Int)] := by rw [varL, dif_pos h]
theorem varL_ge {n : Nat} (h : 128 ≤ n) : varL n = ((128 + n % 128 : Nat) : Int) :: varL (n / 128) := by rw [varL, dif_neg (by omega)]

theorem varL_len : ∀ (d n : Nat), n < 128 ^ (d + 1) → (varL n).length ≤ d + 1
  | 0, n, h => by rw [varL_lt (by simpa using h)]; simp
  | d + 1, n, h => by
    by_cases h1 : n < 128
    · rw [varL_lt h1]; simp
    · rw [varL_ge (by omega), List.length_cons]
      have := varL_len d (n / 128) (by rw [Nat.pow_succ] at h; omega)
      omega

theorem varL_pos (n : Nat) : 1 ≤ (varL n).length := by
  by_cases h1 : n < 128
  · rw [varL_lt h1]; simp
  · rw [varL_ge (by omega)]; simp

theorem varL_byte : ∀ (n : Nat), ∀ x ∈ varL n, 0 ≤ x ∧ x ≤ 255 := by
  intro n
  induction n using Nat.strongRecOn with
  | _ n ih =>
    intro x hx
    by_cases h1 : n < 128
    · rw [varL_lt h1] at hx; simp at hx; omega
    · rw [varL_ge (by omega)] at hx
      rcases List.mem_cons.1 hx with rfl | hx
      · omega
      · exact ih _ (by omega) x hx

/-- What stands at the begin of a list as a Var: the number, and how many bytes. -/
def rdv : Nat → Bool → List Int → Option (Nat × Nat)
  | 0, _, _ => none
  | _ + 1, _, [] => none
  | f + 1, first, b :: t =>
    if 128 ≤ b then (rdv f false t).map fun p => ((b - 128).toNat + 128 * p.1, p.2 + 1)
    else if b = 0 ∧ first = false then none else some (b.toNat, 1)

theorem rdv_varL : ∀ (d n : Nat) (first : Bool) (t : List Int), n < 128 ^ (d + 1) → (first = false → 0 < n) → rdv (d + 1) first (varL n ++ t) = some (n, (varL n).length)
  | 0, n, first, t, h, hf => by
    have h1 : n < 128 := by simpa using h
    rw [varL_lt h1]
    simp only [rdv, List.singleton_append]
    rw [if_neg (by omega), if_neg]
    · simp
    · rintro ⟨h0, hf'⟩
      have := hf hf'; omega
  | d + 1, n, first, t, h, hf => by
    by_cases h1 : n < 128
    · rw [varL_lt h1]
      simp only [rdv, List.singleton_append]
      rw [if_neg (by omega), if_neg]
      · simp
      · rintro ⟨h0, hf'⟩
        have := hf hf'; omega
    · rw [varL_ge (by omega), List.cons_append]
      have ih := rdv_varL d (n / 128) false t (by rw [Nat.pow_succ] at h; omega) (by omega)
      rw [rdv, if_pos (by omega), ih]
      simp only [Option.map_some, List.length_cons]
      congr 1
      have : (((128 + n % 128 : Nat) : Int) - 128).toNat = n % 128 := by omega
      rw [this]
      have : n % 128 + 128 * (n / 128) = n := by omega
      rw [this]

theorem rdv_some : ∀ (f : Nat) (first : Bool) (l : List Int) (n k : Nat), (∀ x ∈ l, 0 ≤ x ∧ x ≤ 255) → rdv f first l = some (n, k) →
    k ≤ l.length ∧ k ≤ f ∧ 1 ≤ k ∧ l.take k = varL n ∧ n < 128 ^ f ∧ (first = false → 0 < n) ∧ k = (varL n).length
  | 0, _, _, _, _, _, h => by simp [rdv] at h
  | _ + 1, _, [], _, _, _, h => by simp [rdv] at h
  | f + 1, first, b :: t, n, k, hb, h => by
    have hb0 := hb b (by simp)
    rw [rdv] at h
    by_cases h1 : 128 ≤ b
    · rw [if_pos h1] at h
      cases hr : rdv f false t with
      | none => rw [hr] at h; simp at h
      | some p =>
        obtain ⟨n', k'⟩ := p
        rw [hr] at h
        simp only [Option.map_some, Option.some.injEq, Prod.mk.injEq] at h
        obtain ⟨rfl, rfl⟩ := h
        have ih := rdv_some f false t n' k' (fun x hx => hb x (by simp [hx])) hr
        obtain ⟨i1, i2, i3, i4, i5, i6, i7⟩ := ih
        have hn := i6 rfl
        have hv : varL ((b - 128).toNat + 128 * n') = b :: varL n' := by
          rw [varL_ge (by omega)]
          have e1 : (((128 + ((b - 128).toNat + 128 * n') % 128 : Nat)) : Int) = b := by omega
          have e2 : ((b - 128).toNat + 128 * n') / 128 = n' := by omega
          rw [e1, e2]
        refine ⟨by simp; omega, by omega, by omega, ?_, ?_, by omega, ?_⟩
        · rw [List.take_succ_cons, i4, hv]
        · rw [Nat.pow_succ]; omega
        · rw [hv, List.length_cons]; omega
    · rw [if_neg h1] at h
      by_cases h2 : b = 0 ∧ first = false
      · rw [if_pos h2] at h; simp at h
      · rw [if_neg h2] at h
        simp only [Option.some.injEq, Prod.mk.injEq] at h
        obtain ⟨rfl, rfl⟩ := h
        have hlt : b.toNat < 128 := by omega
        refine ⟨by simp, by omega, by omega, ?_, ?_, ?_, ?_⟩
        · rw [varL_lt hlt]
          have : ((b.toNat : Nat) : Int) = b := by omega
          simp [this]
        · have : 1 ≤ 128 ^ f := Nat.one_le_pow _ _ (by decide)
          rw [Nat.pow_succ]; omega
        · intro hf
          have : b ≠ 0 := fun e => h2 ⟨e, hf⟩
          omega
        · rw [varL_lt hlt]; rfl

/-- the number of the low seven bits of each byte -/
def low : List Int → Nat
  | [] => 0
  | b :: t => b.toNat % 128 + 128 * low t
theorem low_varL : ∀ n : Nat, low (varL n) = n := by
  intro n
  induction n using Nat.strongRecOn with
  | _ n ih =>
    by_cases h1 : n < 128
    · rw [varL_lt h1]; simp [low]; omega
    · rw [varL_ge (by omega), low, ih _ (by omega)]; omega
theorem low_bound : ∀ l : List Int, low l < 128 ^ l.length
  | [] => by simp [low]
  | b :: t => by
    have := low_bound t
    rw [low, List.length_cons, Nat.pow_succ]; omega
/-- what is read: the number and how many bytes, 0 and 0 where there is none -/
def readN (l : List Int) : Int × Int := match rdv 7 true l with
  | some p => ((p.1 : Int), (p.2 : Int))
  | none => (0, 0)
theorem readN_some {l : List Int} {n k : Nat} (h : rdv 7 true l = some (n, k)) : readN l = ((n : Int), (k : Int)) := by
  unfold readN; rw [h]
theorem readN_none {l : List Int} (h : rdv 7 true l = none) : readN l = (0, 0) := by
  unfold readN; rw [h]
theorem rdv_of_take {l : List Int} {n k : Nat} (h : l.take k = varL n) (hn : n < 128 ^ 7) : rdv 7 true l = some (n, (varL n).length) := by
  have := rdv_varL 6 n true (l.drop k) hn (by simp)
  rw [← h, List.take_append_drop] at this
  rw [this, h]

/-! ### Dec -/
def digs (n : Nat) : List Int := if h : n < 10 then [((48 + n : Nat) : Int)] else digs (n / 10) ++ [((48 + n % 10 : Nat) : Int)]
termination_by n
theorem digs_lt {n : Nat} (h : n < 10) : digs n = [((48 + n : Nat) : Int)] := by rw [digs, dif_pos h]
theorem digs_ge {n : Nat} (h : 10 ≤ n) : digs n = digs (n / 10) ++ [((48 + n % 10 : Nat) : Int)] := by rw [digs, dif_neg (by omega)]
def decL (n : Int) : List Int := if n < 0 then 45 :: digs n.natAbs else digs n.natAbs

theorem digs_len : ∀ (d n : Nat), n < 10 ^ (d + 1) → (digs n).length ≤ d + 1
  | 0, n, h => by rw [digs_lt (by simpa using h)]; simp
  | d + 1, n, h => by
    by_cases h1 : n < 10
    · rw [digs_lt h1]; simp
    · rw [digs_ge (by omega), List.length_append]
      have := digs_len d (n / 10) (by rw [Nat.pow_succ] at h; omega)
      simp; omega

theorem digs_pos (n : Nat) : 1 ≤ (digs n).length := by
  by_cases h1 : n < 10
  · rw [digs_lt h1]; simp
  · rw [digs_ge (by omega)]; simp

theorem digs_len_ge : ∀ (d n : Nat), 10 ^ d ≤ n → d + 1 ≤ (digs n).length
  | 0, n, _ => digs_pos n
  | d + 1, n, h => by
    have h10 : 10 ≤ n := by
      have : 1 ≤ 10 ^ d := Nat.one_le_pow _ _ (by decide)
      rw [Nat.pow_succ] at h; omega
    rw [digs_ge h10, List.length_append]
    have := digs_len_ge d (n / 10) (by rw [Nat.pow_succ] at h; omega)
    simp; omega

theorem digs_digit : ∀ (n : Nat), ∀ x ∈ digs n, 48 ≤ x ∧ x ≤ 57 := by
  intro n
  induction n using Nat.strongRecOn with
  | _ n ih =>
    intro x hx
    by_cases h1 : n < 10
    · rw [digs_lt h1] at hx; simp at hx; omega
    · rw [digs_ge (by omega)] at hx
      rcases List.mem_append.1 hx with hx | hx
      · exact ih _ (by omega) x hx
      · simp at hx; omega

def digs0 (n : Nat) : List Int := if n = 0 then [] else digs n
theorem digs_step {n : Nat} (h : 0 < n) : digs n = digs0 (n / 10) ++ [((48 + n % 10 : Nat) : Int)] := by
  by_cases h1 : n < 10
  · rw [digs_lt h1]
    have : n / 10 = 0 := by omega
    rw [this, digs0, if_pos rfl, Nat.mod_eq_of_lt h1]; rfl
  · rw [digs_ge (by omega), digs0, if_neg (by omega)]
theorem tmod_10 (x : Int) : x.tmod 10 = if x < 0 then -((x.natAbs % 10 : Nat) : Int) else ((x.natAbs % 10 : Nat) : Int) := by
  by_cases h : x < 0
  · rw [if_pos h]
    obtain ⟨n, rfl⟩ : ∃ n : Nat, x = -(n : Int) := ⟨x.natAbs, by omega⟩
    rw [Int.neg_tmod, Int.tmod_eq_emod_of_nonneg (by omega)]; omega
  · rw [if_neg h, Int.tmod_eq_emod_of_nonneg (by omega)]; omega
theorem tdiv_10 (x : Int) : x.tdiv 10 = if x < 0 then -((x.natAbs / 10 : Nat) : Int) else ((x.natAbs / 10 : Nat) : Int) := by
  by_cases h : x < 0
  · rw [if_pos h]
    obtain ⟨n, rfl⟩ : ∃ n : Nat, x = -(n : Int) := ⟨x.natAbs, by omega⟩
    rw [Int.neg_tdiv, Int.tdiv_eq_ediv_of_nonneg (by omega)]; omega
  · rw [if_neg h, Int.tdiv_eq_ediv_of_nonneg (by omega)]; omega
/-- one digit of a number and what is left, as the program reckons them -/
theorem dec_neg (x : Int) (h0 : -9223372036854775808 ≤ x) (h1 : x ≤ 9223372036854775807) (h : x.tmod 10 < 0) : wrap64 (48 + wrap64 (-(x.tmod 10))) % 256 = ((48 + x.natAbs % 10 : Nat) : Int) := by
  rw [tmod_10] at h ⊢
  by_cases hx : x < 0
  · rw [if_pos hx] at h ⊢
    rw [w64 (n := -(-((x.natAbs % 10 : Nat) : Int))) (by omega) (by omega), w64 (by omega) (by omega)]
    omega
  · rw [if_neg hx] at h
    omega
theorem dec_pos (x : Int) (h0 : -9223372036854775808 ≤ x) (h1 : x ≤ 9223372036854775807) (h : ¬ x.tmod 10 < 0) : wrap64 (48 + x.tmod 10) % 256 = ((48 + x.natAbs % 10 : Nat) : Int) := by
  rw [tmod_10] at h ⊢
  by_cases hx : x < 0
  · rw [if_pos hx] at h ⊢
    rw [w64 (by omega) (by omega)]
    omega
  · rw [if_neg hx]
    rw [w64 (by omega) (by omega)]
    omega
theorem dec_next (x : Int) (h0 : -9223372036854775808 ≤ x) (h1 : x ≤ 9223372036854775807) : (wrap64 (x.tdiv 10)).natAbs = x.natAbs / 10 ∧ -9223372036854775808 ≤ wrap64 (x.tdiv 10) ∧ wrap64 (x.tdiv 10) ≤ 9223372036854775807 := by
  rw [tdiv_10]
  by_cases hx : x < 0
  · rw [if_pos hx, w64 (by omega) (by omega)]; omega
  · rw [if_neg hx, w64 (by omega) (by omega)]; omega

/-- the number that a list of digits says -/
def numOf (l : List Int) : Int := l.foldl (fun n x => n * 10 + (x - 48)) 0
theorem numOf_snoc (l : List Int) (x : Int) : numOf (l ++ [x]) = numOf l * 10 + (x - 48) := by simp [numOf]
theorem numOf_digs : ∀ n : Nat, numOf (digs n) = (n : Int) := by
  intro n
  induction n using Nat.strongRecOn with
  | _ n ih =>
    by_cases h1 : n < 10
    · rw [digs_lt h1]; simp [numOf]; omega
    · rw [digs_ge (by omega), numOf_snoc, ih _ (by omega)]; omega
theorem digs_inj {a b : Nat} (h : digs a = digs b) : a = b := by
  have := congrArg numOf h
  rw [numOf_digs, numOf_digs] at this
  omega
/-- a list of bytes is the Dec of a number of at most nine digits -/
def IsDec (l : List Int) (n : Int) : Prop := decL n = l ∧ -999999999 ≤ n ∧ n ≤ 999999999
theorem decL_inj {a b : Int} (h : decL a = decL b) : a = b := by
  unfold decL at h
  have hd : ∀ n : Nat, ∀ l, digs n ≠ 45 :: l := by
    intro n l he
    have := digs_digit n 45 (by rw [he]; simp)
    omega
  by_cases ha : a < 0
  · by_cases hb : b < 0
    · rw [if_pos ha, if_pos hb] at h
      have := digs_inj (List.cons.inj h).2
      omega
    · rw [if_pos ha, if_neg hb] at h
      exact absurd h.symm (hd _ _)
  · by_cases hb : b < 0
    · rw [if_neg ha, if_pos hb] at h
      exact absurd h (hd _ _)
    · rw [if_neg ha, if_neg hb] at h
      have := digs_inj h
      omega
theorem isDec_inj {l : List Int} {a b : Int} (ha : IsDec l a) (hb : IsDec l b) : a = b := decL_inj (ha.1.trans hb.1.symm)
theorem snoc_ind {P : List Int → Prop} (h0 : P []) (h1 : ∀ l x, P l → P (l ++ [x])) : ∀ (n : Nat) (l : List Int), l.length = n → P l
  | 0, l, h => by rw [List.length_eq_zero_iff.1 h]; exact h0
  | n + 1, l, h => by
    have hne : l ≠ [] := by intro e; subst e; simp at h
    rw [← List.dropLast_concat_getLast hne]
    exact h1 _ _ (snoc_ind h0 h1 n l.dropLast (by rw [List.length_dropLast]; omega))
def isDig (x : Int) : Bool := decide (48 ≤ x ∧ x ≤ 57)
/-- digits gathered, other bytes passed by: the number and how many -/
def scanD (p : Int × Nat) (x : Int) : Int × Nat := if isDig x = true then (p.1 * 10 + (x - 48), p.2 + 1) else p
def scan (l : List Int) : Int × Nat := l.foldl scanD (0, 0)
theorem scan_snoc (l : List Int) (x : Int) : scan (l ++ [x]) = scanD (scan l) x := by simp [scan]
theorem scan_bound (l : List Int) : 0 ≤ (scan l).1 ∧ (scan l).1 < 10 ^ (scan l).2 ∧ (scan l).2 ≤ l.length := by
  refine snoc_ind (P := fun l => 0 ≤ (scan l).1 ∧ (scan l).1 < 10 ^ (scan l).2 ∧ (scan l).2 ≤ l.length) (by simp [scan]) ?_ l.length l rfl
  intro l x ih
  rw [scan_snoc]
  unfold scanD
  by_cases h : isDig x = true
  · rw [if_pos h]
    have hx : 48 ≤ x ∧ x ≤ 57 := of_decide_eq_true h
    simp only [List.length_append, List.length_singleton]
    rw [Int.pow_succ]
    omega
  · rw [if_neg h]
    simp only [List.length_append, List.length_singleton]
    omega
theorem scan_digits (l : List Int) : (∀ x ∈ l, isDig x = true) → scan l = (numOf l, l.length) := by
  refine snoc_ind (P := fun l => (∀ x ∈ l, isDig x = true) → scan l = (numOf l, l.length)) (fun _ => rfl) ?_ l.length l rfl
  intro l x ih h
  rw [scan_snoc, ih (fun y hy => h y (by simp [hy])), scanD, if_pos (h x (by simp)), numOf_snoc]
  simp
theorem numOf_bound (l : List Int) (h : ∀ x ∈ l, isDig x = true) : 0 ≤ numOf l ∧ numOf l < 10 ^ l.length := by
  have := scan_bound l
  rw [scan_digits l h] at this
  exact ⟨this.1, this.2.1⟩
theorem digs_isDig (n : Nat) : ∀ x ∈ digs n, isDig x = true := fun x hx => decide_eq_true (digs_digit n x hx)
theorem scan_decL (n : Int) : scan (decL n) = ((n.natAbs : Int), (digs n.natAbs).length) := by
  unfold decL
  by_cases h : n < 0
  · rw [if_pos h]
    have e : scan (45 :: digs n.natAbs) = scan (digs n.natAbs) := by
      unfold scan
      rw [List.foldl_cons]
      have : scanD (0, 0) 45 = (0, 0) := by unfold scanD; rw [if_neg (by decide)]
      rw [this]
    rw [e, scan_digits _ (digs_isDig _), numOf_digs]
  · rw [if_neg h, scan_digits _ (digs_isDig _), numOf_digs]

/-! ### names and paths -/
def nameByte (x : Int) : Bool := decide (97 ≤ x ∧ x ≤ 122 ∨ 48 ≤ x ∧ x ≤ 57 ∨ x = 46 ∨ x = 95 ∨ x = 45)
def nameOkL (l : List Int) : Bool := decide (1 ≤ l.length ∧ l.length ≤ 8 ∧ l ≠ [46] ∧ l ≠ [46, 46]) && l.all nameByte
def slashByte (x : Int) : Bool := decide (x = 47) || nameByte x
def targetL (l : List Int) : Bool := decide (1 ≤ l.length ∧ l.length ≤ 60) && l.all slashByte
def pathOkL (l : List Int) : Bool := targetL l && decide (l.getD 0 0 = 47)

/-! ### Fixed -/
/-- the lowest w bytes of a number, the highest first -/
def fixL : Nat → Nat → List Int
  | 0, _ => []
  | w + 1, n => fixL w (n / 256) ++ [((n % 256 : Nat) : Int)]
theorem fixL_len : ∀ w n, (fixL w n).length = w
  | 0, _ => rfl
  | w + 1, n => by rw [fixL, List.length_append, fixL_len w]; rfl
theorem fixL_byte : ∀ w n, ∀ x ∈ fixL w n, 0 ≤ x ∧ x ≤ 255
  | 0, _, _, h => by simp [fixL] at h
  | w + 1, n, x, h => by
    rw [fixL] at h
    rcases List.mem_append.1 h with h | h
    · exact fixL_byte w _ x h
    · simp at h; omega
theorem fixL_head : ∀ w n, fixL (w + 1) n = ((n / 256 ^ w % 256 : Nat) : Int) :: fixL w n
  | 0, n => by simp [fixL]
  | w + 1, n => by
    rw [fixL, fixL_head w (n / 256), fixL, List.cons_append, Nat.div_div_eq_div_mul, Nat.pow_succ, Nat.mul_comm 256]
/-- the number of bytes, the highest first -/
def fixN (l : List Int) : Int := l.foldl (fun n x => n * 256 + x) 0
theorem fixN_snoc (l : List Int) (x : Int) : fixN (l ++ [x]) = fixN l * 256 + x := by simp [fixN]
theorem fixN_fixL : ∀ w n, n < 256 ^ w → fixN (fixL w n) = (n : Int)
  | 0, n, h => by simp at h; subst h; rfl
  | w + 1, n, h => by
    rw [fixL, fixN_snoc, fixN_fixL w (n / 256) (by rw [Nat.pow_succ] at h; omega)]
    omega
theorem fixN_range : ∀ (k : Nat) (l : List Int), (∀ x ∈ l, 0 ≤ x ∧ x ≤ 255) → l.length = k → 0 ≤ fixN l ∧ fixN l < 256 ^ k := by
  intro k
  induction k with
  | zero =>
    intro l hl hk
    have : l = [] := List.length_eq_zero_iff.1 hk
    subst this; simp [fixN]
  | succ k ih =>
    intro l hl hk
    have hne : l ≠ [] := by intro h; subst h; simp at hk
    obtain ⟨l', x, rfl⟩ : ∃ l' x, l = l' ++ [x] := ⟨l.dropLast, l.getLast hne, (List.dropLast_concat_getLast hne).symm⟩
    have := ih l' (fun y hy => hl y (by simp [hy])) (by simp at hk; exact hk)
    have hx := hl x (by simp)
    rw [fixN_snoc, Int.pow_succ]
    omega

/-! ### Hex -/
def hexC (n : Int) : Int := if n < 10 then 48 + n else 87 + n
def hexL (l : List Int) : List Int := l.flatMap fun x => [hexC (x / 16), hexC (x % 16)]
theorem hexC_range (n : Int) (h0 : 0 ≤ n) (h1 : n < 16) : 0 ≤ hexC n ∧ hexC n ≤ 255 := by unfold hexC; split <;> omega
theorem hexL_snoc (l : List Int) (x : Int) : hexL (l ++ [x]) = hexL l ++ [hexC (x / 16), hexC (x % 16)] := by simp [hexL]
theorem hexL_len : ∀ l : List Int, (hexL l).length = 2 * l.length
  | [] => rfl
  | x :: t => by
    have := hexL_len t
    simp only [hexL, List.flatMap_cons, List.length_append, List.length_cons, List.length_nil] at this ⊢
    omega

end Go.Proofs.Ytiopcpkfjikfdaa.Mth
