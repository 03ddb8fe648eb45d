/- The law FnMay answers true for every input: the statement over numbers and lists, proved. Conditions: none beyond the bounds of the arguments' kinds. -/
import Derived.Test.YtgdpbiapcabadaaStmFnMay
import Derived.Test.YtgdpbiapcabadaaMath
import Derived.Test.YtgdpbiapcabadaaStr
namespace Go.Proofs.Ytgdpbiapcabadaa.Pure
open Go.RowKit Go.Proofs.Ytgdpbiapcabadaa.PFnMay Go.Proofs.YtgdpbiapcabadaaW.PrintWords Go.Proofs.YtgdpbiapcabadaaW.PrintLast Go.Proofs.YtgdpbiapcabadaaW.PrintMore Go.Proofs.Ytgdpbiapcabadaa.Mth Go.Proofs.Ytgdpbiapcabadaa.Str

set_option linter.unusedVariables false
set_option linter.unusedSimpArgs false
/-! ## section within -/
theorem within_eq (a b c : Int) : impl_within.f a b c = some (decide (b ≤ a ∧ a ≤ c)) := by
  unfold impl_within.f
  by_cases h : a ≥ b
  · rw [if_pos h]; have : b ≤ a := h; simp [this]
  · rw [if_neg h]; have : ¬ b ≤ a := h; simp [this]

/-! ## section l1In -/
theorem l1In_eq (a b c : Int) : spec_l1In.f a b c = some (decide (b ≤ a ∧ a ≤ c)) := by
  unfold spec_l1In.f
  by_cases h : a ≥ b
  · rw [if_pos h]; have : b ≤ a := h; simp [this]
  · rw [if_neg h]; have : ¬ b ≤ a := h; simp [this]

/-! ## section rdget -/
theorem rd_get (l : List Int) (i : Nat) (h : i < l.length) : rd l (i : Int) = l[i] := by
  unfold rd; rw [Int.toNat_natCast, List.getD_eq_getElem?_getD, List.getElem?_eq_getElem h]; rfl

/-! ## section credD -/
def grpB (x : Int) : Bool := decide (0 ≤ x ∧ x ≤ 1000)
/-- is who calls right -/
def credB (u g : Int) (l : List Int) : Bool := decide ((0 ≤ u ∧ u ≤ 1000) ∧ (0 ≤ g ∧ g ≤ 1000) ∧ l.length ≤ 4) && l.all grpB
def inB (u g : Int) (l : List Int) (x : Int) : Bool := credB u g l && (decide (g = x) || l.contains x)

/-! ## section credS -/
theorem cred_spec_loop (u g : Int) (l : List Int) (hl : l.length ≤ 4) : ∀ (d i : Nat), i + d = l.length → Ev (fun k => spec_CredOk.l0 k (i : Int) u g l) ((l.drop i).all grpB) := by
  intro d
  induction d with
  | zero =>
    intro i hi
    rw [List.drop_eq_nil_of_le (by omega)]
    exact Ev.step (fun _ => spec_CredOk.l0.eq_2 ..) (ev_neg (by omega) (ev_now rfl))
  | succ d ih =>
    intro i hi
    have hlt : i < l.length := by omega
    have e3 : wrap64 ((i : Int) + 1) = ((i + 1 : Nat) : Int) := w64 (by omega) (by omega)
    rw [List.drop_eq_getElem_cons hlt, List.all_cons]
    refine Ev.step (fun _ => spec_CredOk.l0.eq_2 ..) (ev_pos (by omega) (ev_pos (by omega) (ev_of (l1In_eq _ _ _) ?_)))
    rw [rd_get l i hlt, e3]
    have ih' := ih (i + 1) (by omega)
    unfold grpB at *
    generalize l[i] = x at *
    by_cases h : 0 ≤ x ∧ x ≤ 1000
    · rw [decide_eq_true h, Bool.true_and]; exact ev_pos rfl ih'
    · rw [decide_eq_false h, Bool.false_and]; exact ev_neg (by simp) (ev_now rfl)
theorem cred_spec (u g : Int) (l : List Int) : Ev (fun k => spec_CredOk.f k u g l) (credB u g l) := by
  have hjt : Ev (fun k => spec_CredOk.j0 k true u g l) false := Ev.step (fun _ => spec_CredOk.j0.eq_2 ..) (ev_pos rfl (ev_now rfl))
  unfold spec_CredOk.f credB
  by_cases h1 : 0 ≤ u ∧ u ≤ 1000
  · refine ev_of (l1In_eq _ _ _) (ev_pos (by simpa using h1) (ev_of (l1In_eq _ _ _) ?_))
    by_cases h2 : 0 ≤ g ∧ g ≤ 1000
    · refine ev_pos (by simpa using h2) ?_
      by_cases h3 : l.length ≤ 4
      · rw [show decide ((0 ≤ u ∧ u ≤ 1000) ∧ (0 ≤ g ∧ g ≤ 1000) ∧ l.length ≤ 4) = true from decide_eq_true ⟨h1, h2, h3⟩, Bool.true_and]
        refine Ev.step (fun _ => spec_CredOk.j0.eq_2 ..) (ev_neg (by simp; omega) ?_)
        have := cred_spec_loop u g l h3 l.length 0 (by omega)
        simpa using this
      · rw [show decide ((0 ≤ u ∧ u ≤ 1000) ∧ (0 ≤ g ∧ g ≤ 1000) ∧ l.length ≤ 4) = false from decide_eq_false (fun h => h3 h.2.2), Bool.false_and]
        exact Ev.step (fun _ => spec_CredOk.j0.eq_2 ..) (ev_pos (by simp; omega) (ev_now rfl))
    · rw [show decide ((0 ≤ u ∧ u ≤ 1000) ∧ (0 ≤ g ∧ g ≤ 1000) ∧ l.length ≤ 4) = false from decide_eq_false (fun h => h2 h.2.1), Bool.false_and]
      exact ev_neg (by simpa using h2) hjt
  · rw [show decide ((0 ≤ u ∧ u ≤ 1000) ∧ (0 ≤ g ∧ g ≤ 1000) ∧ l.length ≤ 4) = false from decide_eq_false (fun h => h1 h.1), Bool.false_and]
    exact ev_of (l1In_eq _ _ _) (ev_neg (by simpa using h1) hjt)

/-! ## section credI -/
theorem wB_grp (x : Int) : wB x 0 1000 = grpB x := rfl
theorem cred_idx_loop (l : List Int) (hl : l.length ≤ 4) : ∀ (d i : Nat), i + d = l.length → ∃ r, Ev (fun k => credIdx.l0 k l (l.length : Int) (i : Int)) r ∧ (decide (r ≥ 0) = !(l.drop i).all grpB) := by
  intro d
  induction d with
  | zero =>
    intro i hi
    refine ⟨-1, Ev.step (fun _ => credIdx.l0.eq_2 ..) (ev_neg (by omega) (ev_now rfl)), ?_⟩
    rw [List.drop_eq_nil_of_le (by omega)]; rfl
  | succ d ih =>
    intro i hi
    have hlt : i < l.length := by omega
    have e3 : wrap64 ((i : Int) + 1) = ((i + 1 : Nat) : Int) := w64 (by omega) (by omega)
    rw [List.drop_eq_getElem_cons hlt, List.all_cons]
    cases hb : grpB l[i] with
    | false =>
      refine ⟨(i : Int), Ev.step (fun _ => credIdx.l0.eq_2 ..) (ev_pos (by omega) (ev_pos (by omega) (ev_pos (by omega) (ev_pos ?_ (ev_now rfl))))), ?_⟩
      · rw [rd_get l i hlt, wB_grp]; exact hb
      · simp
    | true =>
      obtain ⟨r, h1, h2⟩ := ih (i + 1) (by omega)
      refine ⟨r, Ev.step (fun _ => credIdx.l0.eq_2 ..) (ev_pos (by omega) (ev_pos (by omega) (ev_pos (by omega) (ev_neg ?_ ?_)))), ?_⟩
      · rw [rd_get l i hlt, wB_grp, hb]; simp
      · rw [e3]; exact h1
      · rw [Bool.true_and]; exact h2
theorem cred_impl (u g : Int) (l : List Int) : Ev (fun k => impl_CredOk.f k u g l) (credB u g l) := by
  unfold impl_CredOk.f credB
  by_cases h1 : 0 ≤ u ∧ u ≤ 1000
  · refine ev_pos (decide_eq_true h1) ?_
    by_cases h2 : 0 ≤ g ∧ g ≤ 1000
    · refine ev_pos (decide_eq_true h2) ?_
      by_cases h3 : l.length ≤ 4
      · rw [show decide ((0 ≤ u ∧ u ≤ 1000) ∧ (0 ≤ g ∧ g ≤ 1000) ∧ l.length ≤ 4) = true from decide_eq_true ⟨h1, h2, h3⟩, Bool.true_and]
        refine ev_neg (by omega) ?_
        obtain ⟨r, hr1, hr2⟩ := cred_idx_loop l h3 l.length 0 (by omega)
        unfold credCf.f credIdx.f
        refine Ev.bind (Ev.bind hr1 (ev_now rfl)) (ev_now ?_)
        rw [hr2, List.drop_zero, Bool.not_not]
      · rw [show decide ((0 ≤ u ∧ u ≤ 1000) ∧ (0 ≤ g ∧ g ≤ 1000) ∧ l.length ≤ 4) = false from decide_eq_false (fun h => h3 h.2.2), Bool.false_and]
        exact ev_pos (by omega) (ev_now rfl)
    · rw [show decide ((0 ≤ u ∧ u ≤ 1000) ∧ (0 ≤ g ∧ g ≤ 1000) ∧ l.length ≤ 4) = false from decide_eq_false (fun h => h2 h.2.1), Bool.false_and]
      exact ev_neg (by unfold wB; simpa using h2) (ev_now rfl)
  · rw [show decide ((0 ≤ u ∧ u ≤ 1000) ∧ (0 ≤ g ∧ g ≤ 1000) ∧ l.length ≤ 4) = false from decide_eq_false (fun h => h1 h.1), Bool.false_and]
    exact ev_neg (by unfold wB; simpa using h1) (ev_now rfl)

/-! ## section inI -/
theorem index_loop (l : List Int) (hl : l.length ≤ 1048576) (x : Int) : ∀ (d i : Nat), i + d = l.length → ∃ r, Ev (fun k => slices_Index_int_int.l0 k l x (l.length : Int) (i : Int)) r ∧ decide (r ≥ 0) = (l.drop i).contains x := by
  intro d
  induction d with
  | zero =>
    intro i hi
    refine ⟨-1, Ev.step (fun _ => slices_Index_int_int.l0.eq_2 ..) (ev_neg (by omega) (ev_now rfl)), ?_⟩
    rw [List.drop_eq_nil_of_le (by omega)]; rfl
  | succ d ih =>
    intro i hi
    have hlt : i < l.length := by omega
    have e3 : wrap64 ((i : Int) + 1) = ((i + 1 : Nat) : Int) := w64 (by omega) (by omega)
    rw [List.drop_eq_getElem_cons hlt, List.contains_cons]
    by_cases hx : x = l[i]
    · refine ⟨(i : Int), Ev.step (fun _ => slices_Index_int_int.l0.eq_2 ..) (ev_pos (by omega) (ev_pos (by omega) (ev_pos (by omega) (ev_pos ?_ (ev_now rfl))))), ?_⟩
      · rw [rd_get l i hlt]; exact hx
      · rw [← hx]; simp
    · obtain ⟨r, h1, h2⟩ := ih (i + 1) (by omega)
      refine ⟨r, Ev.step (fun _ => slices_Index_int_int.l0.eq_2 ..) (ev_pos (by omega) (ev_pos (by omega) (ev_pos (by omega) (ev_neg ?_ ?_)))), ?_⟩
      · rw [rd_get l i hlt]; exact hx
      · rw [e3]; exact h1
      · rw [h2]; simp [hx]
theorem contains_ev (l : List Int) (hl : l.length ≤ 1048576) (x : Int) : Ev (fun k => slices_Contains_int_int.f k l x) (l.contains x) := by
  unfold slices_Contains_int_int.f slices_Index_int_int.f
  obtain ⟨r, h1, h2⟩ := index_loop l hl x l.length 0 (by omega)
  refine Ev.bind h1 (ev_now ?_)
  rw [h2, List.drop_zero]

/-! ## section inI2 -/
theorem in_impl (u g : Int) (l : List Int) (x : Int) : Ev (fun k => impl_In.f k u g l x) (inB u g l x) := by
  unfold impl_In.f inB
  refine Ev.bind (cred_impl u g l) ?_
  cases hc : credB u g l with
  | false => rw [Bool.false_and]; exact ev_neg (by simp) (ev_now rfl)
  | true =>
    rw [Bool.true_and]
    refine ev_pos rfl ?_
    have hl : l.length ≤ 4 := by
      unfold credB at hc
      simp only [Bool.and_eq_true, decide_eq_true_eq] at hc
      omega
    by_cases hx : x = g
    · refine ev_pos hx (ev_now ?_)
      rw [decide_eq_true hx.symm, Bool.true_or]
    · refine ev_neg hx ?_
      rw [decide_eq_false (fun h => hx h.symm), Bool.false_or]
      exact Ev.bind (contains_ev l (by omega) x) (ev_now rfl)

/-! ## section mayD -/
/-- the bits that are asked for, of a mode -/
def bitsB (m want : Int) : Bool := Go.bits .and .i64 (Go.bits .and .i64 m 7) want == want
def mayB (u g : Int) (l : List Int) (kind mode nu ng want : Int) : Bool :=
  if credB u g l = true ∧ 0 ≤ want ∧ want ≤ 7 then
    (if u = 0 then decide (Go.bits .and .i64 want 1 = 0 ∨ kind ≠ 1 ∨ Go.bits .and .i64 mode 73 ≠ 0)
     else if u = nu then bitsB (mode / 64) want else if inB u g l ng = true then bitsB (mode / 8) want else bitsB mode want)
  else false

/-! ## section mayI -/
theorem may_impl (u g : Int) (l : List Int) (a0 kind mode nu ng : Int) (d : ByteArray) (ns : List S67) (a7 a8 want : Int) : Ev (fun k => impl_May.f k u g l a0 kind mode nu ng d ns a7 a8 want) (mayB u g l kind mode nu ng want) := by
  have hjt : Ev (fun k => impl_May.j0 k want true u g l a0 kind mode nu ng d ns a7 a8) false := Ev.step (fun _ => impl_May.j0.eq_2 ..) (ev_pos rfl (ev_now rfl))
  unfold impl_May.f mayB
  refine Ev.bind (cred_impl u g l) ?_
  by_cases hc : credB u g l = true
  · refine ev_pos hc (ev_of (within_eq _ _ _) ?_)
    by_cases hw : 0 ≤ want ∧ want ≤ 7
    · rw [if_pos ⟨hc, hw⟩]
      refine Ev.step (fun _ => impl_May.j0.eq_2 ..) (ev_neg (by simp; omega) ?_)
      by_cases hu : u = 0
      · rw [if_pos hu]
        refine ev_pos hu ?_
        by_cases hk : kind = 1
        · refine ev_pos hk ?_
          by_cases hm : Go.bits .and .i64 mode 73 = 0
          · refine ev_pos hm (ev_now ?_)
            congr 1
            apply Bool.eq_iff_iff.2
            simp only [beq_iff_eq, decide_eq_true_eq]
            constructor
            · intro h; exact .inl h
            · rintro (h | h | h)
              · exact h
              · exact absurd hk h
              · exact absurd hm h
          · exact ev_neg hm (ev_now (by rw [decide_eq_true (.inr (.inr hm))]))
        · exact ev_neg hk (ev_now (by rw [decide_eq_true (.inr (.inl hk))]))
      · rw [if_neg hu]
        refine ev_neg hu ?_
        by_cases hn : u = nu
        · exact ev_pos hn (ev_now (by rw [if_pos hn]; rfl))
        · rw [if_neg hn]
          refine ev_neg hn (Ev.bind (in_impl u g l ng) ?_)
          by_cases hi : inB u g l ng = true
          · exact ev_pos hi (ev_now (by rw [if_pos hi]; rfl))
          · exact ev_neg hi (ev_now (by rw [if_neg hi]; rfl))
    · rw [if_neg (fun h => hw h.2)]
      exact Ev.step (fun _ => impl_May.j0.eq_2 ..) (ev_pos (by simp; omega) (ev_now rfl))
  · rw [if_neg (fun h => hc h.1)]
    exact ev_neg hc hjt

/-! ## section drawD -/
/-! what is drawn: that it is there, and how great it is -/
theorem w64_range (n : Int) : -9223372036854775808 ≤ wrap64 n ∧ wrap64 n ≤ 9223372036854775807 := by unfold wrap64; omega
theorem and255 (x : Int) : 0 ≤ Go.bits .and .i64 x 255 ∧ Go.bits .and .i64 x 255 ≤ 255 := by
  have h : Go.bits .and .i64 x 255 = IntKind.i64.wrap ((((BitVec.ofInt 64 x) &&& (BitVec.ofInt 64 255)).toNat : Nat) : Int) := rfl
  have e : (BitVec.ofInt 64 255).toNat = 255 := by decide
  rw [h, BitVec.toNat_and, e]
  have := Nat.and_le_right (n := (BitVec.ofInt 64 x).toNat) (m := 255)
  generalize (BitVec.ofInt 64 x).toNat &&& 255 = m at this
  rw [IntKind.wrap_i64]; omega
def curOk (l : List Int) (i : Int) : Prop := 0 ≤ i ∧ i ≤ (l.length : Int) ∧ l.length ≤ 1048576
theorem l1New_loop (l : List Int) (hl : l.length ≤ 1048576) : ∀ (d i : Nat) (h : Int), i + d = l.length → ∃ h', Ev (fun k => spec_l1New.l0 k l h (i : Int)) (l, 0, h') := by
  intro d
  induction d with
  | zero =>
    intro i h hi
    exact ⟨h, Ev.step (fun _ => spec_l1New.l0.eq_2 _ _ _ _) (ev_neg (by omega) (ev_now rfl))⟩
  | succ d ih =>
    intro i h hi
    by_cases hc : (i : Int) < 4000
    · obtain ⟨h', e⟩ := ih (i + 1) (Go.bits .and .i64 (wrap64 ((wrap64 ((wrap64 (h * 131)) + (wrap64 (rd l (i : Int))))) + 7)) 1073741823) (by omega)
      have e3 : wrap64 ((i : Int) + 1) = ((i + 1 : Nat) : Int) := w64 (by omega) (by omega)
      refine ⟨h', Ev.step (fun _ => spec_l1New.l0.eq_2 _ _ _ _) (ev_pos (by omega) (ev_pos hc (ev_pos (by omega) ?_)))⟩
      rw [e3]; exact e
    · exact ⟨h, Ev.step (fun _ => spec_l1New.l0.eq_2 _ _ _ _) (ev_pos (by omega) (ev_neg hc (ev_now rfl)))⟩
theorem l1New_ex (l : List Int) (hl : l.length ≤ 1048576) : ∃ h, Ev (fun k => spec_l1New.f k l) (l, 0, h) := by
  unfold spec_l1New.f
  exact l1New_loop l hl l.length 0 _ (by omega)
theorem l1Byte_ex (l : List Int) (i h : Int) (hc : curOk l i) : ∃ v i' h', spec_l1Byte.f l i h = some (v, i', h') ∧ (0 ≤ v ∧ v ≤ 255) ∧ curOk l i' := by
  obtain ⟨h0, h1, h2⟩ := hc
  unfold spec_l1Byte.f
  by_cases hlt : i < (l.length : Int)
  · rw [if_pos hlt, if_pos h0]
    exact ⟨_, _, _, rfl, and255 _, by rw [w64 (by omega) (by omega)]; omega, by rw [w64 (by omega) (by omega)]; omega, h2⟩
  · rw [if_neg hlt]
    exact ⟨_, _, _, rfl, and255 _, h0, h1, h2⟩
theorem tmod_lt (x a : Int) (hx : 0 ≤ x) (ha : 0 < a) : 0 ≤ Int.tmod x a ∧ Int.tmod x a < a := by
  rw [Int.tmod_eq_emod_of_nonneg hx]
  exact ⟨Int.emod_nonneg _ (by omega), Int.emod_lt_of_pos _ ha⟩
theorem l1Below_ex (l : List Int) (i h a : Int) (hc : curOk l i) : ∃ v i' h', spec_l1Below.f l i h a = some (v, i', h') ∧ 0 ≤ v ∧ (0 < a → v < a) ∧ (a ≤ 0 → v = 0) ∧ curOk l i' := by
  unfold spec_l1Below.f
  by_cases h0 : a ≤ 0
  · rw [if_pos h0]
    exact ⟨0, i, h, rfl, by omega, by omega, fun _ => rfl, hc⟩
  · rw [if_neg h0]
    by_cases h1 : a ≤ 256
    · rw [if_pos h1]
      obtain ⟨v, i', h', e, hv, hi⟩ := l1Byte_ex l i h hc
      rw [e, Option.bind_some, if_neg (by omega)]
      have := tmod_lt v a hv.1 (by omega)
      exact ⟨_, _, _, rfl, this.1, fun _ => this.2, fun h => absurd h h0, hi⟩
    · rw [if_neg h1]
      obtain ⟨v1, i1, h1', e1, hv1, hi1⟩ := l1Byte_ex l i h hc
      obtain ⟨v2, i2, h2', e2, hv2, hi2⟩ := l1Byte_ex l i1 h1' hi1
      obtain ⟨v3, i3, h3', e3, hv3, hi3⟩ := l1Byte_ex l i2 h2' hi2
      obtain ⟨v4, i4, h4', e4, hv4, hi4⟩ := l1Byte_ex l i3 h3' hi3
      simp only [e1, e2, e3, e4, Option.bind_some]
      rw [if_neg (by omega)]
      have w : wrap64 ((wrap64 ((wrap64 ((wrap64 (v1 * 16777216)) + (wrap64 (v2 * 65536)))) + (wrap64 (v3 * 256)))) + v4) = v1 * 16777216 + v2 * 65536 + v3 * 256 + v4 := by
        rw [w64 (n := v1 * 16777216) (by omega) (by omega), w64 (n := v2 * 65536) (by omega) (by omega), w64 (n := v3 * 256) (by omega) (by omega), w64 (n := v1 * 16777216 + v2 * 65536) (by omega) (by omega), w64 (n := v1 * 16777216 + v2 * 65536 + v3 * 256) (by omega) (by omega), w64 (by omega) (by omega)]
      rw [w]
      have := tmod_lt (v1 * 16777216 + v2 * 65536 + v3 * 256 + v4) a (by omega) (by omega)
      exact ⟨_, _, _, rfl, this.1, fun _ => this.2, fun h => absurd h h0, hi4⟩
theorem l1PickInt_ex (l : List Int) (i h : Int) (p : List Int) (hp : 0 < p.length) (hc : curOk l i) : ∃ j i' h', spec_l1PickInt.f l i h p = some (rd p (j : Int), i', h') ∧ 0 ≤ j ∧ j < (p.length : Int) ∧ curOk l i' := by
  unfold spec_l1PickInt.f
  obtain ⟨v, i', h', e, h0, h1, _, hi⟩ := l1Below_ex l i h (p.length : Int) hc
  have h2 := h1 (by omega)
  rw [e, Option.bind_some, if_pos h0, if_pos h2]
  exact ⟨v, _, _, rfl, h0, h2, hi⟩

/-! ## section FnMay -/
theorem l5Cred_ex (l : List Int) (i h : Int) (hc : curOk l i) : ∃ u g gl i' h', Ev (fun k => spec_l5Cred.f k l i h) (u, g, gl, i', h') ∧ curOk l i' := by
  unfold spec_l5Cred.f
  obtain ⟨v, i1, h1, e, _, _, _, hi1⟩ := l1Below_ex l i h 4 hc
  have step : ∀ b : Bool, ∃ u g gl, Ev (fun k => spec_l5Cred.j0 k v b l i1 h1) (u, g, gl, i1, h1) := by
    intro b
    cases b with
    | true => exact ⟨_, _, _, Ev.step (fun _ => spec_l5Cred.j0.eq_2 ..) (ev_pos rfl (ev_now rfl))⟩
    | false =>
      by_cases h2 : v = 2
      · exact ⟨_, _, _, Ev.step (fun _ => spec_l5Cred.j0.eq_2 ..) (ev_neg (by simp) (ev_pos h2 (ev_now rfl)))⟩
      · exact ⟨_, _, _, Ev.step (fun _ => spec_l5Cred.j0.eq_2 ..) (ev_neg (by simp) (ev_neg h2 (ev_now rfl)))⟩
  by_cases h0 : v = 0
  · obtain ⟨u, g, gl, he⟩ := step (v == 0)
    exact ⟨u, g, gl, i1, h1, ev_of e (ev_pos h0 he), hi1⟩
  · obtain ⟨u, g, gl, he⟩ := step (v == 1)
    exact ⟨u, g, gl, i1, h1, ev_of e (ev_neg h0 he), hi1⟩
theorem l1Once_ex (l : List Int) (i h a : Int) (hc : curOk l i) : ∃ b i' h', spec_l1Once.f l i h a = some (b, i', h') ∧ curOk l i' := by
  unfold spec_l1Once.f
  obtain ⟨v, i1, h1, e, _, _, _, hi1⟩ := l1Below_ex l i h a hc
  exact ⟨_, _, _, by rw [e, Option.bind_some], hi1⟩
theorem l5Any_ex (l : List Int) (i h : Int) (hc : curOk l i) : ∃ u g gl i' h', Ev (fun k => spec_l5Any.f k l i h) (u, g, gl, i', h') ∧ curOk l i' := by
  unfold spec_l5Any.f
  obtain ⟨u, g, gl, i1, h1, e1, c1⟩ := l5Cred_ex l i h hc
  obtain ⟨b, i2, h2, e2, c2⟩ := l1Once_ex l i1 h1 10 c1
  cases b with
  | false => exact ⟨_, _, _, _, _, Ev.bind e1 (ev_of e2 (ev_neg (by simp) (ev_now rfl))), c2⟩
  | true =>
    obtain ⟨c, i3, h3, e3, c0, cl, _, c3⟩ := l1Below_ex l i2 h2 3 c2
    by_cases z0 : c = 0
    · obtain ⟨j, i4, h4, e4, _, _, c4⟩ := l1PickInt_ex l i3 h3 [-1, 1000, 1001] (by decide) c3
      exact ⟨_, _, _, _, _, Ev.bind e1 (ev_of e2 (ev_pos rfl (ev_of e3 (ev_pos z0 (ev_of e4 (ev_now rfl)))))), c4⟩
    · by_cases z1 : c = 1
      · obtain ⟨j, i4, h4, e4, _, _, c4⟩ := l1PickInt_ex l i3 h3 [-1, 1000, 1001] (by decide) c3
        exact ⟨_, _, _, _, _, Ev.bind e1 (ev_of e2 (ev_pos rfl (ev_of e3 (ev_neg z0 (ev_pos z1 (ev_of e4 (ev_now rfl))))))), c4⟩
      · obtain ⟨q, i4, h4, e4, q0, q1, _, c4⟩ := l1Below_ex l i3 h3 2 c3
        have q2 := q1 (by decide)
        by_cases y0 : q = 0
        · exact ⟨_, _, _, _, _, Ev.bind e1 (ev_of e2 (ev_pos rfl (ev_of e3 (ev_neg z0 (ev_neg z1 (ev_of e4 (ev_pos y0 (ev_now rfl)))))))), c4⟩
        · exact ⟨_, _, _, _, _, Ev.bind e1 (ev_of e2 (ev_pos rfl (ev_of e3 (ev_neg z0 (ev_neg z1 (ev_of e4 (ev_neg y0 (ev_pos (show q = 1 by omega) (ev_now rfl))))))))), c4⟩
theorem l5Inode_ex (l : List Int) (i h : Int) (hc : curOk l i) : ∃ a kind mode nu ng d ns a7 a8 i' h', spec_l5Inode.f l i h = some (a, kind, mode, nu, ng, d, ns, a7, a8, i', h') ∧ curOk l i' := by
  unfold spec_l5Inode.f
  obtain ⟨v1, i1, h1, e1, _, _, _, c1⟩ := l1Below_ex l i h 3 hc
  obtain ⟨v2, i2, h2, e2, _, _, _, c2⟩ := l1Below_ex l i1 h1 2048 c1
  obtain ⟨v3, i3, h3, e3, _, _, c3⟩ := l1PickInt_ex l i2 h2 [0, 2, 3] (by decide) c2
  obtain ⟨v4, i4, h4, e4, _, _, c4⟩ := l1PickInt_ex l i3 h3 [0, 2, 5, 7] (by decide) c3
  exact ⟨_, _, _, _, _, _, _, _, _, _, _, by simp only [e1, e2, e3, e4, Option.bind_some]; rfl, c4⟩
theorem drawMay_ex (l : List Int) (hl : l.length ≤ 1048576) : ∃ u g gl a kind mode nu ng d ns a7 a8 want, Ev (fun k => spec_DrawMay.f k l) (u, g, gl, a, kind, mode, nu, ng, d, ns, a7, a8, want) := by
  unfold spec_DrawMay.f
  obtain ⟨h0, e0⟩ := l1New_ex l hl
  obtain ⟨u, g, gl, i1, h1, e1, c1⟩ := l5Any_ex l 0 h0 ⟨by omega, by omega, hl⟩
  obtain ⟨a, kind, mode, nu, ng, d, ns, a7, a8, i2, h2, e2, c2⟩ := l5Inode_ex l i1 h1 c1
  obtain ⟨v, i3, h3, e3, _⟩ := l1Below_ex l i2 h2 10 c2
  exact ⟨_, _, _, _, _, _, _, _, _, _, _, _, _, Ev.bind e0 (Ev.bind e1 (ev_of e2 (ev_of e3 (ev_now rfl))))⟩
theorem and7 (x : Int) : 0 ≤ Go.bits .and .i64 x 7 ∧ Go.bits .and .i64 x 7 ≤ 7 := by
  have h : Go.bits .and .i64 x 7 = IntKind.i64.wrap ((((BitVec.ofInt 64 x) &&& (BitVec.ofInt 64 7)).toNat : Nat) : Int) := rfl
  have e : (BitVec.ofInt 64 7).toNat = 7 := by decide
  rw [h, BitVec.toNat_and, e]
  have := Nat.and_le_right (n := (BitVec.ofInt 64 x).toNat) (m := 7)
  generalize (BitVec.ofInt 64 x).toNat &&& 7 = m at this
  rw [IntKind.wrap_i64]; omega
theorem eight (P : Int → Prop) (h : ∀ q : Fin 8, P (q.val : Int)) (x : Int) (h0 : 0 ≤ x) (h1 : x ≤ 7) : P x := by
  have := h ⟨x.toNat, by omega⟩
  have e : ((x.toNat : Nat) : Int) = x := by omega
  simp only [e] at this
  exact this
theorem bits_part : ∀ a b c : Fin 8, Go.bits .and .i64 (a.val : Int) (b.val : Int) = (b.val : Int) → Go.bits .and .i64 (c.val : Int) (b.val : Int) = (c.val : Int) → Go.bits .and .i64 (a.val : Int) (c.val : Int) = (c.val : Int) := by
  decide +kernel
theorem bits_low : ∀ b c : Fin 8, Go.bits .and .i64 (b.val : Int) 1 = 0 → Go.bits .and .i64 (c.val : Int) (b.val : Int) = (c.val : Int) → Go.bits .and .i64 (c.val : Int) 1 = 0 := by
  decide +kernel
theorem bits_none : ∀ a : Fin 8, Go.bits .and .i64 (a.val : Int) 0 = 0 := by decide +kernel
theorem part_of (a b c : Int) (ha : 0 ≤ a ∧ a ≤ 7) (hb : 0 ≤ b ∧ b ≤ 7) (hc : 0 ≤ c ∧ c ≤ 7) : Go.bits .and .i64 a b = b → Go.bits .and .i64 c b = c → Go.bits .and .i64 a c = c := by
  have := bits_part ⟨a.toNat, by omega⟩ ⟨b.toNat, by omega⟩ ⟨c.toNat, by omega⟩
  rw [show ((a.toNat : Nat) : Int) = a by omega, show ((b.toNat : Nat) : Int) = b by omega, show ((c.toNat : Nat) : Int) = c by omega] at this
  exact this
theorem low_of (b c : Int) (hb : 0 ≤ b ∧ b ≤ 7) (hc : 0 ≤ c ∧ c ≤ 7) : Go.bits .and .i64 b 1 = 0 → Go.bits .and .i64 c b = c → Go.bits .and .i64 c 1 = 0 := by
  have := bits_low ⟨b.toNat, by omega⟩ ⟨c.toNat, by omega⟩
  rw [show ((b.toNat : Nat) : Int) = b by omega, show ((c.toNat : Nat) : Int) = c by omega] at this
  exact this
theorem bitsB_part (m b c : Int) (hb : 0 ≤ b ∧ b ≤ 7) (hc : 0 ≤ c ∧ c ≤ 7) (h1 : bitsB m b = true) (h2 : Go.bits .and .i64 c b = c) : bitsB m c = true := by
  unfold bitsB at *
  rw [beq_iff_eq] at *
  exact part_of _ b c (and7 m) hb hc h1 h2
theorem bitsB_none (m : Int) : bitsB m 0 = true := by
  unfold bitsB
  rw [beq_iff_eq]
  have h := and7 m
  have := bits_none ⟨(Go.bits .and .i64 m 7).toNat, by omega⟩
  rw [show (((Go.bits .and .i64 m 7).toNat : Nat) : Int) = Go.bits .and .i64 m 7 by omega] at this
  exact this
theorem mayB_part (u g : Int) (gl : List Int) (kind mode nu ng b c : Int) (hc : 0 ≤ c ∧ c ≤ 7) (h1 : mayB u g gl kind mode nu ng b = true) (h2 : Go.bits .and .i64 c b = c) : mayB u g gl kind mode nu ng c = true := by
  unfold mayB at *
  split at h1
  · rename_i hh
    have hb : 0 ≤ b ∧ b ≤ 7 := hh.2
    rw [if_pos ⟨hh.1, hc⟩]
    split
    · rename_i hu
      rw [if_pos hu] at h1
      rw [decide_eq_true_eq] at *
      rcases h1 with h1 | h1
      · exact .inl (low_of b c hb hc h1 h2)
      · exact .inr h1
    · rename_i hu
      rw [if_neg hu] at h1
      split
      · rename_i hn
        rw [if_pos hn] at h1
        exact bitsB_part _ b c hb hc h1 h2
      · rename_i hn
        rw [if_neg hn] at h1
        split
        · rename_i hi
          rw [if_pos hi] at h1
          exact bitsB_part _ b c hb hc h1 h2
        · rename_i hi
          rw [if_neg hi] at h1
          exact bitsB_part _ b c hb hc h1 h2
  · exact absurd h1 (by simp)
theorem mayB_none (u g : Int) (gl : List Int) (kind mode nu ng : Int) (hc : credB u g gl = true) : mayB u g gl kind mode nu ng 0 = true := by
  unfold mayB
  rw [if_pos ⟨hc, by omega, by omega⟩]
  split
  · exact decide_eq_true (.inl (by decide +kernel))
  · split
    · exact bitsB_none _
    · split <;> exact bitsB_none _
theorem mayB_root (kind mode nu ng w : Int) (h0 : 0 ≤ w ∧ w ≤ 7) (h : Go.bits .and .i64 w 1 = 0 ∨ kind ≠ 1) : mayB 0 0 [] kind mode nu ng w = true := by
  unfold mayB
  rw [if_pos ⟨by rfl, h0⟩, if_pos rfl]
  exact decide_eq_true (h.elim .inl (fun h => .inr (.inl h)))
section
variable (u g : Int) (gl : List Int) (a0 kind mode nu ng : Int) (d : ByteArray) (ns : List S67) (a7 a8 want : Int)
theorem may_end (hc : credB u g gl = true) : Ev (fun k => laws_FnMay.j2 k false u g gl a0 kind mode nu ng d ns a7 a8) true := by
  refine Ev.step (fun _ => laws_FnMay.j2.eq_2 ..) (ev_neg (by simp) (ev_of (show laws_root.f = some (0, 0, []) from rfl) ?_))
  have m6 := may_impl 0 0 [] a0 kind mode nu ng d ns a7 a8 6
  rw [mayB_root kind mode nu ng 6 (by decide) (.inl (by decide +kernel))] at m6
  have m0 := may_impl u g gl a0 kind mode nu ng d ns a7 a8 0
  rw [mayB_none u g gl kind mode nu ng hc] at m0
  refine Ev.bind m6 (ev_pos rfl ?_)
  by_cases hk : kind = 1
  · exact ev_pos hk (Ev.bind m0 (ev_now rfl))
  · have m7 := may_impl 0 0 [] a0 kind mode nu ng d ns a7 a8 7
    rw [mayB_root kind mode nu ng 7 (by decide) (.inr hk)] at m7
    exact ev_neg hk (ev_of (show laws_root.f = some (0, 0, []) from rfl) (Ev.bind m7 (ev_pos rfl (Ev.bind m0 (ev_now rfl)))))
theorem may_loop (hc : credB u g gl = true) (hw : 0 ≤ want ∧ want ≤ 7) : ∀ (n : Nat) (w : Int), w + n = 8 → 0 ≤ w → Ev (fun k => laws_FnMay.l0 k want (mayB u g gl kind mode nu ng want) w u g gl a0 kind mode nu ng d ns a7 a8) true := by
  intro n
  induction n with
  | zero =>
    intro w h8 _
    have e := may_end u g gl a0 kind mode nu ng d ns a7 a8 hc
    refine Ev.step (fun _ => laws_FnMay.l0.eq_2 ..) (ev_neg (by omega) ?_)
    by_cases hn : u = nu
    · refine ev_pos hn ?_
      by_cases hu : u = 0
      · exact ev_pos hu e
      · refine ev_neg hu ?_
        have em : mayB u g gl kind mode nu ng want = (Go.bits .and .i64 (Go.bits .and .i64 (mode / 64) 7) want == want) := by
          unfold mayB
          rw [if_pos ⟨hc, hw⟩, if_neg hu, if_pos hn]; rfl
        rw [em, bne_self_eq_false]
        exact e
    · exact ev_neg hn e
  | succ n ih =>
    intro w h8 h0
    have e1 : wrap64 (w + 1) = w + 1 := w64 (by omega) (by omega)
    have ih' := ih (w + 1) (by omega) (by omega)
    refine Ev.step (fun _ => laws_FnMay.l0.eq_2 ..) (ev_pos (by omega) ?_)
    rw [e1]
    by_cases hi : mayB u g gl kind mode nu ng want = true
    · refine ev_pos hi ?_
      by_cases hb : Go.bits .and .i64 w want = w
      · have m := may_impl u g gl a0 kind mode nu ng d ns a7 a8 w
        rw [mayB_part u g gl kind mode nu ng want w (by omega) hi hb] at m
        exact ev_pos hb (Ev.bind m (ev_pos rfl ih'))
      · exact ev_neg hb ih'
    · exact ev_neg hi ih'
end
theorem FnMay : laws_FnMay.Pure := by
  intro l _
  unfold laws_FnMay.f laws_big.f
  refine Ev.rounds (r := true) ?_
  refine ev_some ?_
  by_cases h : (l.length : Int) > 1048576
  · exact ev_pos (decide_eq_true h) (ev_now rfl)
  · refine ev_neg (by simpa using h) ?_
    obtain ⟨u, g, gl, a, kind, mode, nu, ng, d, ns, a7, a8, want, e⟩ := drawMay_ex l (by omega)
    refine Ev.bind e (Ev.bind (may_impl u g gl a kind mode nu ng d ns a7 a8 want) ?_)
    by_cases h1 : want < 0
    · refine ev_pos h1 (Ev.step (fun _ => laws_FnMay.j0.eq_2 ..) (ev_pos rfl (ev_now ?_)))
      unfold mayB
      rw [if_neg (fun h => by omega)]; rfl
    · refine ev_neg h1 ?_
      by_cases h2 : want > 7
      · refine ev_pos h2 (Ev.step (fun _ => laws_FnMay.j0.eq_2 ..) (ev_pos rfl (ev_now ?_)))
        unfold mayB
        rw [if_neg (fun h => by omega)]; rfl
      · refine ev_neg h2 (Ev.bind (cred_spec u g gl) ?_)
        by_cases hc : credB u g gl = true
        · rw [hc]
          exact Ev.step (fun _ => laws_FnMay.j0.eq_2 ..) (ev_neg (by simp) (may_loop u g gl a kind mode nu ng d ns a7 a8 want hc (by omega) 8 0 (by omega) (by omega)))
        · have hc' : credB u g gl = false := by simpa using hc
          refine Ev.step (fun _ => laws_FnMay.j0.eq_2 ..) (ev_pos (by rw [hc']; rfl) (ev_now ?_))
          unfold mayB
          rw [if_neg (fun h => hc h.1)]; rfl

end Go.Proofs.Ytgdpbiapcabadaa.Pure
