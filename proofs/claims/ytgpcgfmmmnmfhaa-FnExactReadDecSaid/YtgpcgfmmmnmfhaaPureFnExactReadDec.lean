/- The program's ReadDec returns what the reference's ReadDec returns, for all arguments: the statement over numbers and lists, proved. Conditions: none beyond the bounds of the arguments' kinds. -/
import Derived.Test.YtgpcgfmmmnmfhaaHFnExactReadDecx2
import Derived.Test.YtgpcgfmmmnmfhaaMath
import Derived.Test.YtgpcgfmmmnmfhaaStr
namespace Go.Proofs.Ytgpcgfmmmnmfhaa.Pure
open Go.RowKit Go.Proofs.Ytgpcgfmmmnmfhaa.PFnExactReadDec Go.Proofs.YtgpcgfmmmnmfhaaW.PrintWords Go.Proofs.YtgpcgfmmmnmfhaaW.PrintLast Go.Proofs.YtgpcgfmmmnmfhaaW.PrintMore Go.Proofs.Ytgpcgfmmmnmfhaa.Mth Go.Proofs.Ytgpcgfmmmnmfhaa.Str

set_option linter.unusedVariables false
set_option linter.unusedSimpArgs false
/-! ## section within -/
theorem within_eq (a b c : Int) : impl_within.f a b c = some (decide (b ≤ a ∧ a ≤ c)) := by
  unfold impl_within.f
  by_cases h : a ≥ b
  · rw [if_pos h]; have : b ≤ a := h; simp [this]
  · rw [if_neg h]; have : ¬ b ≤ a := h; simp [this]

/-! ## section decS -/
/-- the sign ahead -/
def sgnL (b : Bool) : List Int := if b = true then [45] else []
theorem dec_spec_loop : ∀ (d : Nat) (x : Int) (acc : List Int) (neg : Bool), x.natAbs < 10 ^ d → -9223372036854775808 ≤ x → x ≤ 9223372036854775807 → acc.length + d ≤ 1000 →
    Ev (fun k => spec_Dec.l0 k x (strOfNums acc) neg) (strOfNums (sgnL neg ++ (digs0 x.natAbs ++ acc))) := by
  have hz : ∀ (acc : List Int) (neg : Bool), acc.length ≤ 1000 → Ev (fun k => spec_Dec.l0 k 0 (strOfNums acc) neg) (strOfNums (sgnL neg ++ (digs0 (0 : Int).natAbs ++ acc))) := by
    intro acc neg ha
    refine Ev.step (spec_Dec.l0.eq_2 _ _ _) (ev_pos rfl ?_)
    have e : digs0 (0 : Int).natAbs = [] := rfl
    rw [e, List.nil_append]
    unfold sgnL
    by_cases h : neg = true
    · refine ev_pos h (ev_pos ?_ (ev_now ?_))
      · rw [strOfNums_size]; omega
      · rw [if_pos h, strOfNums_append]; rfl
    · refine ev_neg h (ev_now ?_)
      rw [if_neg h]; rfl
  intro d
  induction d with
  | zero =>
    intro x acc neg hx _ _ ha
    have : x = 0 := by simp at hx; exact hx
    subst this
    exact hz acc neg (by omega)
  | succ d ih =>
    intro x acc neg hx h0 h1 ha
    by_cases hx0 : x = 0
    · subst hx0; exact hz acc neg (by omega)
    · have hn := dec_next x h0 h1
      have hs : digs0 x.natAbs = digs0 (x.natAbs / 10) ++ [((48 + x.natAbs % 10 : Nat) : Int)] := by
        rw [digs0, if_neg (by omega), digs_step (by omega)]
      have hpow : (wrap64 (x.tdiv 10)).natAbs < 10 ^ d := by rw [hn.1]; rw [Nat.pow_succ] at hx; omega
      have hrec := ih (wrap64 (x.tdiv 10)) ([((48 + x.natAbs % 10 : Nat) : Int)] ++ acc) neg hpow hn.2.1 hn.2.2 (by simp; omega)
      rw [hn.1] at hrec
      rw [hs, List.append_assoc]
      refine Ev.step (spec_Dec.l0.eq_2 _ _ _) (ev_neg hx0 ?_)
      by_cases hm : x.tmod 10 < 0
      · refine ev_pos hm (ev_some (ev_pos ?_ ?_))
        · rw [strOfNums_size, strOfNums_size]; simp; omega
        · rw [dec_neg x h0 h1 hm, ← strOfNums_append]; exact hrec
      · refine ev_neg hm (ev_some (ev_pos ?_ ?_))
        · rw [strOfNums_size, strOfNums_size]; simp; omega
        · rw [dec_pos x h0 h1 hm, ← strOfNums_append]; exact hrec
theorem dec_spec (x : Int) (h0 : -9223372036854775808 ≤ x) (h1 : x ≤ 9223372036854775807) : Ev (fun k => spec_Dec.f k x) (strOfNums (decL x)) := by
  unfold spec_Dec.f
  by_cases hx : x = 0
  · subst hx
    refine ev_pos rfl (ev_now ?_)
    have : decL 0 = [48] := by unfold decL; rw [if_neg (by omega)]; exact digs_lt (by decide)
    rw [this]; rfl
  · refine ev_neg hx ?_
    have := dec_spec_loop 20 x [] (decide (x < 0)) (by omega) h0 h1 (by simp)
    rw [List.append_nil] at this
    have e : sgnL (decide (x < 0)) ++ digs0 x.natAbs = decL x := by
      have hd : digs0 x.natAbs = digs x.natAbs := by unfold digs0; exact if_neg (by omega)
      rw [hd]
      unfold sgnL decL
      by_cases h : x < 0
      · rw [if_pos (decide_eq_true h), if_pos h]; rfl
      · rw [if_neg (by simpa using h), if_neg h]; rfl
    rw [e] at this
    exact this

/-! ## section decI -/
theorem dec_impl_end (x : Int) (acc : List Int) (ha : acc.length ≤ 1000) : ∀ (r : ByteArray), r = strOfNums ((if x < 0 then [45] else []) ++ acc) →
    Ev (fun _ : Nat => if x < 0 then (if 1 + (strOfNums acc).size ≤ 9223372036854775807 then (some ((⟨#[45]⟩ : ByteArray) ++ (strOfNums acc))) else (none)) else (some (strOfNums acc))) r := by
  rintro r rfl
  by_cases h : x < 0
  · refine ev_pos h (ev_pos ?_ (ev_now ?_))
    · rw [strOfNums_size]; omega
    · rw [if_pos h, strOfNums_append]; rfl
  · refine ev_neg h (ev_now ?_)
    rw [if_neg h]; rfl
theorem dec_impl_loop (x : Int) : ∀ (d : Nat) (low : Int) (acc : List Int), low.natAbs < 10 ^ (d + 1) → -9223372036854775808 ≤ low → low ≤ 9223372036854775807 → acc.length + d ≤ 900 →
    Ev (fun k => impl_Dec.l0 k x (strOfNums acc) low) (strOfNums ((if x < 0 then [45] else []) ++ (digs low.natAbs ++ acc))) := by
  have hend : ∀ (low : Int) (acc : List Int), low.natAbs < 10 → acc.length ≤ 900 →
      Ev (fun k => impl_Dec.l0 k x (strOfNums acc) low) (strOfNums ((if x < 0 then [45] else []) ++ (digs low.natAbs ++ acc))) := by
    intro low acc hl ha
    have e : digs low.natAbs = [((48 + low.natAbs % 10 : Nat) : Int)] := by rw [digs_lt hl, Nat.mod_eq_of_lt hl]
    rw [e]
    refine Ev.step (impl_Dec.l0.eq_2 _ _ _) ?_
    by_cases hm : low.tmod 10 < 0
    · refine ev_pos hm (ev_some (ev_pos ?_ (ev_of (within_eq _ _ _) (ev_pos (by simp; omega) ?_))))
      · rw [strOfNums_size, strOfNums_size]; simp; omega
      · rw [dec_neg low (by omega) (by omega) hm, ← strOfNums_append]
        exact dec_impl_end x _ (by simp; omega) _ rfl
    · refine ev_neg hm (ev_some (ev_pos ?_ (ev_of (within_eq _ _ _) (ev_pos (by simp; omega) ?_))))
      · rw [strOfNums_size, strOfNums_size]; simp; omega
      · rw [dec_pos low (by omega) (by omega) hm, ← strOfNums_append]
        exact dec_impl_end x _ (by simp; omega) _ rfl
  intro d
  induction d with
  | zero =>
    intro low acc hl _ _ ha
    exact hend low acc (by simpa using hl) (by omega)
  | succ d ih =>
    intro low acc hl h0 h1 ha
    by_cases hlt : low.natAbs < 10
    · exact hend low acc hlt (by omega)
    · have hn := dec_next low h0 h1
      have hpow : (wrap64 (low.tdiv 10)).natAbs < 10 ^ (d + 1) := by rw [hn.1]; rw [Nat.pow_succ] at hl; omega
      have hrec := ih (wrap64 (low.tdiv 10)) ([((48 + low.natAbs % 10 : Nat) : Int)] ++ acc) hpow hn.2.1 hn.2.2 (by simp; omega)
      rw [hn.1] at hrec
      rw [digs_ge (by omega), List.append_assoc]
      refine Ev.step (impl_Dec.l0.eq_2 _ _ _) ?_
      by_cases hm : low.tmod 10 < 0
      · refine ev_pos hm (ev_some (ev_pos ?_ (ev_of (within_eq _ _ _) (ev_neg (by simp; omega) ?_))))
        · rw [strOfNums_size, strOfNums_size]; simp; omega
        · rw [dec_neg low h0 h1 hm, ← strOfNums_append]; exact hrec
      · refine ev_neg hm (ev_some (ev_pos ?_ (ev_of (within_eq _ _ _) (ev_neg (by simp; omega) ?_))))
        · rw [strOfNums_size, strOfNums_size]; simp; omega
        · rw [dec_pos low h0 h1 hm, ← strOfNums_append]; exact hrec
theorem dec_impl (x : Int) (h0 : -9223372036854775808 ≤ x) (h1 : x ≤ 9223372036854775807) : Ev (fun k => impl_Dec.f k x) (strOfNums (decL x)) := by
  unfold impl_Dec.f
  have := dec_impl_loop x 19 x [] (by omega) h0 h1 (by simp)
  rw [List.append_nil] at this
  have e : (if x < 0 then [45] else []) ++ digs x.natAbs = decL x := by
    unfold decL
    by_cases h : x < 0
    · rw [if_pos h, if_pos h]; rfl
    · rw [if_neg h, if_neg h]; rfl
  rw [e] at this
  exact this

/-! ## section readdecS -/
/-- what the reference makes of the number that it gathered -/
def decEnd (s : ByteArray) (p : Int × Nat) : Int × Bool :=
  if 9 < p.2 ∨ 10 < s.size then (0, false) else if decL (if (bytesOf s).head? = some 45 then -p.1 else p.1) = bytesOf s then ((if (bytesOf s).head? = some 45 then -p.1 else p.1), true) else (0, false)
theorem head_bt (s : ByteArray) (h : 0 < s.size) : (bytesOf s).head? = some (bt s 0) := by
  have := bytesOf_drop_cons s 0 h
  rw [List.drop_zero] at this
  rw [this]; rfl
theorem dec_same (s : ByteArray) (m : Int) (hm : -9223372036854775808 ≤ m ∧ m ≤ 9223372036854775807) : (strOfNums (decL m)).toList = s.toList ↔ decL m = bytesOf s := by
  have hb : ∀ x ∈ decL m, 0 ≤ x ∧ x ≤ 255 := by
    intro x hx
    unfold decL at hx
    split at hx
    · rcases List.mem_cons.1 hx with rfl | hx
      · omega
      · have := digs_digit _ x hx; omega
    · have := digs_digit _ x hx; omega
  rw [toList_eq_iff]
  constructor
  · intro h; rw [← h, bytesOf_strOfNums _ hb]
  · intro h; rw [h, strOfNums_bytesOf]
theorem readdec_spec_j2 (s : ByteArray) (p : Int × Nat) (h0 : 0 ≤ p.1) (h1 : p.1 ≤ 100000000000) (hn : p.2 ≤ 100) : Ev (fun k => spec_ReadDec.j2 k s p.1 (p.2 : Int) (decide ((bytesOf s).head? = some 45))) (decEnd s p) := by
  unfold decEnd
  have key : ∀ m : Int, -100000000000 ≤ m → m ≤ 100000000000 → Ev (fun k => (if (p.2 : Int) > 9 then (some (0, false)) else (if (s.size : Int) > 10 then (some (0, false)) else ((spec_Dec.f k m).bind fun t107 => (if t107.toList = s.toList then (some (m, true)) else (some (0, false))))))) (if 9 < p.2 ∨ 10 < s.size then (0, false) else if decL m = bytesOf s then (m, true) else (0, false)) := by
    intro m hm0 hm1
    by_cases c1 : 9 < p.2
    · rw [if_pos (.inl c1)]; exact ev_pos (by omega) (ev_now rfl)
    · refine ev_neg (by omega) ?_
      by_cases c2 : 10 < s.size
      · rw [if_pos (.inr c2)]; exact ev_pos (by omega) (ev_now rfl)
      · rw [if_neg (by omega)]
        refine ev_neg (by omega) (Ev.bind (dec_spec m (by omega) (by omega)) ?_)
        by_cases c3 : decL m = bytesOf s
        · rw [if_pos c3]; exact ev_pos ((dec_same s m (by omega)).2 c3) (ev_now rfl)
        · rw [if_neg c3]; exact ev_neg (fun h => c3 ((dec_same s m (by omega)).1 h)) (ev_now rfl)
  by_cases hd : (bytesOf s).head? = some 45
  · refine Ev.step (fun _ => spec_ReadDec.j2.eq_2 ..) (ev_pos (decide_eq_true hd) ?_)
    have e : wrap64 (-p.1) = -p.1 := w64 (by omega) (by omega)
    rw [e, if_pos hd]
    exact key (-p.1) (by omega) (by omega)
  · refine Ev.step (fun _ => spec_ReadDec.j2.eq_2 ..) (ev_neg (by simpa using hd) ?_)
    rw [if_neg hd]
    exact key p.1 (by omega) (by omega)
theorem pow11 (k : Nat) (h : k ≤ 11) : (10 : Int) ^ k ≤ 100000000000 := by
  have h7 : (10 : Nat) ^ k ≤ 10 ^ 11 := Nat.pow_le_pow_right (by decide) h
  have e42 : (10 : Nat) ^ 11 = 100000000000 := by decide
  rw [e42] at h7
  have : (10 : Int) ^ k = ((10 ^ k : Nat) : Int) := by simp
  omega
theorem readdec_spec_loop (s : ByteArray) (hs : s.size ≤ 140737488351232) : ∀ (d i : Nat), i + d = min s.size 11 → Ev (fun k => spec_ReadDec.l0 k s (scan ((bytesOf s).take i)).1 ((scan ((bytesOf s).take i)).2 : Int) (i : Int)) (decEnd s (scan ((bytesOf s).take 11))) := by
  intro d
  induction d with
  | zero =>
    intro i hi
    have hb := scan_bound ((bytesOf s).take i)
    have hl : ((bytesOf s).take i).length ≤ 11 := by rw [List.length_take]; omega
    have hp := pow11 (scan ((bytesOf s).take i)).2 (by omega)
    have et : (bytesOf s).take 11 = (bytesOf s).take i := by
      by_cases h11 : s.size ≤ 11
      · rw [List.take_of_length_le (by rw [bytesOf_length]; omega), List.take_of_length_le (by rw [bytesOf_length]; omega)]
      · have : i = 11 := by omega
        rw [this]
    rw [et]
    have hj2 := readdec_spec_j2 s (scan ((bytesOf s).take i)) hb.1 (by omega) (by omega)
    have hend : Ev (fun k => spec_ReadDec.j1 k s (scan ((bytesOf s).take i)).1 ((scan ((bytesOf s).take i)).2 : Int) (i : Int) false) (decEnd s (scan ((bytesOf s).take i))) := by
      refine Ev.step (fun _ => spec_ReadDec.j1.eq_2 ..) (ev_neg (by simp) ?_)
      by_cases hz : 0 < s.size
      · refine ev_pos (by omega) (ev_pos (by omega) ?_)
        rw [head_bt s hz] at hj2
        have e : (bt s 0 == 45) = decide (some (bt s 0) = some 45) := by
          apply Bool.eq_iff_iff.2; simp
        rw [e]; exact hj2
      · refine ev_neg (by omega) ?_
        have hn : (bytesOf s).head? = none := by
          have : (bytesOf s) = [] := List.length_eq_zero_iff.1 (by rw [bytesOf_length]; omega)
          rw [this]; rfl
        rw [hn] at hj2
        simpa using hj2
    by_cases hlt : (i : Int) < (s.size : Int)
    · refine Ev.step (fun _ => spec_ReadDec.l0.eq_2 ..) (ev_pos hlt ?_)
      have : decide ((i : Int) < 11) = false := by simp; omega
      rw [this]; exact hend
    · exact Ev.step (fun _ => spec_ReadDec.l0.eq_2 ..) (ev_neg hlt hend)
  | succ d ih =>
    intro i hi
    have hb := scan_bound ((bytesOf s).take i)
    have hl : ((bytesOf s).take i).length ≤ 10 := by rw [List.length_take]; omega
    have hp := pow11 (scan ((bytesOf s).take i)).2 (by omega)
    have hr := bt_range s (i : Int)
    have ih' := ih (i + 1) (by omega)
    rw [bytesOf_take_snoc s i (by omega), scan_snoc] at ih'
    have e3 : wrap64 ((i : Int) + 1) = ((i + 1 : Nat) : Int) := w64 (by omega) (by omega)
    refine Ev.step (fun _ => spec_ReadDec.l0.eq_2 ..) (ev_pos (by omega) ?_)
    refine Ev.step (fun _ => spec_ReadDec.j1.eq_2 ..) (ev_pos (by simp; omega) (ev_pos (by omega) (ev_pos (by omega) ?_)))
    rw [e3]
    generalize scan ((bytesOf s).take i) = p at *
    unfold scanD isDig at ih'
    by_cases h1 : bt s (i : Int) ≥ 48
    · refine ev_pos h1 ?_
      by_cases h2 : bt s (i : Int) ≤ 57
      · refine ev_pos h2 ?_
        rw [if_pos (decide_eq_true ⟨h1, h2⟩)] at ih'
        have e1 : wrap64 (wrap64 (p.1 * 10) + (bt s (i : Int) - 48) % 256) = p.1 * 10 + (bt s (i : Int) - 48) := by
          rw [w64 (n := p.1 * 10) (by omega) (by omega), w64 (by omega) (by omega)]; omega
        have e2 : wrap64 ((p.2 : Int) + 1) = ((p.2 + 1 : Nat) : Int) := w64 (by omega) (by omega)
        rw [e1, e2]; exact ih'
      · refine ev_neg h2 ?_
        rw [if_neg (by simp; omega)] at ih'
        exact ih'
    · refine ev_neg h1 ?_
      rw [if_neg (by simp; omega)] at ih'
      exact ih'
/-- what is read of a Dec: told by what it is -/
def DecRes (l : List Int) (r : Int × Bool) : Prop := (∃ n, r = (n, true) ∧ IsDec l n) ∨ (r = (0, false) ∧ ∀ n, ¬ IsDec l n)
theorem decRes_eq {l : List Int} {a b : Int × Bool} (ha : DecRes l a) (hb : DecRes l b) : a = b := by
  rcases ha with ⟨n, rfl, hn⟩ | ⟨rfl, hn⟩
  · rcases hb with ⟨m, rfl, hm⟩ | ⟨rfl, hm⟩
    · rw [isDec_inj hn hm]
    · exact absurd hn (hm n)
  · rcases hb with ⟨m, rfl, hm⟩ | ⟨rfl, hm⟩
    · exact absurd hm (hn m)
    · rfl
theorem digs_len9 (n : Nat) (h : n ≤ 999999999) : (digs n).length ≤ 9 := digs_len 8 n (by omega)
theorem decL_len (n : Int) : (decL n).length = (digs n.natAbs).length + (if n < 0 then 1 else 0) := by
  unfold decL; split <;> simp
theorem decL_head (n : Int) : (decL n).head? = some 45 ↔ n < 0 := by
  unfold decL
  by_cases h : n < 0
  · rw [if_pos h]; simp [h]
  · rw [if_neg h]
    constructor
    · intro hh
      have hm : (45 : Int) ∈ digs n.natAbs := List.mem_of_mem_head? (by rw [hh]; simp)
      have := digs_digit _ _ hm
      omega
    · intro h'; exact absurd h' h
theorem decEnd_res (s : ByteArray) : DecRes (bytesOf s) (decEnd s (scan ((bytesOf s).take 11))) := by
  have hb := scan_bound ((bytesOf s).take 11)
  unfold decEnd
  by_cases c1 : 9 < (scan ((bytesOf s).take 11)).2 ∨ 10 < s.size
  · rw [if_pos c1]
    refine .inr ⟨rfl, ?_⟩
    rintro n ⟨hn, h0, h1⟩
    have hl := decL_len n
    have h9 := digs_len9 n.natAbs (by omega)
    rw [hn, bytesOf_length] at hl
    have hs : s.size ≤ 10 := by split at hl <;> omega
    have ht : (bytesOf s).take 11 = bytesOf s := List.take_of_length_le (by rw [bytesOf_length]; omega)
    rw [ht, ← hn, scan_decL] at c1
    simp only at c1
    omega
  · rw [if_neg c1]
    have ht : (bytesOf s).take 11 = bytesOf s := List.take_of_length_le (by rw [bytesOf_length]; omega)
    rw [ht] at hb c1 ⊢
    by_cases c2 : decL (if (bytesOf s).head? = some 45 then -(scan (bytesOf s)).1 else (scan (bytesOf s)).1) = bytesOf s
    · rw [if_pos c2]
      refine .inl ⟨_, rfl, c2, ?_⟩
      have h9 : (10 : Int) ^ (scan (bytesOf s)).2 ≤ 1000000000 := by
        have h7 : (10 : Nat) ^ (scan (bytesOf s)).2 ≤ 10 ^ 9 := Nat.pow_le_pow_right (by decide) (by omega)
        have e42 : (10 : Nat) ^ 9 = 1000000000 := by decide
        rw [e42] at h7
        have : (10 : Int) ^ (scan (bytesOf s)).2 = ((10 ^ (scan (bytesOf s)).2 : Nat) : Int) := by simp
        omega
      split <;> omega
    · rw [if_neg c2]
      refine .inr ⟨rfl, ?_⟩
      rintro n ⟨hn, h0, h1⟩
      apply c2
      rw [← hn, scan_decL]
      congr 1
      by_cases hneg : n < 0
      · rw [if_pos ((decL_head n).2 hneg)]; simp only; omega
      · rw [if_neg (fun h => hneg ((decL_head n).1 h))]; simp only; omega
theorem readdec_spec (s : ByteArray) (hs : s.size ≤ 140737488351232) : ∃ r, Ev (fun k => spec_ReadDec.f k s) r ∧ DecRes (bytesOf s) r := by
  refine ⟨_, ?_, decEnd_res s⟩
  unfold spec_ReadDec.f
  have := readdec_spec_loop s hs (min s.size 11) 0 (by omega)
  simpa [scan] using this

/-! ## section readdecI -/
theorem extract_bytes' (s : ByteArray) (x : Nat) : bytesOf (s.extract x s.size) = (bytesOf s).drop x := by
  rw [bytesOf_extract]
  apply List.take_of_length_le
  rw [List.length_drop, bytesOf_length]; omega
/-- a text without the - ahead -/
def bodyOf (s : ByteArray) : ByteArray := if (bytesOf s).head? = some 45 then s.extract 1 s.size else s
theorem trim_dash (s : ByteArray) : strings_TrimPrefix.f s (⟨#[45]⟩ : ByteArray) = some (bodyOf s) := by
  unfold strings_TrimPrefix.f stringslite_TrimPrefix.f stringslite_HasPrefix.f bodyOf
  have e1 : (((⟨#[45]⟩ : ByteArray).size : Nat) : Int) = 1 := rfl
  rw [e1]
  by_cases h : 0 < s.size
  · rw [if_pos (by omega), if_pos (by omega), if_pos (by omega), Option.bind_some]
    have hb := bytesOf_drop_cons s 0 h
    rw [List.drop_zero] at hb
    have e2 : ((s.extract 0 ((1 : Int) : Int).toNat).toList == (⟨#[45]⟩ : ByteArray).toList) = decide ((bytesOf s).head? = some 45) := by
      apply Bool.eq_iff_iff.2
      rw [beq_iff_eq, toList_eq_iff, decide_eq_true_eq, hb]
      have e3 : bytesOf (s.extract 0 ((1 : Int) : Int).toNat) = [bt s 0] := by
        rw [bytesOf_extract, List.drop_zero, hb]; rfl
      constructor
      · intro he
        rw [he] at e3
        have : bytesOf (⟨#[45]⟩ : ByteArray) = [45] := rfl
        rw [this] at e3
        have h5 : bt s 0 = 45 := (List.cons.inj e3).1.symm
        show some (bt s 0) = some 45
        rw [h5]
      · intro he
        apply byte_ext
        rw [e3]
        have : bt s 0 = 45 := by simpa using he
        rw [this]; rfl
    rw [e2]
    by_cases hd : (bytesOf s).head? = some 45
    · rw [decide_eq_true hd, if_pos rfl, if_pos (by omega), if_pos (by omega), Option.bind_some, if_pos hd]; rfl
    · rw [decide_eq_false hd, if_neg (by simp), Option.bind_some, if_neg hd]
  · rw [if_neg (by omega), Option.bind_some, if_neg (by simp), Option.bind_some, if_neg]
    have : (bytesOf s) = [] := List.length_eq_zero_iff.1 (by rw [bytesOf_length]; omega)
    rw [this]; simp
theorem body_bytes (s : ByteArray) : bytesOf (bodyOf s) = if (bytesOf s).head? = some 45 then (bytesOf s).drop 1 else bytesOf s := by
  unfold bodyOf
  split
  · exact extract_bytes' s 1
  · rfl
theorem pow9 (k : Nat) (h : k ≤ 9) : (10 : Int) ^ k ≤ 1000000000 := by
  have h7 : (10 : Nat) ^ k ≤ 10 ^ 9 := Nat.pow_le_pow_right (by decide) h
  have e42 : (10 : Nat) ^ 9 = 1000000000 := by decide
  rw [e42] at h7
  have : (10 : Int) ^ k = ((10 ^ k : Nat) : Int) := by simp
  omega
/-- what the program makes of the number -/
def decEndI (s : ByteArray) (n : Int) : Int × Bool :=
  if decL (if (bodyOf s).size < s.size then -n else n) = bytesOf s then ((if (bodyOf s).size < s.size then -n else n), true) else (0, false)
theorem readdec_impl_loop (s : ByteArray) (h9 : (bodyOf s).size ≤ 9) : ∀ (d i : Nat), i + d = (bodyOf s).size → (∀ x ∈ (bytesOf (bodyOf s)).take i, isDig x = true) →
    Ev (fun k => impl_ReadDec.l0 k s (bodyOf s) (numOf ((bytesOf (bodyOf s)).take i)) ((bodyOf s).size : Int) (i : Int)) (if (bytesOf (bodyOf s)).all isDig = true then decEndI s (numOf (bytesOf (bodyOf s))) else (0, false)) := by
  intro d
  induction d with
  | zero =>
    intro i hi hd
    have et : (bytesOf (bodyOf s)).take i = bytesOf (bodyOf s) := List.take_of_length_le (by rw [bytesOf_length]; omega)
    rw [et] at hd ⊢
    rw [if_pos (List.all_eq_true.2 hd)]
    have hb := numOf_bound _ hd
    rw [bytesOf_length] at hb
    have hp := pow9 (bodyOf s).size h9
    unfold decEndI
    refine Ev.step (fun _ => impl_ReadDec.l0.eq_2 ..) (ev_neg (by omega) ?_)
    have key : ∀ m : Int, -1000000000 ≤ m → m ≤ 1000000000 → Ev (fun k => ((impl_Dec.f k m).bind fun t121 => (if t121.toList = s.toList then (some (m, true)) else (some (0, false))))) (if decL m = bytesOf s then (m, true) else (0, false)) := by
      intro m h0 h1
      refine Ev.bind (dec_impl m (by omega) (by omega)) ?_
      by_cases c3 : decL m = bytesOf s
      · rw [if_pos c3]; exact ev_pos ((dec_same s m (by omega)).2 c3) (ev_now rfl)
      · rw [if_neg c3]; exact ev_neg (fun h => c3 ((dec_same s m (by omega)).1 h)) (ev_now rfl)
    by_cases hlt : (bodyOf s).size < s.size
    · rw [if_pos hlt]
      have e : wrap64 (-numOf (bytesOf (bodyOf s))) = -numOf (bytesOf (bodyOf s)) := w64 (by omega) (by omega)
      refine ev_pos (by omega) ?_
      rw [e]
      exact key _ (by omega) (by omega)
    · rw [if_neg hlt]
      exact ev_neg (by omega) (key _ (by omega) (by omega))
  | succ d ih =>
    intro i hi hd
    have hr := bt_range (bodyOf s) (i : Int)
    have hb := numOf_bound _ hd
    have hl : ((bytesOf (bodyOf s)).take i).length ≤ 9 := by rw [List.length_take]; omega
    have hp := pow9 _ hl
    have e3 : wrap64 ((i : Int) + 1) = ((i + 1 : Nat) : Int) := w64 (by omega) (by omega)
    have hno : isDig (bt (bodyOf s) (i : Int)) = false → (bytesOf (bodyOf s)).all isDig = false := by
      intro hx
      have hin : bt (bodyOf s) (i : Int) ∈ bytesOf (bodyOf s) := by
        have := bytesOf_drop_cons (bodyOf s) i (by omega)
        exact List.mem_of_mem_drop (i := i) (by rw [this]; simp)
      cases ha : (bytesOf (bodyOf s)).all isDig with
      | false => rfl
      | true => rw [List.all_eq_true.1 ha _ hin] at hx; cases hx
    refine Ev.step (fun _ => impl_ReadDec.l0.eq_2 ..) (ev_pos (by omega) (ev_pos (by omega) (ev_pos (by omega) ?_)))
    by_cases h1 : bt (bodyOf s) (i : Int) < 48
    · rw [hno (decide_eq_false (by omega)), if_neg (by simp)]
      exact ev_pos h1 (ev_now rfl)
    · refine ev_neg h1 ?_
      by_cases h2 : bt (bodyOf s) (i : Int) > 57
      · rw [hno (decide_eq_false (by omega)), if_neg (by simp)]
        exact ev_pos h2 (ev_now rfl)
      · refine ev_neg h2 ?_
        have ih' := ih (i + 1) (by omega) (by
          rw [bytesOf_take_snoc (bodyOf s) i (by omega)]
          intro x hx
          rcases List.mem_append.1 hx with hx | hx
          · exact hd x hx
          · simp at hx; subst hx; exact decide_eq_true (by omega))
        rw [bytesOf_take_snoc (bodyOf s) i (by omega), numOf_snoc] at ih'
        have e1 : wrap64 (wrap64 (10 * numOf ((bytesOf (bodyOf s)).take i)) + (bt (bodyOf s) (i : Int) - 48) % 256) = numOf ((bytesOf (bodyOf s)).take i) * 10 + (bt (bodyOf s) (i : Int) - 48) := by
          rw [w64 (n := 10 * numOf ((bytesOf (bodyOf s)).take i)) (by omega) (by omega), w64 (by omega) (by omega)]; omega
        rw [e1, e3]
        exact ih'
theorem readdec_impl (s : ByteArray) (hs : s.size ≤ 140737488351232) : ∃ r, Ev (fun k => impl_ReadDec.f k s) r ∧ DecRes (bytesOf s) r := by
  have hsz : (bodyOf s).size = if (bytesOf s).head? = some 45 then s.size - 1 else s.size := by
    have := congrArg List.length (body_bytes s)
    rw [bytesOf_length] at this
    rw [this]
    split
    · rw [List.length_drop, bytesOf_length]
    · rw [bytesOf_length]
  have hlt : ((bodyOf s).size < s.size) ↔ (bytesOf s).head? = some 45 := by
    rw [hsz]
    constructor
    · intro h
      by_cases hc : (bytesOf s).head? = some 45
      · exact hc
      · rw [if_neg hc] at h; omega
    · intro hc
      rw [if_pos hc]
      have : (bytesOf s) ≠ [] := by intro e; rw [e] at hc; simp at hc
      have : 0 < (bytesOf s).length := List.length_pos_iff.2 this
      rw [bytesOf_length] at this
      omega
  have hbody : ∀ n, IsDec (bytesOf s) n → bytesOf (bodyOf s) = digs n.natAbs := by
    rintro n ⟨hn, _, _⟩
    rw [body_bytes, ← hn]
    by_cases hneg : n < 0
    · rw [if_pos ((decL_head n).2 hneg)]; unfold decL; rw [if_pos hneg]; rfl
    · rw [if_neg (fun h => hneg ((decL_head n).1 h))]; unfold decL; rw [if_neg hneg]
  unfold impl_ReadDec.f
  by_cases hw : 1 ≤ (bodyOf s).size ∧ (bodyOf s).size ≤ 9
  · have hloop := readdec_impl_loop s hw.2 (bodyOf s).size 0 (by omega) (by intro x hx; simp at hx)
    rw [List.take_zero] at hloop
    refine ⟨_, ev_of (trim_dash s) (ev_of (within_eq _ _ _) (ev_pos (by simp; omega) hloop)), ?_⟩
    by_cases ha : (bytesOf (bodyOf s)).all isDig = true
    · rw [if_pos ha]
      unfold decEndI
      have hb := numOf_bound _ (List.all_eq_true.1 ha)
      rw [bytesOf_length] at hb
      have hp := pow9 (bodyOf s).size hw.2
      by_cases c2 : decL (if (bodyOf s).size < s.size then -numOf (bytesOf (bodyOf s)) else numOf (bytesOf (bodyOf s))) = bytesOf s
      · rw [if_pos c2]
        refine .inl ⟨_, rfl, c2, ?_⟩
        split <;> omega
      · rw [if_neg c2]
        refine .inr ⟨rfl, ?_⟩
        intro n hn
        apply c2
        rw [hbody n hn, numOf_digs, ← hn.1]
        congr 1
        by_cases hneg : n < 0
        · rw [if_pos (hlt.2 (by rw [← hn.1]; exact (decL_head n).2 hneg))]; omega
        · rw [if_neg (fun h => hneg ((decL_head n).1 (by rw [hn.1]; exact hlt.1 h)))]; omega
    · rw [if_neg ha]
      refine .inr ⟨rfl, ?_⟩
      intro n hn
      apply ha
      rw [hbody n hn]
      exact List.all_eq_true.2 (digs_isDig _)
  · refine ⟨(0, false), ev_of (trim_dash s) (ev_of (within_eq _ _ _) (ev_neg (by simp; omega) (ev_now rfl))), .inr ⟨rfl, ?_⟩⟩
    intro n hn
    apply hw
    have := congrArg List.length (hbody n hn)
    rw [bytesOf_length] at this
    have h9 := digs_len9 n.natAbs (by have := hn.2; omega)
    have h1 := digs_pos n.natAbs
    omega

/-! ## section FnExactReadDec -/
theorem FnExactReadDec : laws_FnExactReadDec.Pure := by
  intro s hs
  unfold laws_FnExactReadDec.f
  refine Ev.rounds (r := true) ?_
  by_cases h : (s.size : Int) > 1048576
  · exact ev_pos h (ev_now rfl)
  · refine ev_neg h ?_
    obtain ⟨a, ha, ha'⟩ := readdec_spec s hs
    obtain ⟨b, hb, hb'⟩ := readdec_impl s hs
    have e := decRes_eq ha' hb'
    subst e
    exact Ev.bind ha (Ev.bind hb (ev_pos rfl (ev_neg (by simp) (ev_now rfl))))

end Go.Proofs.Ytgpcgfmmmnmfhaa.Pure
