/- By hand: what is read of a text, as the reference reads it and as the program does (plain). -/
import Derived.Test.YtiopcpkfjikfdaaRv0
import Derived.Test.YtiopcpkfjikfdaaRvS
import Derived.Test.YtiopcpkfjikfdaaMath
import Derived.Test.YtiopcpkfjikfdaaStr
namespace Go.Proofs.Ytiopcpkfjikfdaa.PFnExactVolOk
open Go.RowKit Go.Proofs.YtiopcpkfjikfdaaW.PrintWords Go.Proofs.YtiopcpkfjikfdaaW.PrintLast Go.Proofs.YtiopcpkfjikfdaaW.PrintMore
open Go.Proofs.Ytiopcpkfjikfdaa.Mth Go.Proofs.Ytiopcpkfjikfdaa.Str
set_option linter.unusedVariables false
set_option linter.unusedSimpArgs false
theorem bt_getD (s : ByteArray) (i : Nat) : bt s (i : Int) = (bytesOf s).getD i 0 := bt_get s i
theorem wbt (s : ByteArray) (i : Int) : wrap64 (bt s i) = bt s i := by
  have := bt_range s i
  exact w64 (by omega) (by omega)
theorem low_drop (l : List Int) (i : Nat) (h : i < l.length) : low (l.drop i) = (l.getD i 0).toNat % 128 + 128 * low (l.drop (i + 1)) := by
  rw [List.drop_eq_getElem_cons h, low]
  rw [List.getD_eq_getElem?_getD, List.getElem?_eq_getElem h]; rfl
/-- the reference's inner loop: the number of the first bytes, from the last one down -/
theorem readvar_spec_inner (s : ByteArray) (x : Nat) (hx : x ≤ s.size) (hx7 : x ≤ 7) (r : Int × Int)
    (H : Ev (fun k => (spec_Var.f k ((low ((bytesOf s).take x) : Nat) : Int)).bind fun t111 => (if 0 ≤ (x : Int) then (if (x : Int) ≤ (s.size : Int) then (if t111.toList = (s.extract 0 (x : Int).toNat).toList then (some (((low ((bytesOf s).take x) : Nat) : Int), (x : Int))) else (spec_ReadVar.l0 k s (wrap64 ((x : Int) + 1)))) else (none)) else (none))) r) :
    ∀ (i : Nat), i ≤ x → Ev (fun k => spec_ReadVar.l1 k s (x : Int) ((low (((bytesOf s).take x).drop i) : Nat) : Int) ((i : Int) - 1)) r := by
  intro i
  induction i with
  | zero =>
    intro hi
    refine Ev.step (spec_ReadVar.l1.eq_2 _ _ _ _) (ev_neg (by omega) ?_)
    simpa using H
  | succ i ih =>
    intro hi
    have hlen : ((bytesOf s).take x).length = x := by rw [List.length_take, bytesOf_length]; omega
    have hb := low_bound (((bytesOf s).take x).drop (i + 1))
    have hb2 : low (((bytesOf s).take x).drop (i + 1)) < 128 ^ 7 := by
      refine Nat.lt_of_lt_of_le hb (Nat.pow_le_pow_right (by decide) ?_)
      rw [List.length_drop]; omega
    have hl := low_drop ((bytesOf s).take x) i (by omega)
    have e0 : (((i + 1 : Nat) : Int) - 1) = (i : Int) := by omega
    rw [e0]
    refine Ev.step (spec_ReadVar.l1.eq_2 _ _ _ _) (ev_pos (by omega) (ev_pos (by omega) (ev_pos (by omega) ?_)))
    have e1 : wrap64 (wrap64 (((low (((bytesOf s).take x).drop (i + 1)) : Nat) : Int) * 128) + (wrap64 (bt s (i : Int))).tmod 128) = ((low (((bytesOf s).take x).drop i) : Nat) : Int) := by
      have hr := bt_range s (i : Int)
      have hg : ((bytesOf s).take x).getD i 0 = bt s (i : Int) := by
        rw [bt_getD, List.getD_eq_getElem?_getD, List.getD_eq_getElem?_getD, List.getElem?_take_of_lt (by omega)]
      rw [wbt, hl, hg, Int.tmod_eq_emod_of_nonneg hr.1]
      have : (128 : Nat) ^ 7 = 562949953421312 := by decide
      have e5 : wrap64 (((low (((bytesOf s).take x).drop (i + 1)) : Nat) : Int) * 128) = ((low (((bytesOf s).take x).drop (i + 1)) : Nat) : Int) * 128 := w64 (by omega) (by omega)
      rw [e5, w64 (by omega) (by omega)]
      omega
    rw [e1]
    have e2 : wrap64 ((i : Int) - 1) = (i : Int) - 1 := w64 (by omega) (by omega)
    rw [e2]
    exact ih (by omega)
theorem readvar_spec_loop (s : ByteArray) (hs : s.size ≤ 140737488351232) : ∀ (d x : Nat), x + d = 8 → 1 ≤ x → (∀ m, 1 ≤ m → m < x → m ≤ s.size → (bytesOf s).take m ≠ varL (low ((bytesOf s).take m))) →
    Ev (fun k => spec_ReadVar.l0 k s (x : Int)) (readN (bytesOf s)) := by
  have hnone : ∀ x, (8 ≤ x ∨ s.size < x) → (∀ m, 1 ≤ m → m < x → m ≤ s.size → (bytesOf s).take m ≠ varL (low ((bytesOf s).take m))) → readN (bytesOf s) = (0, 0) := by
    intro x hx hm
    cases hr : rdv 7 true (bytesOf s) with
    | none => exact readN_none hr
    | some p =>
      obtain ⟨n, k⟩ := p
      obtain ⟨h1, h2, h3, h4, h5, _, h7⟩ := rdv_some 7 true _ n k (bytesOf_range s) hr
      rw [bytesOf_length] at h1
      exact absurd (by rw [h4, low_varL]) (hm k h3 (by omega) h1)
  intro d
  induction d with
  | zero =>
    intro x hx h1 hm
    rw [hnone x (by omega) hm]
    refine Ev.step (spec_ReadVar.l0.eq_2 _ _) (ev_neg (by omega) ?_)
    exact Ev.step (spec_ReadVar.j1.eq_2 _ _ _) (ev_neg (by simp) (ev_now rfl))
  | succ d ih =>
    intro x hx h1 hm
    refine Ev.step (spec_ReadVar.l0.eq_2 _ _) (ev_pos (by omega) ?_)
    by_cases hsz : s.size < x
    · rw [hnone x (by omega) hm]
      exact Ev.step (spec_ReadVar.j1.eq_2 _ _ _) (ev_neg (by simp; omega) (ev_now rfl))
    · refine Ev.step (spec_ReadVar.j1.eq_2 _ _ _) (ev_pos (by simp; omega) ?_)
      have e2 : wrap64 ((x : Int) - 1) = (x : Int) - 1 := w64 (by omega) (by omega)
      rw [e2]
      have e3 : (0 : Int) = ((low (((bytesOf s).take x).drop x) : Nat) : Int) := by
        rw [List.drop_eq_nil_of_le (by rw [List.length_take]; omega)]; rfl
      rw [e3]
      refine readvar_spec_inner s x (by omega) (by omega) _ ?_ x (Nat.le_refl _)
      have hlow : low ((bytesOf s).take x) < 562949953421312 := by
        refine Nat.lt_of_lt_of_le (low_bound _) ?_
        have : ((bytesOf s).take x).length ≤ 7 := by rw [List.length_take]; omega
        exact Nat.le_trans (Nat.pow_le_pow_right (by decide) this) (by decide)
      refine Ev.bind (var_spec _ hlow) (ev_pos (by omega) (ev_pos (by omega) ?_))
      by_cases ht : (bytesOf s).take x = varL (low ((bytesOf s).take x))
      · have hr := rdv_of_take ht (by simpa using hlow)
        rw [readN_some hr, ← ht]
        have hl : ((bytesOf s).take x).length = x := by rw [List.length_take, bytesOf_length]; omega
        rw [hl]
        refine ev_pos ?_ (ev_now rfl)
        rw [toList_eq_iff]
        apply byte_ext
        rw [bytesOf_strOfNums _ (fun y hy => bytesOf_range s y (List.mem_of_mem_take hy)), bytesOf_extract]
        simp
      · refine ev_neg ?_ ?_
        · rw [toList_eq_iff]
          intro he
          have := congrArg bytesOf he
          rw [bytesOf_strOfNums _ (varL_byte _), bytesOf_extract] at this
          simp at this
          exact ht this.symm
        · have e4 : wrap64 ((x : Int) + 1) = ((x + 1 : Nat) : Int) := w64 (by omega) (by omega)
          rw [e4]
          refine ih (x + 1) (by omega) (by omega) ?_
          intro m hm1 hm2 hm3
          by_cases hmx : m = x
          · subst hmx; exact ht
          · exact hm m hm1 (by omega) hm3
theorem readvar_spec (s : ByteArray) (hs : s.size ≤ 140737488351232) : Ev (fun k => spec_ReadVar.f k s) (readN (bytesOf s)) := by
  unfold spec_ReadVar.f
  exact readvar_spec_loop s hs 7 1 (by omega) (by omega) (fun m h1 h2 => by omega)
/-- what the program's loop comes to, from a place on -/
def readFrom (n : Int) (i : Nat) (o : Option (Nat × Nat)) : Int × Int := match o with
  | some p => (n + 2 ^ (7 * i) * (p.1 : Int), ((p.2 + i : Nat) : Int))
  | none => (0, 0)
theorem readvar_impl_loop (s : ByteArray) (hs : s.size ≤ 140737488351232) : ∀ (d i : Nat) (n : Int), i + d = 7 → i ≤ s.size → 0 ≤ n → n < 2 ^ (7 * i) →
    Ev (fun k => impl_ReadVar.l0 k s n (i : Int)) (readFrom n i (rdv d (decide (i = 0)) ((bytesOf s).drop i))) := by
  intro d
  induction d with
  | zero =>
    intro i n hi hle h0 h1
    have : readFrom n i (rdv 0 (decide (i = 0)) ((bytesOf s).drop i)) = (0, 0) := rfl
    rw [this]
    by_cases hsz : (i : Int) < (s.size : Int)
    · refine Ev.step (impl_ReadVar.l0.eq_2 _ _ _) (ev_pos hsz ?_)
      exact Ev.step (impl_ReadVar.j1.eq_2 _ _ _ _) (ev_neg (by simp; omega) (ev_now rfl))
    · refine Ev.step (impl_ReadVar.l0.eq_2 _ _ _) (ev_neg hsz ?_)
      exact Ev.step (impl_ReadVar.j1.eq_2 _ _ _ _) (ev_neg (by simp) (ev_now rfl))
  | succ d ih =>
    intro i n hi hle h0 h1
    by_cases hsz : i < s.size
    · have hr := bt_range s (i : Int)
      have hdrop : (bytesOf s).drop i = bt s (i : Int) :: (bytesOf s).drop (i + 1) := by
        have hl : i < (bytesOf s).length := by rw [bytesOf_length]; exact hsz
        rw [List.drop_eq_getElem_cons hl, bt_getD, List.getD_eq_getElem?_getD, List.getElem?_eq_getElem hl]; rfl
      rw [hdrop]
      have wb : wrap64 (bt s (i : Int)) = bt s (i : Int) := wbt s _
      have f1 : (i : Int) < (s.size : Int) := by omega
      have f2 : (0 : Int) ≤ (i : Int) := by omega
      have f3 : decide ((i : Int) < 7) = true := by simp; omega
      have hw7 : (0 : Int) ≤ wrap64 (7 * (i : Int)) := by rw [w64 (by omega) (by omega)]; omega
      have hw1 : wrap64 ((i : Int) + 1) = ((i + 1 : Nat) : Int) := w64 (by omega) (by omega)
      have hP : (2 : Int) ^ (7 * (i + 1)) = 2 ^ (7 * i) * 128 := by
        have : 7 * (i + 1) = 7 * i + 7 := by omega
        rw [this, Int.pow_add]; rfl
      have hPpos : (0 : Int) < 2 ^ (7 * i) := Int.pow_pos (by decide)
      have hPmax : (2 : Int) ^ (7 * i) ≤ 4398046511104 := by
        have h7 : (2 : Nat) ^ (7 * i) ≤ 2 ^ 42 := Nat.pow_le_pow_right (by decide) (by omega)
        have e42 : (2 : Nat) ^ 42 = 4398046511104 := by decide
        rw [e42] at h7
        have : (2 : Int) ^ (7 * i) = ((2 ^ (7 * i) : Nat) : Int) := by simp
        omega
      have hshl : shl .i64 (Go.bits .and .i64 (wrap64 (bt s (i : Int))) 127) (wrap64 (7 * (i : Int))) = bt s (i : Int) % 128 * 2 ^ (7 * i) := by
        have hr' := bt_range s (i : Int)
        rw [wbt, and127 _ hr'.1 (by omega)]
        have e : wrap64 (7 * (i : Int)) = ((7 * i : Nat) : Int) := w64 (by omega) (by omega)
        rw [e]
        unfold shl
        have hm : min ((7 * i : Nat) : Int).toNat IntKind.i64.bits = 7 * i := by
          have : IntKind.i64.bits = 64 := rfl
          rw [this]; omega
        rw [hm, i64_w]
        have hlt : bt s (i : Int) % 128 * 2 ^ (7 * i) ≤ 127 * 2 ^ (7 * i) := Int.mul_le_mul_of_nonneg_right (show bt s (i : Int) % 128 ≤ 127 by omega) (Int.le_of_lt hPpos)
        have hge : 0 ≤ bt s (i : Int) % 128 * 2 ^ (7 * i) := Int.mul_nonneg (by omega) (Int.le_of_lt hPpos)
        exact w64 (by omega) (by omega)
      generalize hB : bt s (i : Int) = b at *
      have hor : Go.bits .or .i64 n (b % 128 * 2 ^ (7 * i)) = n + b % 128 * 2 ^ (7 * i) := by
        rw [or_comm', or_join (7 * i) _ _ (Int.mul_nonneg (by omega) (Int.le_of_lt hPpos)) (Int.mul_emod_left _ _) ?_ h0 h1 (by omega)]
        · omega
        · have hlt : b % 128 * 2 ^ (7 * i) ≤ 127 * 2 ^ (7 * i) := Int.mul_le_mul_of_nonneg_right (show b % 128 ≤ 127 by omega) (Int.le_of_lt hPpos)
          omega
      refine Ev.step (impl_ReadVar.l0.eq_2 _ _ _) (ev_pos f1 ?_)
      refine Ev.step (impl_ReadVar.j1.eq_2 _ _ _ _) (ev_pos f3 (ev_pos f2 (ev_pos f1 (ev_pos hw7 ?_))))
      rw [wb] at hshl
      rw [hB, wb, hshl, hor, hw1]
      clear hshl hor wb hw7 hw1 f3
      by_cases h128 : 128 ≤ b
      · refine ev_pos (by omega) ?_
        have hb' : 0 ≤ n + b % 128 * 2 ^ (7 * i) := Int.add_nonneg h0 (Int.mul_nonneg (by omega) (Int.le_of_lt hPpos))
        have hlt' : n + b % 128 * 2 ^ (7 * i) < 2 ^ (7 * (i + 1)) := by
          have : b % 128 * 2 ^ (7 * i) ≤ 127 * 2 ^ (7 * i) := Int.mul_le_mul_of_nonneg_right (by omega) (Int.le_of_lt hPpos)
          rw [hP]; omega
        have := ih (i + 1) _ (by omega) (by omega) hb' hlt'
        have hf : decide (i + 1 = 0) = false := by simp
        rw [hf] at this
        have e : readFrom n i (rdv (d + 1) (decide (i = 0)) (b :: (bytesOf s).drop (i + 1))) = readFrom (n + b % 128 * 2 ^ (7 * i)) (i + 1) (rdv d false ((bytesOf s).drop (i + 1))) := by
          rw [rdv, if_pos h128]
          cases rdv d false ((bytesOf s).drop (i + 1)) with
          | none => rfl
          | some p =>
            simp only [Option.map_some, readFrom]
            have e6 : (((b - 128).toNat + 128 * p.1 : Nat) : Int) = b % 128 + 128 * (p.1 : Int) := by omega
            rw [e6, hP]
            refine Prod.ext ?_ ?_
            · simp only
              rw [Int.mul_add, Int.mul_comm (b % 128), Int.mul_assoc, Int.add_assoc]
            · simp only
              omega
        rw [e]
        exact this
      · refine ev_neg (by omega) ?_
        have hmod : b % 128 = b := Int.emod_eq_of_lt (by omega) (by omega)
        by_cases hb0 : b = 0
        · refine ev_pos hb0 ?_
          by_cases hi0 : i = 0
          · refine ev_neg (by omega) (ev_now ?_)
            rw [rdv, if_neg h128, if_neg (by simp [hi0])]
            simp only [readFrom]
            subst hi0
            rw [hmod, hb0]
            simp
          · refine ev_pos (by omega) (ev_now ?_)
            rw [rdv, if_neg h128, if_pos (by simp [hi0, hb0])]
            rfl
        · refine ev_neg hb0 (ev_now ?_)
          rw [rdv, if_neg h128, if_neg (by simp [hb0])]
          simp only [readFrom]
          rw [hmod]
          have : ((b.toNat : Nat) : Int) = b := by omega
          rw [this, Int.mul_comm b]
          congr 2
          omega
    · have hd : (bytesOf s).drop i = [] := List.drop_eq_nil_of_le (by rw [bytesOf_length]; omega)
      rw [hd]
      have : readFrom n i (rdv (d + 1) (decide (i = 0)) []) = (0, 0) := rfl
      rw [this]
      refine Ev.step (impl_ReadVar.l0.eq_2 _ _ _) (ev_neg (by omega) ?_)
      exact Ev.step (impl_ReadVar.j1.eq_2 _ _ _ _) (ev_neg (by simp) (ev_now rfl))
theorem readvar_impl (s : ByteArray) (hs : s.size ≤ 140737488351232) : Ev (fun k => impl_ReadVar.f k s) (readN (bytesOf s)) := by
  unfold impl_ReadVar.f
  have := readvar_impl_loop s hs 7 0 0 (by omega) (by omega) (by omega) (by decide)
  have e : readFrom 0 0 (rdv 7 (decide (0 = 0)) ((bytesOf s).drop 0)) = readN (bytesOf s) := by
    simp only [List.drop_zero, decide_true]
    unfold readN
    cases rdv 7 true (bytesOf s) with
    | none => rfl
    | some p => simp [readFrom]
  rw [← e]
  exact this
theorem extract_bytes (s : ByteArray) (x : Nat) : bytesOf (s.extract x s.size) = (bytesOf s).drop x := by
  rw [bytesOf_extract]
  apply List.take_of_length_le
  rw [List.length_drop, bytesOf_length]; omega
theorem extract_size_le (s : ByteArray) (x : Nat) : (s.extract x s.size).size ≤ s.size := by
  rw [ByteArray.size_extract]; omega
/-- so many Vars from a place on; and where they end, -1 where one is none -/
def varsAt (l : List Int) (x : Int) : Nat → List Int → List Int × Int
  | 0, acc => (acc, x)
  | n + 1, acc => if x < 0 ∨ (l.length : Int) < x then (acc, -1) else
      match rdv 7 true (l.drop x.toNat) with
      | some p => varsAt l (x + (p.2 : Int)) n (acc ++ [(p.1 : Int)])
      | none => (acc, -1)
theorem l8vars_loop (s : ByteArray) (hs : s.size ≤ 140737488351232) (m : Nat) (hm : m ≤ 1000) : ∀ (d i : Nat) (x : Int) (acc : List Int), i + d = m → acc.length = i → (x ≤ 140737488351232 ∧ -1 ≤ x) →
    Ev (fun k => spec_l8Vars.l0 k s x (m : Int) acc (i : Int)) (varsAt (bytesOf s) x d acc) := by
  intro d
  induction d with
  | zero =>
    intro i x acc hi ha hx
    exact Ev.step (spec_l8Vars.l0.eq_2 _ _ _ _ _) (ev_neg (by omega) (ev_now rfl))
  | succ d ih =>
    intro i x acc hi ha hx
    rw [varsAt, bytesOf_length]
    refine Ev.step (spec_l8Vars.l0.eq_2 _ _ _ _ _) (ev_pos (by omega) ?_)
    by_cases h0 : x < 0
    · rw [if_pos (.inl h0)]
      exact ev_pos h0 (Ev.step (spec_l8Vars.j1.eq_2 _ _ _ _ _ _) (ev_pos rfl (ev_now rfl)))
    · refine ev_neg h0 ?_
      by_cases h1 : (s.size : Int) < x
      · rw [if_pos (.inr h1)]
        exact Ev.step (spec_l8Vars.j1.eq_2 _ _ _ _ _ _) (ev_pos (decide_eq_true h1) (ev_now rfl))
      · rw [if_neg (by omega)]
        refine Ev.step (spec_l8Vars.j1.eq_2 _ _ _ _ _ _) (ev_neg (by simp; omega) (ev_pos (by omega) (ev_pos (by omega) ?_)))
        refine Ev.bind (readvar_spec _ (Nat.le_trans (extract_size_le s x.toNat) hs)) ?_
        rw [extract_bytes]
        cases hr : rdv 7 true ((bytesOf s).drop x.toNat) with
        | none =>
          rw [readN_none hr]
          exact ev_pos rfl (ev_now rfl)
        | some p =>
          obtain ⟨n, k⟩ := p
          have hf := rdv_some 7 true _ n k (fun y hy => bytesOf_range s y (List.mem_of_mem_drop hy)) hr
          obtain ⟨q1, q2, q3, _, _, _, _⟩ := hf
          rw [List.length_drop, bytesOf_length] at q1
          rw [readN_some hr]
          refine ev_neg (by simp only; omega) (ev_pos (by omega) ?_)
          have e1 : wrap64 (x + (k : Int)) = x + (k : Int) := w64 (by omega) (by omega)
          have e2 : wrap64 ((i : Int) + 1) = ((i + 1 : Nat) : Int) := w64 (by omega) (by omega)
          simp only
          rw [e1, e2]
          exact ih (i + 1) (x + (k : Int)) (acc ++ [(n : Int)]) (by omega) (by simp; omega) (by omega)
theorem l8vars_spec (s : ByteArray) (hs : s.size ≤ 140737488351232) (x : Int) (hx : x ≤ 140737488351232 ∧ -1 ≤ x) (m : Nat) (hm : m ≤ 1000) : Ev (fun k => spec_l8Vars.f k s x (m : Int)) (varsAt (bytesOf s) x m []) := by
  unfold spec_l8Vars.f
  exact l8vars_loop s hs m hm m 0 x [] (by omega) rfl hx
/-- a Var from a place on, and where it ends; none: it stands not there -/
def pnum (L : List Int) : Option Nat → Nat × Option Nat
  | none => (0, none)
  | some p => match rdv 7 true (L.drop p) with
    | some q => (q.1, some (p + q.2))
    | none => (0, none)
theorem pnum_yes {L : List Int} {p : Nat} {q : Nat × Nat} (h : rdv 7 true (L.drop p) = some q) : pnum L (some p) = (q.1, some (p + q.2)) := by simp only [pnum, h]
theorem pnum_no {L : List Int} {p : Nat} (h : rdv 7 true (L.drop p) = none) : pnum L (some p) = (0, none) := by simp only [pnum, h]
/-- a piece from a place on -/
def ptake (s : ByteArray) (o : Option Nat) : ByteArray × Option Nat :=
  match (pnum (bytesOf s) o).2 with
  | some p => if (pnum (bytesOf s) o).1 + p ≤ s.size then (s.extract p (p + (pnum (bytesOf s) o).1), some (p + (pnum (bytesOf s) o).1)) else (⟨#[]⟩, none)
  | none => (⟨#[]⟩, none)
def posI : Option Nat → Int
  | some p => (p : Int)
  | none => -1
def inside (s : ByteArray) : Option Nat → Prop
  | some p => p ≤ s.size
  | none => True
theorem pnum_in (s : ByteArray) (o : Option Nat) (h : inside s o) : inside s (pnum (bytesOf s) o).2 := by
  cases o with
  | none => trivial
  | some p =>
    cases hr : rdv 7 true ((bytesOf s).drop p) with
    | none => rw [pnum_no hr]; trivial
    | some q =>
      rw [pnum_yes hr]
      obtain ⟨n, k⟩ := q
      obtain ⟨q1, _⟩ := rdv_some 7 true _ n k (fun y hy => bytesOf_range s y (List.mem_of_mem_drop hy)) hr
      rw [List.length_drop, bytesOf_length] at q1
      have : p ≤ s.size := h
      show p + k ≤ s.size
      omega
theorem ptake_in (s : ByteArray) (o : Option Nat) : inside s (ptake s o).2 := by
  unfold ptake
  cases h : (pnum (bytesOf s) o).2 with
  | none => trivial
  | some p =>
    simp only
    split
    · show p + _ ≤ s.size; omega
    · trivial
/-- what was read stands there as it is written -/
theorem pnum_back (s : ByteArray) (o : Option Nat) (q : Nat) (hi : inside s o) (h : (pnum (bytesOf s) o).2 = some q) :
    ∃ p, o = some p ∧ p < q ∧ q ≤ s.size ∧ (pnum (bytesOf s) o).1 < 562949953421312 ∧ (bytesOf s).take q = (bytesOf s).take p ++ varL (pnum (bytesOf s) o).1 := by
  have hin := pnum_in s o hi
  rw [h] at hin
  cases o with
  | none => exact absurd h (by simp [pnum])
  | some p =>
    refine ⟨p, rfl, ?_⟩
    cases hr : rdv 7 true ((bytesOf s).drop p) with
    | none => rw [pnum_no hr] at h; exact absurd h (by simp)
    | some x =>
      obtain ⟨n, k⟩ := x
      rw [pnum_yes hr] at h ⊢
      simp only [Option.some.injEq] at h
      obtain ⟨q1, q2, q3, q4, q5, _, q7⟩ := rdv_some 7 true _ n k (fun y hy => bytesOf_range s y (List.mem_of_mem_drop hy)) hr
      refine ⟨by omega, hin, by simpa using q5, ?_⟩
      simp only
      rw [← h, ← q4, List.take_add]
theorem ptake_back (s : ByteArray) (o : Option Nat) (q : Nat) (hi : inside s o) (h : (ptake s o).2 = some q) :
    ∃ p, o = some p ∧ p < q ∧ q ≤ s.size ∧ (bytesOf s).take q = (bytesOf s).take p ++ bytesOf (pieceB (ptake s o).1) := by
  unfold ptake at h ⊢
  cases hp : (pnum (bytesOf s) o).2 with
  | none => rw [hp] at h; exact absurd h (by simp)
  | some x =>
    obtain ⟨p, h1, h2, h3, h4, h5⟩ := pnum_back s o x hi hp
    rw [hp] at h
    simp only at h ⊢
    by_cases hc : (pnum (bytesOf s) o).1 + x ≤ s.size
    · rw [if_pos hc] at h ⊢
      simp only [Option.some.injEq] at h
      refine ⟨p, h1, by omega, by omega, ?_⟩
      have es : (s.extract x (x + (pnum (bytesOf s) o).1)).size = (pnum (bytesOf s) o).1 := by rw [ByteArray.size_extract]; omega
      unfold pieceB
      rw [bytesOf_append, bytesOf_strOfNums _ (varL_byte _), es, ← List.append_assoc, ← h5, ← h, List.take_add, bytesOf_extract]
      congr 2
      try omega
    · rw [if_neg hc] at h
      exact absurd h (by simp)
theorem pnum_none (L : List Int) : pnum L none = (0, none) := rfl
theorem ptake_none (s : ByteArray) : ptake s none = (⟨#[]⟩, none) := rfl
theorem varsAt_one (s : ByteArray) (o : Option Nat) (hi : inside s o) : varsAt (bytesOf s) (posI o) 1 [] = (match (pnum (bytesOf s) o).2 with | some _ => [((pnum (bytesOf s) o).1 : Int)] | none => [], posI (pnum (bytesOf s) o).2) := by
  cases o with
  | none => rw [varsAt, if_pos (.inl (by decide))]; rfl
  | some p =>
    have hp : p ≤ s.size := hi
    have e : posI (some p) = (p : Int) := rfl
    have e2 : ((p : Nat) : Int).toNat = p := rfl
    rw [varsAt, e, if_neg (by rw [bytesOf_length]; omega), e2]
    cases hr : rdv 7 true ((bytesOf s).drop p) with
    | none => rw [pnum_no hr]; rfl
    | some q => rw [pnum_yes hr]; simp [varsAt, posI]
theorem posI_in (s : ByteArray) (hs : s.size ≤ 140737488351232) (o : Option Nat) (hi : inside s o) : posI o ≤ 140737488351232 ∧ -1 ≤ posI o := by
  cases o with
  | none => exact ⟨by decide, by decide⟩
  | some p => have : p ≤ s.size := hi; show (p : Int) ≤ _ ∧ _ ≤ (p : Int); omega
theorem take_spec (s : ByteArray) (hs : s.size ≤ 140737488351232) (o : Option Nat) (hi : inside s o) : Ev (fun k => spec_l8Take.f k s (posI o)) ((ptake s o).1, posI (ptake s o).2) := by
  unfold spec_l8Take.f
  have hv := l8vars_spec s hs (posI o) (posI_in s hs o hi) 1 (by omega)
  rw [varsAt_one s o hi] at hv
  refine Ev.bind hv ?_
  have hin := pnum_in s o hi
  unfold ptake
  cases hp : (pnum (bytesOf s) o).2 with
  | none => exact ev_pos (show (-1 : Int) < 0 by decide) (ev_now rfl)
  | some x =>
    rw [hp] at hin
    have hx : x ≤ s.size := hin
    obtain ⟨p, h1, h2, h3, h4, h5⟩ := pnum_back s o x hi hp
    have e : posI (some x) = (x : Int) := rfl
    have e0 : rd [((pnum (bytesOf s) o).1 : Int)] 0 = ((pnum (bytesOf s) o).1 : Int) := rfl
    simp only [e, e0]
    refine ev_neg (by omega) (ev_pos (by simp) ?_)
    have w1 : wrap64 ((s.size : Int) - (x : Int)) = ((s.size - x : Nat) : Int) := by rw [w64 (by omega) (by omega)]; omega
    have w2 : wrap64 ((x : Int) + ((pnum (bytesOf s) o).1 : Int)) = ((x + (pnum (bytesOf s) o).1 : Nat) : Int) := by rw [w64 (by omega) (by omega)]; omega
    rw [w1, w2]
    by_cases hc : (pnum (bytesOf s) o).1 + x ≤ s.size
    · rw [if_pos hc]
      exact ev_neg (by omega) (ev_pos (by omega) (ev_pos (by omega) (ev_pos (by omega) (ev_now rfl))))
    · rw [if_neg hc]
      exact ev_pos (by omega) (ev_now rfl)
theorem take_all_size {s : ByteArray} {p : Nat} (t : ByteArray) (hp : p ≤ s.size) (h : (bytesOf s).take p = bytesOf t) : t = s ↔ p = s.size := by
  constructor
  · rintro rfl
    have := congrArg List.length h
    rw [List.length_take, bytesOf_length] at this
    omega
  · intro e
    apply byte_ext
    rw [← h, e, List.take_of_length_le (by rw [bytesOf_length]; omega)]
/-- the reader stands at a place, or has seen what is no number -/
def stands (s : ByteArray) (o : Option Nat) (rest : ByteArray) (bad : Bool) : Prop := match o with
  | some p => p ≤ s.size ∧ rest = s.extract p s.size ∧ bad = false
  | none => bad = true ∧ rest.size ≤ s.size
theorem extract_extract (s : ByteArray) (p k : Nat) : (s.extract p s.size).extract k (s.extract p s.size).size = s.extract (p + k) s.size := by
  apply byte_ext
  rw [extract_bytes, extract_bytes, extract_bytes, List.drop_drop]
theorem num_impl (s : ByteArray) (hs : s.size ≤ 140737488351232) (o : Option Nat) (rest : ByteArray) (bad : Bool) (h : stands s o rest bad) :
    ∃ rest' bad', Ev (fun k => impl_reader_num.f k rest bad) (((pnum (bytesOf s) o).1 : Int), rest', bad') ∧ stands s (pnum (bytesOf s) o).2 rest' bad' := by
  unfold impl_reader_num.f
  cases o with
  | none =>
    obtain ⟨rfl, h2⟩ := h
    exact ⟨rest, true, Ev.bind (readvar_impl rest (by omega)) (ev_pos rfl (ev_now rfl)), rfl, h2⟩
  | some p =>
    obtain ⟨h1, rfl, rfl⟩ := h
    have hz : (s.extract p s.size).size = s.size - p := by rw [ByteArray.size_extract]; omega
    have hv := readvar_impl (s.extract p s.size) (by omega)
    rw [extract_bytes] at hv
    cases hr : rdv 7 true ((bytesOf s).drop p) with
    | none =>
      rw [readN_none hr] at hv
      rw [pnum_no hr]
      exact ⟨s.extract p s.size, true, Ev.bind hv (ev_neg (by simp) (ev_pos rfl (ev_now rfl))), rfl, by omega⟩
    | some q =>
      obtain ⟨n, k⟩ := q
      rw [readN_some hr] at hv
      rw [pnum_yes hr]
      obtain ⟨q1, q2, q3, q4, q5, _, q7⟩ := rdv_some 7 true _ n k (fun y hy => bytesOf_range s y (List.mem_of_mem_drop hy)) hr
      rw [List.length_drop, bytesOf_length] at q1
      refine ⟨s.extract (p + k) s.size, false, Ev.bind hv (ev_neg (by simp) (ev_neg (by simp only; omega) (ev_pos (by simp only; omega) (ev_pos (by simp only; omega) (ev_now ?_))))), by omega, rfl, rfl⟩
      have e : ((k : Nat) : Int).toNat = k := rfl
      simp only [e]
      rw [extract_extract]
theorem piece_impl' (s : ByteArray) (hs : s.size ≤ 140737488351232) (o : Option Nat) (rest : ByteArray) (bad : Bool) (h : stands s o rest bad) :
    ∃ rest' bad', Ev (fun k => impl_reader_piece.f k rest bad) ((ptake s o).1, rest', bad') ∧ stands s (ptake s o).2 rest' bad' := by
  unfold impl_reader_piece.f
  obtain ⟨r1, b1, h1, h2⟩ := num_impl s hs o rest bad h
  have hx : ∃ rest' bad', impl_reader_text.f r1 b1 ((pnum (bytesOf s) o).1 : Int) = some ((ptake s o).1, rest', bad') ∧ stands s (ptake s o).2 rest' bad' := by
    unfold impl_reader_text.f ptake
    cases hp : (pnum (bytesOf s) o).2 with
    | none =>
      rw [hp] at h2
      obtain ⟨rfl, h3⟩ := h2
      exact ⟨r1, true, by rw [if_pos rfl], rfl, h3⟩
    | some p =>
      rw [hp] at h2
      obtain ⟨h3, rfl, rfl⟩ := h2
      have hz : (s.extract p s.size).size = s.size - p := by rw [ByteArray.size_extract]; omega
      rw [if_neg (by simp)]
      simp only
      by_cases hc : (pnum (bytesOf s) o).1 + p ≤ s.size
      · rw [if_pos hc, if_neg (by omega), if_pos (by omega), if_pos (by omega)]
        have e : (((pnum (bytesOf s) o).1 : Nat) : Int).toNat = (pnum (bytesOf s) o).1 := rfl
        refine ⟨s.extract (p + (pnum (bytesOf s) o).1) s.size, false, ?_, by omega, rfl, rfl⟩
        rw [e, extract_extract]
        have e2 : (s.extract p s.size).extract 0 (pnum (bytesOf s) o).1 = s.extract p (p + (pnum (bytesOf s) o).1) := by
          apply byte_ext
          rw [bytesOf_extract, extract_bytes, bytesOf_extract]
          simp
        rw [e2]
      · rw [if_neg hc, if_pos (by omega)]
        exact ⟨_, true, rfl, rfl, by omega⟩
  obtain ⟨r2, b2, h3, h4⟩ := hx
  exact ⟨r2, b2, Ev.bind h1 (ev_of h3 (ev_now rfl)), h4⟩
theorem pnum_lt (s : ByteArray) (o : Option Nat) : (pnum (bytesOf s) o).1 < 562949953421312 := by
  cases o with
  | none => simp [pnum]
  | some p =>
    cases hr : rdv 7 true ((bytesOf s).drop p) with
    | none => rw [pnum_no hr]; decide
    | some q =>
      rw [pnum_yes hr]
      obtain ⟨n, k⟩ := q
      obtain ⟨q1, q2, q3, q4, q5, _, q7⟩ := rdv_some 7 true _ n k (fun y hy => bytesOf_range s y (List.mem_of_mem_drop hy)) hr
      simpa using q5
end Go.Proofs.Ytiopcpkfjikfdaa.PFnExactVolOk
