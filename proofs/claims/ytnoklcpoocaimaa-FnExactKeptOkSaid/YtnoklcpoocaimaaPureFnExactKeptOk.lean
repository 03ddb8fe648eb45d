/- The program's KeptOk returns what the reference's KeptOk returns, for all arguments: the statement over numbers and lists, proved. Conditions: none beyond the bounds of the arguments' kinds. -/
import Derived.Test.YtnoklcpoocaimaaStmFnExactKeptOk
import Derived.Test.YtnoklcpoocaimaaMath
import Derived.Test.YtnoklcpoocaimaaStr
namespace Go.Proofs.Ytnoklcpoocaimaa.Pure
open Go.RowKit Go.Proofs.Ytnoklcpoocaimaa.PFnExactKeptOk Go.Proofs.YtnoklcpoocaimaaW.PrintWords Go.Proofs.YtnoklcpoocaimaaW.PrintLast Go.Proofs.YtnoklcpoocaimaaW.PrintMore Go.Proofs.Ytnoklcpoocaimaa.Mth Go.Proofs.Ytnoklcpoocaimaa.Str

set_option linter.unusedVariables false
set_option linter.unusedSimpArgs false
/-! ## section within -/
theorem within_eq (a b c : Int) : impl_within.f a b c = some (decide (b ≤ a ∧ a ≤ c)) := by
  unfold impl_within.f
  by_cases h : a ≥ b
  · rw [if_pos h]; have : b ≤ a := h; simp [this]
  · rw [if_neg h]; have : ¬ b ≤ a := h; simp [this]

/-! ## section l1In -/
theorem l1In_eq (a b c : Int) : spec_l1In.f a b c = some (decide (b ≤ a ∧ a ≤ c)) := by
  unfold spec_l1In.f
  by_cases h : a ≥ b
  · rw [if_pos h]; have : b ≤ a := h; simp [this]
  · rw [if_neg h]; have : ¬ b ≤ a := h; simp [this]

/-! ## section list:Entry/132/112/i,s/sztoeq -/
theorem szEntry_ev (x : S132) (a : Int) (h0 : 0 ≤ a) (h1 : a ≤ 1048576) (hok : okS132 x) : ∃ v, v ≤ a ∧ -1 ≤ v ∧ Ev (fun k => laws_szEntry.f x.f0 x.f1 a) v := by
  unfold okS132 at hok
  obtain ⟨q0, q1⟩ := hok
  unfold laws_szEntry.f
  have m1 : x.f1.size ≤ 9223372036854775807 := q1
  have e : wrap64 (a - (x.f1.size : Int)) = a - (x.f1.size : Int) := w64 (by omega) (by omega)
  rw [e]
  by_cases hn : a - (x.f1.size : Int) < 0
  · exact ⟨-1, by omega, by omega, ev_pos hn (ev_now rfl)⟩
  · exact ⟨a - (x.f1.size : Int), by omega, by omega, ev_neg hn (ev_now rfl)⟩
theorem szEntryS_loop (l : List S132) (hlen : l.length ≤ 1048576) (hok : ∀ x ∈ l, okS132 x) : ∀ (d i : Nat) (a : Int), i + d = l.length → 0 ≤ a → a ≤ 1048576 → ∃ v, v ≤ a ∧ -1 ≤ v ∧ Ev (fun k => laws_szEntryS.l0 k l a (i : Int)) v := by
  intro d
  induction d with
  | zero =>
    intro i a hi h0 h1
    exact ⟨a, by omega, by omega, Ev.step (laws_szEntryS.l0.eq_2 _ _ _) (ev_neg (by omega) (ev_now rfl))⟩
  | succ d ih =>
    intro i a hi h0 h1
    have hlt : i < l.length := by omega
    have hx : rd_T132 l (i : Int) = l[i] := by unfold rd_T132; rw [Int.toNat_natCast, List.getD_eq_getElem?_getD, List.getElem?_eq_getElem hlt]; rfl
    obtain ⟨v, hv1, hv2, hv3⟩ := szEntry_ev l[i] a h0 h1 (hok _ (List.getElem_mem hlt))
    have e3 : wrap64 ((i : Int) + 1) = ((i + 1 : Nat) : Int) := w64 (by omega) (by omega)
    by_cases hv : v < 0
    · refine ⟨-1, by omega, by omega, ?_⟩
      refine Ev.step (laws_szEntryS.l0.eq_2 _ _ _) (ev_pos (by omega) (ev_pos (by omega) ?_))
      rw [hx]
      exact Ev.bind hv3 (ev_pos hv (ev_now rfl))
    · obtain ⟨u, hu1, hu2, hu3⟩ := ih (i + 1) v (by omega) (by omega) (by omega)
      refine ⟨u, by omega, by omega, ?_⟩
      refine Ev.step (laws_szEntryS.l0.eq_2 _ _ _) (ev_pos (by omega) (ev_pos (by omega) ?_))
      rw [hx, e3]
      exact Ev.bind hv3 (ev_neg hv hu3)
theorem szEntryS_ev (l : List S132) (a : Int) (h0 : 0 ≤ a) (h1 : a ≤ 1048576) (hm : l.length ≤ maxLen) (hok : ∀ x ∈ l, okS132 x) : ∃ v, v ≤ a ∧ -1 ≤ v ∧ Ev (fun k => laws_szEntryS.f k l a) v ∧ (0 ≤ v → l.length ≤ 1048576) := by
  unfold laws_szEntryS.f
  have m : l.length ≤ 9223372036854775807 := hm
  have e : wrap64 (a - (l.length : Int)) = a - (l.length : Int) := w64 (by omega) (by omega)
  rw [e]
  by_cases hn : a - (l.length : Int) < 0
  · exact ⟨-1, by omega, by omega, ev_pos hn (ev_now rfl), fun h => absurd h (by omega)⟩
  · obtain ⟨v, h2, h3, h4⟩ := szEntryS_loop l (by omega) hok l.length 0 (a - (l.length : Int)) (by omega) (by omega) (by omega)
    exact ⟨v, by omega, h3, ev_neg hn h4, fun h => by omega⟩
def cvEntry (x : S132) : S112 := ⟨x.f0, x.f1⟩
theorem toEntry_ev (x : S132) : Ev (fun k => laws_toEntry.f x.f0 x.f1) (x.f0, x.f1) := by
  unfold laws_toEntry.f
  exact ev_now rfl
theorem toEntryS_loop (l : List S132) (hlen : l.length ≤ 1048576) : ∀ (d i : Nat), i + d = l.length → Ev (fun k => laws_toEntryS.l0 k l ((l.take i).map cvEntry ++ List.replicate d z112) (i : Int)) (l.map cvEntry) := by
  intro d
  induction d with
  | zero =>
    intro i hi
    rw [List.take_of_length_le (by omega), List.replicate_zero, List.append_nil]
    exact Ev.step (laws_toEntryS.l0.eq_2 _ _ _) (ev_neg (by omega) (ev_now rfl))
  | succ d ih =>
    intro i hi
    have hlt : i < l.length := by omega
    have hx : rd_T132 l (i : Int) = l[i] := by unfold rd_T132; rw [Int.toNat_natCast, List.getD_eq_getElem?_getD, List.getElem?_eq_getElem hlt]; rfl
    have e3 : wrap64 ((i : Int) + 1) = ((i + 1 : Nat) : Int) := w64 (by omega) (by omega)
    refine Ev.step (laws_toEntryS.l0.eq_2 _ _ _) (ev_pos (by omega) (ev_pos (by omega) ?_))
    rw [hx, e3]
    refine Ev.bind (toEntry_ev l[i]) (ev_pos ?_ ?_)
    · rw [List.length_append, List.length_map, List.length_take, List.length_replicate]; omega
    · have hs : ((l.take i).map cvEntry ++ List.replicate (d + 1) z112).set (i : Int).toNat (cvEntry l[i]) = (l.take (i + 1)).map cvEntry ++ List.replicate d z112 := by
        have hl : ((l.take i).map cvEntry).length = i := by rw [List.length_map, List.length_take]; omega
        rw [Int.toNat_natCast, List.set_append_right _ _ (by omega), hl, Nat.sub_self, List.replicate_succ, List.set_cons_zero, List.take_succ_eq_append_getElem hlt, List.map_append, List.append_assoc]; rfl
      have hr := ih (i + 1) (by omega)
      rw [← hs] at hr
      exact hr
theorem toEntryS_ev (l : List S132) (hlen : l.length ≤ 1048576) : Ev (fun k => laws_toEntryS.f k l) (l.map cvEntry) := by
  unfold laws_toEntryS.f
  refine ev_pos (by omega) (ev_pos (by omega) ?_)
  exact toEntryS_loop l hlen l.length 0 (by omega)
theorem eqEntry_ev (x : S112) : Ev (fun k => laws_eqEntry.f x.f0 x.f1 x.f0 x.f1) true := by
  unfold laws_eqEntry.f
  exact ev_pos rfl (ev_pos rfl (ev_now rfl))
theorem eqEntryS_loop (l : List S112) (hlen : l.length ≤ 1048576) : ∀ (d i : Nat), i + d = l.length → Ev (fun k => laws_eqEntryS.l0 k l l (i : Int)) true := by
  intro d
  induction d with
  | zero =>
    intro i hi
    exact Ev.step (laws_eqEntryS.l0.eq_2 _ _ _) (ev_neg (by omega) (ev_now rfl))
  | succ d ih =>
    intro i hi
    have hlt : i < l.length := by omega
    have hx : rd_T112 l (i : Int) = l[i] := by unfold rd_T112; rw [Int.toNat_natCast, List.getD_eq_getElem?_getD, List.getElem?_eq_getElem hlt]; rfl
    have e3 : wrap64 ((i : Int) + 1) = ((i + 1 : Nat) : Int) := w64 (by omega) (by omega)
    refine Ev.step (laws_eqEntryS.l0.eq_2 _ _ _) (ev_pos (by omega) (ev_pos (by omega) (ev_pos (by omega) ?_)))
    rw [hx, e3]
    exact Ev.bind (eqEntry_ev l[i]) (ev_pos rfl (ih (i + 1) (by omega)))
theorem eqEntryS_ev (l : List S112) (hlen : l.length ≤ 1048576) : Ev (fun k => laws_eqEntryS.f k l l) true := by
  unfold laws_eqEntryS.f
  exact ev_pos rfl (eqEntryS_loop l hlen l.length 0 (by omega))

/-! ## section keptD -/
/-- are entries right, from a term on -/
def entB (top : Int) : Int → List S112 → Bool
  | _, [] => true
  | last, e :: t => decide (1 ≤ e.f0 ∧ last ≤ e.f0 ∧ e.f0 ≤ top ∧ e.f1.size ≤ 1600) && entB top e.f0 t
theorem entB_max (top t : Int) : ∀ l : List S112, entB top (mx 1 t) l = entB top t l
  | [] => rfl
  | e :: r => by
    unfold entB mx
    congr 1
    apply Bool.eq_iff_iff.2
    simp only [decide_eq_true_eq]
    split <;> omega
/-- is a Kept right -/
def KeptP (term vote idx st : Int) (data : ByteArray) (n : Nat) : Prop :=
  (0 ≤ term ∧ term ≤ 100000) ∧ (-1 ≤ vote ∧ vote ≤ 4) ∧ ((idx = 0 ∧ st = 0 ∧ data.toList = []) ∨ ((1 ≤ idx ∧ idx ≤ 100000) ∧ (1 ≤ st ∧ st ≤ term) ∧ data.size ≤ 20000)) ∧ n ≤ 60 ∧ idx + (n : Int) ≤ 100000
instance (term vote idx st : Int) (data : ByteArray) (n : Nat) : Decidable (KeptP term vote idx st data n) := by unfold KeptP; infer_instance
def keptB (term vote idx st : Int) (data : ByteArray) (l : List S112) : Bool := decide (KeptP term vote idx st data l.length) && entB term st l
theorem size_nil {s : ByteArray} (h : s.toList = []) : s.size = 0 := by
  have := (toList_iff s []).1 h
  have h2 := congrArg List.length this
  rw [bytesOf_length] at h2
  simpa using h2
theorem rd112 (l : List S112) (i : Nat) (h : i < l.length) : rd_T112 l (i : Int) = l[i] := by
  unfold rd_T112; rw [Int.toNat_natCast, List.getD_eq_getElem?_getD, List.getElem?_eq_getElem h]; rfl
theorem kept_spec_loop (top vote idx st : Int) (data : ByteArray) (l : List S112) (hl : l.length ≤ 60) : ∀ (d i : Nat) (last : Int), i + d = l.length →
    Ev (fun k => spec_KeptOk.l0 k last (i : Int) top vote idx st data l) (entB top last (l.drop i)) := by
  intro d
  induction d with
  | zero =>
    intro i last hi
    rw [List.drop_eq_nil_of_le (by omega)]
    exact Ev.step (fun _ => spec_KeptOk.l0.eq_2 ..) (ev_neg (by omega) (ev_now rfl))
  | succ d ih =>
    intro i last hi
    have hlt : i < l.length := by omega
    have e3 : wrap64 ((i : Int) + 1) = ((i + 1 : Nat) : Int) := w64 (by omega) (by omega)
    rw [List.drop_eq_getElem_cons hlt, entB]
    refine Ev.step (fun _ => spec_KeptOk.l0.eq_2 ..) (ev_pos (by omega) (ev_pos (by omega) ?_))
    rw [rd112 l i hlt, e3]
    have ih' := ih (i + 1) (l[i]).f0 (by omega)
    generalize l[i] = e at *
    by_cases h : 1 ≤ e.f0 ∧ last ≤ e.f0 ∧ e.f0 ≤ top ∧ e.f1.size ≤ 1600
    · rw [decide_eq_true h, Bool.true_and]
      exact ev_neg (by omega) (ev_neg (by omega) (ev_neg (by omega) (ev_neg (by omega) ih')))
    · rw [decide_eq_false h, Bool.false_and]
      by_cases h1 : e.f0 < 1
      · exact ev_pos h1 (ev_now rfl)
      · refine ev_neg h1 ?_
        by_cases h2 : e.f0 < last
        · exact ev_pos h2 (ev_now rfl)
        · refine ev_neg h2 ?_
          by_cases h3 : e.f0 > top
          · exact ev_pos h3 (ev_now rfl)
          · exact ev_neg h3 (ev_pos (by omega) (ev_now rfl))
theorem kept_spec (term vote idx st : Int) (data : ByteArray) (l : List S112) : Ev (fun k => spec_KeptOk.f k term vote idx st data l) (keptB term vote idx st data l) := by
  have hjt : Ev (fun k => spec_KeptOk.j0 k true term vote idx st data l) false := Ev.step (fun _ => spec_KeptOk.j0.eq_2 ..) (ev_pos rfl (ev_now rfl))
  unfold spec_KeptOk.f spec_l3Place.f keptB
  by_cases hP : KeptP term vote idx st data l.length
  · rw [decide_eq_true hP, Bool.true_and]
    unfold KeptP at hP
    obtain ⟨h1, h2, h3, h4, h5⟩ := hP
    have hj : Ev (fun k => spec_KeptOk.j0 k (decide ((wrap64 (idx + (l.length : Int))) > 100000)) term vote idx st data l) (entB term st l) := by
      have e : wrap64 (idx + (l.length : Int)) = idx + (l.length : Int) := w64 (by omega) (by omega)
      rw [e]
      refine Ev.step (fun _ => spec_KeptOk.j0.eq_2 ..) (ev_neg (by simp; omega) ?_)
      have := kept_spec_loop term vote idx st data l h4 l.length 0 st (by omega)
      simpa using this
    refine ev_of (l1In_eq _ _ _) (ev_pos (by simpa using h1) (ev_of (l1In_eq _ _ _) (ev_pos (by simpa using h2) ?_)))
    rcases h3 with ⟨ha, hb, hc⟩ | ⟨ha, hb, hc⟩
    · have hz := size_nil hc
      refine ev_of (a := true) (by rw [if_pos ha, hb]; rfl) (ev_pos rfl (ev_pos ha (ev_pos hc (ev_neg (by omega) (ev_neg (by omega) (ev_neg (by omega) hj))))))
    · refine ev_of (a := true) ?_ (ev_pos rfl (ev_neg (by omega) (ev_neg (by omega) (ev_neg (by omega) (ev_neg (by omega) hj)))))
      rw [if_neg (by omega), l1In_eq, Option.bind_some, if_pos (by simpa using ha), l1In_eq, Option.bind_some]
      congr 1
      apply decide_eq_true; omega
  · rw [decide_eq_false hP, Bool.false_and]
    unfold KeptP at hP
    by_cases h1 : 0 ≤ term ∧ term ≤ 100000
    · refine ev_of (l1In_eq _ _ _) (ev_pos (by simpa using h1) (ev_of (l1In_eq _ _ _) ?_))
      by_cases h2 : -1 ≤ vote ∧ vote ≤ 4
      · refine ev_pos (by simpa using h2) ?_
        have hj : idx + (l.length : Int) > 100000 → 0 ≤ idx → idx ≤ 100000 → l.length ≤ 60 → Ev (fun k => spec_KeptOk.j0 k (decide ((wrap64 (idx + (l.length : Int))) > 100000)) term vote idx st data l) false := by
          intro hh hi0 hi1 hl
          have e : wrap64 (idx + (l.length : Int)) = idx + (l.length : Int) := w64 (by omega) (by omega)
          rw [e]
          exact Ev.step (fun _ => spec_KeptOk.j0.eq_2 ..) (ev_pos (by simpa using hh) (ev_now rfl))
        by_cases h0 : idx = 0
        · refine ev_of (a := (st == 0)) (by rw [if_pos h0]) ?_
          by_cases hst : st = 0
          · refine ev_pos (by simp [hst]) (ev_pos h0 ?_)
            by_cases hd : data.toList = []
            · have hz := size_nil hd
              refine ev_pos hd (ev_neg (by omega) (ev_neg (by omega) ?_))
              by_cases hl : l.length ≤ 60
              · refine ev_neg (by omega) (hj ?_ (by omega) (by omega) hl)
                have : ¬ (idx + (l.length : Int) ≤ 100000) := fun h5 => hP ⟨h1, h2, .inl ⟨h0, hst, hd⟩, hl, h5⟩
                omega
              · exact ev_pos (by omega) hjt
            · exact ev_neg hd hjt
          · exact ev_neg (by simp [hst]) hjt
        · have e : (if idx = 0 then some (st == 0) else ((spec_l1In.f idx 1 100000).bind fun t108 => (if t108 = true then ((spec_l1In.f st 1 100000).bind fun t109 => (some t109)) else (some false)))) = some (decide ((1 ≤ idx ∧ idx ≤ 100000) ∧ (1 ≤ st ∧ st ≤ 100000))) := by
            rw [if_neg h0, l1In_eq, Option.bind_some, l1In_eq, Option.bind_some]
            by_cases hi : 1 ≤ idx ∧ idx ≤ 100000
            · rw [if_pos (by simpa using hi)]; simp [hi]
            · rw [if_neg (by simpa using hi)]; simp [hi]
          refine ev_of e ?_
          by_cases hi : (1 ≤ idx ∧ idx ≤ 100000) ∧ (1 ≤ st ∧ st ≤ 100000)
          · refine ev_pos (decide_eq_true hi) (ev_neg h0 ?_)
            by_cases hd : (data.size : Int) > 20000
            · exact ev_pos hd hjt
            · refine ev_neg hd ?_
              by_cases hs : st > term
              · exact ev_pos hs hjt
              · refine ev_neg hs ?_
                by_cases hl : l.length ≤ 60
                · refine ev_neg (by omega) (hj ?_ (by omega) (by omega) hl)
                  have : ¬ (idx + (l.length : Int) ≤ 100000) := fun h5 => hP ⟨h1, h2, .inr ⟨hi.1, ⟨by omega, by omega⟩, by omega⟩, hl, h5⟩
                  omega
                · exact ev_pos (by omega) hjt
          · exact ev_neg (by simpa using hi) hjt
      · exact ev_neg (by simpa using h2) hjt
    · exact ev_of (l1In_eq _ _ _) (ev_neg (by simpa using h1) hjt)
theorem kept_impl_loop (top vote idx st : Int) (data : ByteArray) (l : List S112) (hl : l.length ≤ 60) : ∀ (d i : Nat) (last : Int), i + d = l.length → 1 ≤ last →
    Ev (fun k => impl_KeptOk.l0 k last l (l.length : Int) (i : Int) top vote idx st data l) (decide ((wrap64 (idx + (l.length : Int))) ≤ 100000) && entB top last (l.drop i)) := by
  intro d
  induction d with
  | zero =>
    intro i last hi h1
    rw [List.drop_eq_nil_of_le (by omega), entB, Bool.and_true]
    exact Ev.step (fun _ => impl_KeptOk.l0.eq_2 ..) (ev_neg (by omega) (ev_now rfl))
  | succ d ih =>
    intro i last hi h1
    have hlt : i < l.length := by omega
    have e3 : wrap64 ((i : Int) + 1) = ((i + 1 : Nat) : Int) := w64 (by omega) (by omega)
    rw [List.drop_eq_getElem_cons hlt, entB]
    refine Ev.step (fun _ => impl_KeptOk.l0.eq_2 ..) (ev_pos (by omega) (ev_pos (by omega) (ev_pos (by omega) ?_)))
    rw [rd112 l i hlt, e3]
    have ih' := ih (i + 1) (l[i]).f0 (by omega)
    generalize l[i] = e at *
    by_cases hs : (e.f1.size : Int) > 1600
    · have h : ¬ (1 ≤ e.f0 ∧ last ≤ e.f0 ∧ e.f0 ≤ top ∧ e.f1.size ≤ 1600) := by omega
      rw [decide_eq_false h, Bool.false_and, Bool.and_false]
      exact ev_pos hs (ev_now rfl)
    · refine ev_neg hs (ev_of (within_eq _ _ _) ?_)
      by_cases hw : last ≤ e.f0 ∧ e.f0 ≤ top
      · have h : 1 ≤ e.f0 ∧ last ≤ e.f0 ∧ e.f0 ≤ top ∧ e.f1.size ≤ 1600 := by omega
        rw [decide_eq_true h, Bool.true_and]
        exact ev_pos (by simpa using hw) (ih' (by omega))
      · have h : ¬ (1 ≤ e.f0 ∧ last ≤ e.f0 ∧ e.f0 ≤ top ∧ e.f1.size ≤ 1600) := fun h => hw ⟨h.2.1, h.2.2.1⟩
        rw [decide_eq_false h, Bool.false_and, Bool.and_false]
        exact ev_neg (by simpa using hw) (ev_now rfl)
theorem kept_impl (term vote idx st : Int) (data : ByteArray) (l : List S112) : Ev (fun k => impl_KeptOk.f k term vote idx st data l) (keptB term vote idx st data l) := by
  have hjt : Ev (fun k => impl_KeptOk.j0 k true term vote idx st data l) false := Ev.step (fun _ => impl_KeptOk.j0.eq_2 ..) (ev_pos rfl (ev_now rfl))
  have hj1t : Ev (fun k => impl_KeptOk.j1 k true term vote idx st data l) false := Ev.step (fun _ => impl_KeptOk.j1.eq_2 ..) (ev_pos rfl (ev_now rfl))
  unfold impl_KeptOk.f keptB
  by_cases h1 : 0 ≤ term ∧ term ≤ 100000
  · refine ev_of (within_eq _ _ _) (ev_pos (by simpa using h1) (ev_of (within_eq _ _ _) ?_))
    by_cases h2 : -1 ≤ vote ∧ vote ≤ 4
    · refine ev_pos (by simpa using h2) ?_
      by_cases hl : l.length ≤ 60
      · have hend : 0 ≤ idx → idx ≤ 100000 → Ev (fun k => impl_KeptOk.j1 k false term vote idx st data l) (decide (idx + (l.length : Int) ≤ 100000) && entB term st l) := by
          intro hi0 hi1
          have e : wrap64 (idx + (l.length : Int)) = idx + (l.length : Int) := w64 (by omega) (by omega)
          refine Ev.step (fun _ => impl_KeptOk.j1.eq_2 ..) (ev_neg (by simp) ?_)
          have hm : 1 ≤ mx 1 st := by unfold mx; split <;> omega
          have := kept_impl_loop term vote idx st data l hl l.length 0 (mx 1 st) (by omega) hm
          rw [List.drop_zero, entB_max, e] at this
          exact this
        refine Ev.step (fun _ => impl_KeptOk.j0.eq_2 ..) (ev_neg (by simp; omega) ?_)
        by_cases hz : idx = 0 ∧ st = 0 ∧ data.toList = []
        · refine ev_neg (by simp [hz.1, hz.2.1, hz.2.2]) ?_
          have := hend (by omega) (by omega)
          have hk : decide (KeptP term vote idx st data l.length) = decide (idx + (l.length : Int) ≤ 100000) := by
            apply Bool.eq_iff_iff.2
            simp only [decide_eq_true_eq]
            unfold KeptP
            constructor
            · rintro ⟨_, _, _, _, h⟩; exact h
            · intro h; exact ⟨h1, h2, .inl hz, hl, h⟩
          rw [hk]; exact this
        · refine ev_pos ?_ (ev_of (within_eq _ _ _) ?_)
          · simp only [Bool.or_eq_true, Bool.not_eq_true', beq_eq_false_iff_ne, ne_eq]
            by_cases ha : idx = 0
            · by_cases hb : st = 0
              · exact .inr (.inr (fun hc => hz ⟨ha, hb, hc⟩))
              · exact .inr (.inl hb)
            · exact .inl ha
          · by_cases hi : 1 ≤ idx ∧ idx ≤ 100000
            · refine ev_pos (by simpa using hi) (ev_of (within_eq _ _ _) ?_)
              by_cases hs : 1 ≤ st ∧ st ≤ term
              · refine ev_pos (by simpa using hs) ?_
                by_cases hd : (data.size : Int) > 20000
                · have hn : ¬ KeptP term vote idx st data l.length := by
                    unfold KeptP
                    rintro ⟨_, _, h3, _, _⟩
                    rcases h3 with h3 | h3
                    · exact hz h3
                    · omega
                  rw [decide_eq_false hn, Bool.false_and, decide_eq_true hd]
                  exact hj1t
                · have := hend (by omega) (by omega)
                  have hk : decide (KeptP term vote idx st data l.length) = decide (idx + (l.length : Int) ≤ 100000) := by
                    apply Bool.eq_iff_iff.2
                    simp only [decide_eq_true_eq]
                    unfold KeptP
                    constructor
                    · rintro ⟨_, _, _, _, h⟩; exact h
                    · intro h; exact ⟨h1, h2, .inr ⟨hi, hs, by omega⟩, hl, h⟩
                  rw [hk, decide_eq_false hd]; exact this
              · have hn : ¬ KeptP term vote idx st data l.length := by
                  unfold KeptP
                  rintro ⟨_, _, h3, _, _⟩
                  rcases h3 with h3 | h3
                  · exact hz h3
                  · exact hs h3.2.1
                rw [decide_eq_false hn, Bool.false_and]
                exact ev_neg (by simpa using hs) hj1t
            · have hn : ¬ KeptP term vote idx st data l.length := by
                unfold KeptP
                rintro ⟨_, _, h3, _, _⟩
                rcases h3 with h3 | h3
                · exact hz h3
                · exact hi h3.1
              rw [decide_eq_false hn, Bool.false_and]
              exact ev_neg (by simpa using hi) hj1t
      · have hn : ¬ KeptP term vote idx st data l.length := by
          unfold KeptP; rintro ⟨_, _, _, h, _⟩; exact hl h
        rw [decide_eq_false hn, Bool.false_and]
        exact Ev.step (fun _ => impl_KeptOk.j0.eq_2 ..) (ev_pos (by simp; omega) (ev_now rfl))
    · have hn : ¬ KeptP term vote idx st data l.length := by
        unfold KeptP; rintro ⟨_, h, _⟩; exact h2 h
      rw [decide_eq_false hn, Bool.false_and]
      exact ev_neg (by simpa using h2) hjt
  · have hn : ¬ KeptP term vote idx st data l.length := by
      unfold KeptP; rintro ⟨h, _⟩; exact h1 h
    rw [decide_eq_false hn, Bool.false_and]
    exact ev_of (within_eq _ _ _) (ev_neg (by simpa using h1) hjt)

/-! ## section FnExactKeptOk -/
theorem szkept (term vote idx st : Int) (data : ByteArray) (hd : data.size ≤ maxLen) (l : List S132) (hl : l.length ≤ maxLen) (hok : ∀ x ∈ l, okS132 x) :
    ∃ v, Ev (fun k => laws_szKept.f k term vote idx st data l 1048576) v ∧ (0 ≤ v → l.length ≤ 1048576) := by
  unfold laws_szKept.f laws_szSnap.f
  have m : data.size ≤ 9223372036854775807 := hd
  have e : wrap64 (1048576 - (data.size : Int)) = 1048576 - (data.size : Int) := w64 (by omega) (by omega)
  rw [e]
  by_cases hn : 1048576 - (data.size : Int) < 0
  · exact ⟨-1, ev_of (if_pos hn) (ev_pos (by omega) (ev_now rfl)), fun h => absurd h (by omega)⟩
  · obtain ⟨v, h1, h2, h3, h4⟩ := szEntryS_ev l (1048576 - (data.size : Int)) (by omega) (by omega) hl hok
    by_cases hv : v < 0
    · exact ⟨-1, ev_of (if_neg hn) (ev_neg hn (Ev.bind h3 (ev_pos hv (ev_now rfl)))), fun h => absurd h (by omega)⟩
    · exact ⟨v, ev_of (if_neg hn) (ev_neg hn (Ev.bind h3 (ev_neg hv (ev_now rfl)))), h4⟩
theorem tokept (term vote idx st : Int) (data : ByteArray) (l : List S132) (hl : l.length ≤ 1048576) : Ev (fun k => laws_toKept.f k term vote idx st data l) (term, vote, idx, st, data, l.map cvEntry) := by
  unfold laws_toKept.f laws_toSnap.f
  exact ev_some (Ev.bind (toEntryS_ev l hl) (ev_now rfl))
theorem eqkept (term vote idx st : Int) (data : ByteArray) (l : List S112) (hl : l.length ≤ 1048576) : Ev (fun k => laws_eqKept.f k term vote idx st data l term vote idx st data l) true := by
  unfold laws_eqKept.f laws_eqSnap.f
  refine ev_pos rfl (ev_pos rfl (ev_of (a := true) (by simp) (ev_pos rfl (Ev.bind (eqEntryS_ev l hl) (ev_pos rfl (ev_now rfl))))))
theorem FnExactKeptOk : laws_FnExactKeptOk.Pure := by
  intro term vote idx st data l _ _ _ _ hd hl
  refine Ev.rounds (r := true) ?_
  unfold laws_FnExactKeptOk.f
  obtain ⟨v, hv, hle⟩ := szkept term vote idx st data hd l hl.1 hl.2
  refine Ev.bind hv ?_
  by_cases h : v < 0
  · exact ev_pos h (ev_now rfl)
  · refine ev_neg h ?_
    have h6 := hle (by omega)
    have ht := tokept term vote idx st data l h6
    refine Ev.bind ht (Ev.bind (kept_spec _ _ _ _ _ _) (Ev.bind ht (Ev.bind (kept_impl _ _ _ _ _ _) (ev_neg (by simp) (Ev.bind ht (Ev.bind (eqkept _ _ _ _ _ _ (by rw [List.length_map]; exact h6)) (ev_pos rfl (ev_now rfl))))))))

end Go.Proofs.Ytnoklcpoocaimaa.Pure
