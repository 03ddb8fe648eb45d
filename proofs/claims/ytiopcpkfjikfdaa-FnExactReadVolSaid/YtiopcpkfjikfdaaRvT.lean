/- By hand. -/
import Derived.Test.YtiopcpkfjikfdaaRvP
import Derived.Test.YtiopcpkfjikfdaaRvS
import Derived.Test.YtiopcpkfjikfdaaMath
import Derived.Test.YtiopcpkfjikfdaaStr
namespace Go.Proofs.Ytiopcpkfjikfdaa.PFnExactVolOk
open Go.RowKit Go.Proofs.YtiopcpkfjikfdaaW.PrintWords Go.Proofs.YtiopcpkfjikfdaaW.PrintLast Go.Proofs.YtiopcpkfjikfdaaW.PrintMore
open Go.Proofs.Ytiopcpkfjikfdaa.Mth Go.Proofs.Ytiopcpkfjikfdaa.Str
set_option linter.unusedVariables false
set_option linter.unusedSimpArgs false
/-! ### a volume read from a text -/
def pnums (L : List Int) : Nat → Option Nat → List Int × Option Nat
  | 0, o => ([], o)
  | n + 1, o => (((pnum L o).1 : Int) :: (pnums L n (pnum L o).2).1, (pnums L n (pnum L o).2).2)
theorem pnums_none (L : List Int) : ∀ n, (pnums L n none).2 = none
  | 0 => rfl
  | n + 1 => by rw [pnums, pnum_none]; exact pnums_none L n
theorem pnums_in (s : ByteArray) : ∀ (n : Nat) (o : Option Nat), inside s o → inside s (pnums (bytesOf s) n o).2
  | 0, o, h => h
  | n + 1, o, h => pnums_in s n _ (pnum_in s o h)
theorem varsAt_some (s : ByteArray) : ∀ (n : Nat) (o : Option Nat) (acc : List Int) (q : Nat), inside s o → (pnums (bytesOf s) n o).2 = some q → varsAt (bytesOf s) (posI o) n acc = (acc ++ (pnums (bytesOf s) n o).1, (q : Int))
  | 0, o, acc, q, hi, h => by
    have h : o = some q := h
    subst h
    rw [varsAt, pnums, List.append_nil]; rfl
  | n + 1, o, acc, q, hi, h => by
    rw [pnums] at h ⊢
    cases o with
    | none => rw [pnum_none, pnums_none] at h; exact absurd h (by simp)
    | some p =>
      have hp : p ≤ s.size := hi
      have e : posI (some p) = (p : Int) := rfl
      have e2 : ((p : Nat) : Int).toNat = p := rfl
      have hin := pnum_in s (some p) hi
      rw [varsAt, e, if_neg (by rw [bytesOf_length]; omega), e2]
      cases hr : rdv 7 true ((bytesOf s).drop p) with
      | none => rw [pnum_no hr] at h; simp only at h; rw [pnums_none] at h; exact absurd h (by simp)
      | some x =>
        rw [pnum_yes hr] at h hin ⊢
        simp only at h hin ⊢
        have := varsAt_some s n (some (p + x.2)) (acc ++ [(x.1 : Int)]) q hin h
        have e3 : posI (some (p + x.2)) = (p : Int) + (x.2 : Int) := by show ((p + x.2 : Nat) : Int) = _; omega
        rw [e3] at this
        rw [this, List.append_assoc]; rfl
theorem varsAt_none (s : ByteArray) : ∀ (n : Nat) (o : Option Nat) (acc : List Int), inside s o → (pnums (bytesOf s) n o).2 = none → (varsAt (bytesOf s) (posI o) n acc).2 = -1
  | 0, o, acc, hi, h => by
    have h : o = none := h
    subst h
    rfl
  | n + 1, o, acc, hi, h => by
    rw [pnums] at h
    cases o with
    | none => rw [varsAt, if_pos (.inl (by decide))]
    | some p =>
      have hp : p ≤ s.size := hi
      have e : posI (some p) = (p : Int) := rfl
      have e2 : ((p : Nat) : Int).toNat = p := rfl
      have hin := pnum_in s (some p) hi
      rw [varsAt, e, if_neg (by rw [bytesOf_length]; omega), e2]
      cases hr : rdv 7 true ((bytesOf s).drop p) with
      | none => rfl
      | some x =>
        rw [pnum_yes hr] at h hin
        simp only at h hin ⊢
        have := varsAt_none s n (some (p + x.2)) (acc ++ [(x.1 : Int)]) hin h
        have e3 : posI (some (p + x.2)) = (p : Int) + (x.2 : Int) := by show ((p + x.2 : Nat) : Int) = _; omega
        rw [e3] at this
        exact this
/-- a number that is at most m, or nothing more is read -/
def pmany (L : List Int) (o : Option Nat) (m : Nat) : Nat × Option Nat := if m < (pnum L o).1 then (0, none) else pnum L o
theorem pmany_in (s : ByteArray) (o : Option Nat) (m : Nat) (h : inside s o) : inside s (pmany (bytesOf s) o m).2 := by
  unfold pmany
  split
  · trivial
  · exact pnum_in s o h
theorem pmany_le (L : List Int) (o : Option Nat) (m : Nat) : (pmany L o m).1 ≤ m := by
  unfold pmany
  split
  · exact Nat.zero_le _
  · omega
def pdirs (s : ByteArray) : Nat → Option Nat → List S68 → List S68 × Option Nat
  | 0, o, acc => (acc, o)
  | n + 1, o, acc => pdirs s n (pnum (bytesOf s) (ptake s o).2).2 (acc ++ [⟨(ptake s o).1, ((pnum (bytesOf s) (ptake s o).2).1 : Int)⟩])
def pinode (s : ByteArray) (o : Option Nat) : S45 × Option Nat :=
  let a0 := pnum (bytesOf s) o
  let a1 := pnum (bytesOf s) a0.2
  let a2 := pnum (bytesOf s) a1.2
  let a3 := pnum (bytesOf s) a2.2
  let a4 := pnum (bytesOf s) a3.2
  let a5 := pnum (bytesOf s) a4.2
  let a6 := pnum (bytesOf s) a5.2
  let t := ptake s a6.2
  let c := pmany (bytesOf s) t.2 12
  let d := pdirs s c.1 c.2 []
  (⟨a0.1, a1.1, a2.1, a3.1, a4.1, t.1, d.1, a5.1, a6.1⟩, d.2)
def pinos (s : ByteArray) : Nat → Option Nat → List S45 → List S45 × Option Nat
  | 0, o, acc => (acc, o)
  | n + 1, o, acc => pinos s n (pinode s o).2 (acc ++ [(pinode s o).1])
def pvol (s : ByteArray) : (Int × List S45) × Option Nat :=
  let a := pnum (bytesOf s) (some 0)
  let c := pmany (bytesOf s) a.2 24
  let r := pinos s c.1 c.2 []
  (((a.1 : Int), r.1), r.2)
theorem pdirs_none (s : ByteArray) : ∀ n acc, (pdirs s n none acc).2 = none
  | 0, acc => rfl
  | n + 1, acc => by rw [pdirs]; exact pdirs_none s n _
theorem pdirs_in (s : ByteArray) : ∀ n o acc, inside s o → inside s (pdirs s n o acc).2
  | 0, o, acc, h => h
  | n + 1, o, acc, h => by rw [pdirs]; exact pdirs_in s n _ _ (pnum_in s _ (ptake_in s o))
theorem pinode_none (s : ByteArray) : (pinode s none).2 = none := by
  show (pdirs s _ _ _).2 = none
  exact pdirs_none s _ _
theorem pinode_in (s : ByteArray) (o : Option Nat) : inside s (pinode s o).2 := by
  show inside s (pdirs s _ _ _).2
  exact pdirs_in s _ _ _ (pmany_in s _ _ (ptake_in s _))
theorem pinos_none (s : ByteArray) : ∀ n acc, (pinos s n none acc).2 = none
  | 0, acc => rfl
  | n + 1, acc => by rw [pinos, pinode_none]; exact pinos_none s n _
theorem pinos_in (s : ByteArray) : ∀ n o acc, inside s o → inside s (pinos s n o acc).2
  | 0, o, acc, h => h
  | n + 1, o, acc, h => by rw [pinos]; exact pinos_in s n _ _ (pinode_in s o)
theorem ptake_size (s : ByteArray) (o : Option Nat) : (ptake s o).1.size ≤ s.size := by
  unfold ptake
  split
  · split
    · rw [ByteArray.size_extract]; omega
    · exact Nat.zero_le _
  · exact Nat.zero_le _
theorem pdirs_small (s : ByteArray) : ∀ n o acc, (∀ d ∈ acc, d.f0.size ≤ s.size) → (pdirs s n o acc).1.length = acc.length + n ∧ ∀ d ∈ (pdirs s n o acc).1, d.f0.size ≤ s.size
  | 0, o, acc, h => ⟨rfl, h⟩
  | n + 1, o, acc, h => by
    rw [pdirs]
    have := pdirs_small s n (pnum (bytesOf s) (ptake s o).2).2 (acc ++ [⟨(ptake s o).1, ((pnum (bytesOf s) (ptake s o).2).1 : Int)⟩]) (fun d hd => by
      rcases List.mem_append.1 hd with hd | hd
      · exact h d hd
      · rw [List.mem_singleton.1 hd]; exact ptake_size s o)
    refine ⟨?_, this.2⟩
    rw [this.1, List.length_append]; simp; omega
def inoSmall (s : ByteArray) (x : S45) : Prop := x.f6.length ≤ 12 ∧ x.f5.size ≤ s.size ∧ ∀ d ∈ x.f6, d.f0.size ≤ s.size
theorem pinode_small (s : ByteArray) (o : Option Nat) : inoSmall s (pinode s o).1 := by
  have h : ∀ n o', n ≤ 12 → (pdirs s n o' []).1.length ≤ 12 ∧ ∀ d ∈ (pdirs s n o' []).1, d.f0.size ≤ s.size := fun n o' hn => by
    obtain ⟨h1, h2⟩ := pdirs_small s n o' [] (by simp)
    exact ⟨by rw [h1]; simp; omega, h2⟩
  refine ⟨?_, ?_, ?_⟩
  · exact (h _ _ (pmany_le _ _ _)).1
  · exact ptake_size s _
  · exact (h _ _ (pmany_le _ _ _)).2
theorem pinos_small (s : ByteArray) : ∀ n o acc, (∀ x ∈ acc, inoSmall s x) → (pinos s n o acc).1.length = acc.length + n ∧ ∀ x ∈ (pinos s n o acc).1, inoSmall s x
  | 0, o, acc, h => ⟨rfl, h⟩
  | n + 1, o, acc, h => by
    rw [pinos]
    have := pinos_small s n (pinode s o).2 (acc ++ [(pinode s o).1]) (fun d hd => by
      rcases List.mem_append.1 hd with hd | hd
      · exact h d hd
      · rw [List.mem_singleton.1 hd]; exact pinode_small s o)
    refine ⟨?_, this.2⟩
    rw [this.1, List.length_append]; simp; omega
theorem pvol_small (s : ByteArray) : (pvol s).1.2.length ≤ 24 ∧ ∀ x ∈ (pvol s).1.2, inoSmall s x := by
  show (pinos s _ _ []).1.length ≤ 24 ∧ ∀ x ∈ (pinos s _ _ []).1, inoSmall s x
  obtain ⟨h1, h2⟩ := pinos_small s (pmany (bytesOf s) (pnum (bytesOf s) (some 0)).2 24).1 (pmany (bytesOf s) (pnum (bytesOf s) (some 0)).2 24).2 [] (by simp)
  refine ⟨?_, h2⟩
  rw [h1]
  have := pmany_le (bytesOf s) (pnum (bytesOf s) (some 0)).2 24
  simp; omega
/-! ### what the program reads -/
theorem many_impl (s : ByteArray) (hs : s.size ≤ 140737488351232) (o : Option Nat) (rest : ByteArray) (bad : Bool) (m : Nat) (h : stands s o rest bad) :
    ∃ rest' bad', Ev (fun k => impl_reader_many.f k rest bad (m : Int)) (((pmany (bytesOf s) o m).1 : Int), rest', bad') ∧ stands s (pmany (bytesOf s) o m).2 rest' bad' := by
  obtain ⟨r1, b1, h1, h2⟩ := num_impl s hs o rest bad h
  unfold impl_reader_many.f pmany
  by_cases hc : m < (pnum (bytesOf s) o).1
  · rw [if_pos hc]
    refine ⟨r1, true, Ev.bind h1 (ev_pos (by simp only; omega) (ev_now rfl)), rfl, ?_⟩
    cases hp : (pnum (bytesOf s) o).2 with
    | none => rw [hp] at h2; exact h2.2
    | some p =>
      rw [hp] at h2
      obtain ⟨q1, rfl, _⟩ := h2
      rw [ByteArray.size_extract]; omega
  · rw [if_neg hc]
    exact ⟨r1, b1, Ev.bind h1 (ev_neg (by simp only; omega) (ev_now rfl)), h2⟩
/-! ### what is read stands there as it is shown -/
theorem vB_nat (n : Nat) (h : n < 562949953421312) : bytesOf (vB (n : Int)) = varL n := by
  unfold vB
  rw [if_pos (by omega), bytesOf_strOfNums _ (varL_byte _)]; rfl
theorem pdirs_back (s : ByteArray) : ∀ (d : Nat) (o : Option Nat) (acc : List S68) (q : Nat), inside s o → (pdirs s d o acc).2 = some q →
    ∃ p, o = some p ∧ p ≤ q ∧ q ≤ s.size ∧ ∃ ds, (pdirs s d o acc).1 = acc ++ ds ∧ ∀ B, bytesOf B = (bytesOf s).take p → bytesOf (namesB B ds) = (bytesOf s).take q
  | 0, o, acc, q, hi, h => by
    have h : o = some q := h
    subst h
    exact ⟨q, rfl, Nat.le_refl _, hi, [], by rw [pdirs, List.append_nil], fun B hB => hB⟩
  | d + 1, o, acc, q, hi, h => by
    rw [pdirs] at h ⊢
    obtain ⟨p1, e1, l1, m1, ds, e2, hB⟩ := pdirs_back s d _ _ q (pnum_in s _ (ptake_in s o)) h
    obtain ⟨p2, e3, l2, m2, n2, t2⟩ := pnum_back s _ p1 (ptake_in s o) e1
    obtain ⟨p3, e4, l3, m3, t3⟩ := ptake_back s o p2 hi e3
    refine ⟨p3, e4, by omega, m1, ⟨(ptake s o).1, ((pnum (bytesOf s) (ptake s o).2).1 : Int)⟩ :: ds, by rw [e2, List.append_assoc]; rfl, fun B hb => ?_⟩
    refine hB (dirB B ⟨(ptake s o).1, ((pnum (bytesOf s) (ptake s o).2).1 : Int)⟩) ?_
    unfold dirB
    rw [bytesOf_append, bytesOf_append, hb, vB_nat _ n2, t2, t3]
theorem pmany_some {L : List Int} {o : Option Nat} {m q : Nat} (h : (pmany L o m).2 = some q) : (pnum L o).2 = some q ∧ (pmany L o m).1 = (pnum L o).1 := by
  unfold pmany at h ⊢
  by_cases hc : m < (pnum L o).1
  · rw [if_pos hc] at h; cases h
  · rw [if_neg hc] at h ⊢; exact ⟨h, rfl⟩
theorem pinode_back (s : ByteArray) (o : Option Nat) (q : Nat) (hi : inside s o) (h : (pinode s o).2 = some q) :
    ∃ p, o = some p ∧ p ≤ q ∧ q ≤ s.size ∧ ∀ B, bytesOf B = (bytesOf s).take p → bytesOf (namesB (headB B (pinode s o).1) (pinode s o).1.f6) = (bytesOf s).take q := by
  unfold pinode at h ⊢
  simp only at h ⊢
  have i0 := pnum_in s o hi
  have i1 := pnum_in s _ i0
  have i2 := pnum_in s _ i1
  have i3 := pnum_in s _ i2
  have i4 := pnum_in s _ i3
  have i5 := pnum_in s _ i4
  have i6 := pnum_in s _ i5
  have i7 := ptake_in s (pnum (bytesOf s) (pnum (bytesOf s) (pnum (bytesOf s) (pnum (bytesOf s) (pnum (bytesOf s) (pnum (bytesOf s) (pnum (bytesOf s) o).2).2).2).2).2).2).2
  obtain ⟨p9, e9, l9, m9, ds, hds, hB⟩ := pdirs_back s _ _ [] q (pmany_in s _ _ i7) h
  rw [List.nil_append] at hds
  obtain ⟨f8, g8⟩ := pmany_some e9
  have hlen := (pdirs_small s (pmany (bytesOf s) (ptake s (pnum (bytesOf s) (pnum (bytesOf s) (pnum (bytesOf s) (pnum (bytesOf s) (pnum (bytesOf s) (pnum (bytesOf s) (pnum (bytesOf s) o).2).2).2).2).2).2).2).2 12).1 (pmany (bytesOf s) (ptake s (pnum (bytesOf s) (pnum (bytesOf s) (pnum (bytesOf s) (pnum (bytesOf s) (pnum (bytesOf s) (pnum (bytesOf s) (pnum (bytesOf s) o).2).2).2).2).2).2).2).2 12).2 [] (by simp)).1
  rw [hds, g8] at hlen
  rw [hds]
  obtain ⟨p8, e8, l8, m8, n8, t8⟩ := pnum_back s _ p9 i7 f8
  obtain ⟨p7, e7, l7, m7, t7⟩ := ptake_back s _ p8 i6 e8
  obtain ⟨p6, e6, l6, m6, n6, t6⟩ := pnum_back s _ p7 i5 e7
  obtain ⟨p5, e5, l5, m5, n5, t5⟩ := pnum_back s _ p6 i4 e6
  obtain ⟨p4, e4, l4, m4, n4, t4⟩ := pnum_back s _ p5 i3 e5
  obtain ⟨p3, e3, l3, m3, n3, t3⟩ := pnum_back s _ p4 i2 e4
  obtain ⟨p2, e2, l2, m2, n2, t2⟩ := pnum_back s _ p3 i1 e3
  obtain ⟨p1, e1, l1, m1, n1, t1⟩ := pnum_back s _ p2 i0 e2
  obtain ⟨p0, e0, l0, m0, n0, t0⟩ := pnum_back s _ p1 hi e1
  refine ⟨p0, e0, by omega, m9, fun B hb => hB _ ?_⟩
  unfold headB
  simp only [List.length_nil, Nat.zero_add] at hlen
  simp only [bytesOf_append, hlen]
  rw [vB_nat _ n0, vB_nat _ n1, vB_nat _ n2, vB_nat _ n3, vB_nat _ n4, vB_nat _ n5, vB_nat _ n6, vB_nat _ n8, hb, t8, t7, t6, t5, t4, t3, t2, t1, t0]
theorem pinos_back (s : ByteArray) : ∀ (d : Nat) (o : Option Nat) (acc : List S45) (q : Nat), inside s o → (pinos s d o acc).2 = some q →
    ∃ p, o = some p ∧ p ≤ q ∧ q ≤ s.size ∧ ∃ xs, (pinos s d o acc).1 = acc ++ xs ∧ ∀ B, bytesOf B = (bytesOf s).take p → bytesOf (inosB B xs) = (bytesOf s).take q
  | 0, o, acc, q, hi, h => by
    have h : o = some q := h
    subst h
    exact ⟨q, rfl, Nat.le_refl _, hi, [], by rw [pinos, List.append_nil], fun B hB => hB⟩
  | d + 1, o, acc, q, hi, h => by
    rw [pinos] at h ⊢
    obtain ⟨p1, e1, l1, m1, xs, e2, hB⟩ := pinos_back s d _ _ q (pinode_in s o) h
    obtain ⟨p0, e3, l2, m2, hB0⟩ := pinode_back s o p1 hi e1
    exact ⟨p0, e3, by omega, m1, (pinode s o).1 :: xs, by rw [e2, List.append_assoc]; rfl, fun B hb => hB _ (hB0 B hb)⟩
theorem pvol_back (s : ByteArray) (q : Nat) (h : (pvol s).2 = some q) : 0 < q ∧ q ≤ s.size ∧ bytesOf (showB (pvol s).1.1 (pvol s).1.2) = (bytesOf s).take q := by
  unfold pvol at h ⊢
  simp only at h ⊢
  have i0 : inside s (some 0) := Nat.zero_le _
  have i1 := pnum_in s _ i0
  obtain ⟨p2, e2, l2, m2, xs, hxs, hB⟩ := pinos_back s _ _ [] q (pmany_in s _ _ i1) h
  rw [List.nil_append] at hxs
  obtain ⟨f2, g2⟩ := pmany_some e2
  have hlen := (pinos_small s (pmany (bytesOf s) (pnum (bytesOf s) (some 0)).2 24).1 (pmany (bytesOf s) (pnum (bytesOf s) (some 0)).2 24).2 [] (by simp)).1
  rw [hxs, g2] at hlen
  rw [hxs]
  obtain ⟨p1, e1, l1, m1, n1, t1⟩ := pnum_back s _ p2 i1 f2
  obtain ⟨p0, e0, l0, m0, n0, t0⟩ := pnum_back s _ p1 i0 e1
  cases e0
  refine ⟨by omega, m2, ?_⟩
  unfold showB
  refine hB _ ?_
  simp only [List.length_nil, Nat.zero_add] at hlen
  rw [bytesOf_append, hlen, vB_nat _ n0, vB_nat _ n1, t1, t0]
  simp
def showT (nx : Int) (l : List S45) : ByteArray := if volOkB nx l = true then showB nx l else ⟨#[]⟩
theorem show_iff (s : ByteArray) (p : Nat) (hs : s.size ≤ 140737488351232) (h : (pvol s).2 = some p) : showT (pvol s).1.1 (pvol s).1.2 = s ↔ (p = s.size ∧ volOkB (pvol s).1.1 (pvol s).1.2 = true) := by
  obtain ⟨h0, h1, h2⟩ := pvol_back s p h
  unfold showT
  by_cases hv : volOkB (pvol s).1.1 (pvol s).1.2 = true
  · rw [if_pos hv]
    rw [take_all_size _ h1 h2.symm]
    exact ⟨fun e => ⟨e, hv⟩, fun e => e.1⟩
  · rw [if_neg hv]
    constructor
    · intro e
      have := congrArg ByteArray.size e
      have g2 : (⟨#[]⟩ : ByteArray).size = 0 := rfl
      omega
    · exact fun e => absurd e.2 hv
theorem small_of {l : List S45} (hs : l.length ≤ 24 ∧ ∀ x ∈ l, x.f6.length ≤ 12 ∧ x.f5.size ≤ 1048576 ∧ ∀ d ∈ x.f6, d.f0.size ≤ 1048576) : volSmall l :=
  ⟨by have := hs.1; omega, fun x hx => by have := (hs.2 x hx).1; omega, fun x hx => (hs.2 x hx).2.1, fun x hx => (hs.2 x hx).2.2⟩
theorem volOkI_any (nx : Int) (A : Option Addr) (c : Nat) (l : List S45) (w : World) (hr : Kd.C k45 w A l.length l) (hc : l.length ≤ c) (hs : l.length ≤ 24 ∧ ∀ x ∈ l, x.f6.length ≤ 12 ∧ x.f5.size ≤ 1048576 ∧ ∀ d ∈ x.f6, d.f0.size ≤ 1048576) :
    Calls Try.prog 12 #[.agg #[.int .i64 nx, .slice A l.length c]] w fun e w' => e = .returned (.bool (volOkB nx l)) ∧ Below w.heap.size w w' :=
  impl_VolOk.calls nx A c l _ w hr hc (by unfold impl_VolOk.f; rw [if_pos ((volSmallB_iff l).2 (small_of hs))])
theorem showS_any (nx : Int) (A : Option Addr) (c : Nat) (l : List S45) (w : World) (hr : Kd.C k45 w A l.length l) (hc : l.length ≤ c) (hs : l.length ≤ 24 ∧ ∀ x ∈ l, x.f6.length ≤ 12 ∧ x.f5.size ≤ 1048576 ∧ ∀ d ∈ x.f6, d.f0.size ≤ 1048576) :
    Calls Try.prog 20 #[.agg #[.int .i64 nx, .slice A l.length c]] w fun e w' => e = .returned (.string (showT nx l)) ∧ Below w.heap.size w w' := by
  obtain ⟨K, hK⟩ := specShow_ev nx l (small_of hs)
  exact spec_ShowVol.calls K nx A c l _ w hr hc (hK K (Nat.le_refl _))
/-! ### the program's reader, and the volume it builds -/
structure RdS (s : ByteArray) (w0 w W : World) (g : Nat) (o : Option Nat) : Prop where
  rd : ∃ rest bad, IsS75 w0 W g rest bad ∧ stands s o rest bad
  hb : Below w0.heap.size w0 W
  hk : KeepBut w W g none
  gg : g < w.heap.size
  ge : w0.heap.size ≤ w.heap.size
namespace RdS
variable {s : ByteArray} {w0 w W W1 : World} {g : Nat} {o o' : Option Nat}
theorem grow (h : RdS s w0 w W g o) (hb : Below W.heap.size W W1) : RdS s w0 w W1 g o := by
  obtain ⟨rest, bad, hI, hs⟩ := h.rd
  exact ⟨⟨rest, bad, hI.below hb, hs⟩, below_then h.hb h.hb.size hb, h.hk.trans (KeepBut.of_below hb g none) (.inl rfl), h.gg, h.ge⟩
theorem put (h : RdS s w0 w W g o) {p : Addr} (hp : w.heap.size ≤ p.block) (u : Value) : RdS s w0 w (W.setCell p u) g o := by
  obtain ⟨rest, bad, hI, hs⟩ := h.rd
  have := h.gg
  have := h.ge
  exact ⟨⟨rest, bad, hI.far (by omega) u, hs⟩, h.hb.setCell (by omega) u, keep_far h.hk hp u, h.gg, h.ge⟩
theorem grown (h : RdS s w0 w W g o) {row : Option Nat} (hg : W.grownBy W1 row) (hr : ∀ k, row = some k → w.heap.size ≤ k) : RdS s w0 w W1 g o := by
  obtain ⟨rest, bad, hI, hs⟩ := h.rd
  have h1 := h.gg
  have h2 := h.ge
  exact ⟨⟨rest, bad, hI.grown hg (fun e => by have := hr g e.symm; omega), hs⟩, pw_below_grown h.hb row h.hb.size hg (fun k e => by have := hr k e; omega),
    ⟨Nat.le_trans h.hk.1 hg.size, fun i hi hne hn => (hg.block i (Nat.lt_of_lt_of_le hi h.hk.1) (fun e => by have := hr i e.symm; omega)).trans (h.hk.2 i hi hne hn)⟩, h.gg, h.ge⟩
theorem num (hs : s.size ≤ 140737488351232) (h : RdS s w0 w W g o) :
    Calls Try.prog 75 #[.pointer (some ⟨g, 0, none⟩)] W fun e w' => e = .returned (.int .i64 ((pnum (bytesOf s) o).1 : Int)) ∧ RdS s w0 w w' g (pnum (bytesOf s) o).2 ∧ KeepBut W w' g none := by
  obtain ⟨rest, bad, hI, hst⟩ := h.rd
  obtain ⟨r1, b1, ⟨K, hK⟩, h2⟩ := num_impl s hs o rest bad hst
  refine (impl_reader_num.calls K g rest bad _ r1 b1 w0 W hI h.hb (hK K (Nat.le_refl _))).mono ?_
  rintro e w' ⟨rfl, hi, hb, hk⟩
  exact ⟨rfl, ⟨⟨r1, b1, hi, h2⟩, hb, h.hk.trans hk (.inl rfl), h.gg, h.ge⟩, hk⟩
theorem many (hs : s.size ≤ 140737488351232) (h : RdS s w0 w W g o) (m : Nat) :
    Calls Try.prog 76 #[.pointer (some ⟨g, 0, none⟩), .int .i64 (m : Int)] W fun e w' => e = .returned (.int .i64 ((pmany (bytesOf s) o m).1 : Int)) ∧ RdS s w0 w w' g (pmany (bytesOf s) o m).2 ∧ KeepBut W w' g none := by
  obtain ⟨rest, bad, hI, hst⟩ := h.rd
  obtain ⟨r1, b1, ⟨K, hK⟩, h2⟩ := many_impl s hs o rest bad m hst
  refine (impl_reader_many.calls K g rest bad _ _ r1 b1 w0 W hI h.hb (hK K (Nat.le_refl _))).mono ?_
  rintro e w' ⟨rfl, hi, hb, hk⟩
  exact ⟨rfl, ⟨⟨r1, b1, hi, h2⟩, hb, h.hk.trans hk (.inl rfl), h.gg, h.ge⟩, hk⟩
theorem piece (hs : s.size ≤ 140737488351232) (h : RdS s w0 w W g o) :
    Calls Try.prog 77 #[.pointer (some ⟨g, 0, none⟩)] W fun e w' => e = .returned (.string (ptake s o).1) ∧ RdS s w0 w w' g (ptake s o).2 ∧ KeepBut W w' g none := by
  obtain ⟨rest, bad, hI, hst⟩ := h.rd
  obtain ⟨r1, b1, ⟨K, hK⟩, h2⟩ := piece_impl' s hs o rest bad hst
  refine (impl_reader_piece.calls K g rest bad _ r1 b1 w0 W hI h.hb (hK K (Nat.le_refl _))).mono ?_
  rintro e w' ⟨rfl, hi, hb, hk⟩
  exact ⟨rfl, ⟨⟨r1, b1, hi, h2⟩, hb, h.hk.trans hk (.inl rfl), h.gg, h.ge⟩, hk⟩
end RdS
/-- what the reader has built: the result's box, the volume's box, the inodes -/
structure VS (s : ByteArray) (w0 w W : World) (g : Nat) (o : Option Nat) (g2 gv : Nat) (nx : Int) (v : Value) (l : List S45) (P : Nat → Prop) : Prop where
  r : RdS s w0 w W g o
  b2 : W.heap[g2]? = some (.cells #[.int .i64 0, .slice none 0 0] 29 (0, 0))
  bv : W.heap[gv]? = some (.cells #[.int .i64 nx, v] 29 (0, 0))
  sv : Kd.S k45 45 W w.heap.size P v l
  n2 : w.heap.size ≤ g2
  nv : w.heap.size ≤ gv
namespace VS
variable {s : ByteArray} {w0 w W W1 : World} {g g2 gv gi : Nat} {o o' : Option Nat} {nx : Int} {v u : Value} {l : List S45} {P P' : Nat → Prop} {cs : Array Value}
theorem call (h : VS s w0 w W g o g2 gv nx v l P) (h1 : RdS s w0 w W1 g o') (hk : KeepBut W W1 g none) : VS s w0 w W1 g o' g2 gv nx v l P := by
  have a1 := h.r.gg
  have a2 := h.n2
  have a3 := h.nv
  exact ⟨h1, hk.blk h.b2 (by omega) (by simp), hk.blk h.bv (by omega) (by simp), Kd.S_mono (Kd.S_keep (Kd.S_bound h.sv) hk (fun k hk => by have := hk.2.1; omega)) (fun _ hk => hk.1), h.n2, h.nv⟩
theorem grow (h : VS s w0 w W g o g2 gv nx v l P) (hb : Below W.heap.size W W1) : VS s w0 w W1 g o g2 gv nx v l P :=
  ⟨h.r.grow hb, blk_below h.b2 hb, blk_below h.bv hb, Kd.S_below h.sv hb, h.n2, h.nv⟩
theorem weak (h : VS s w0 w W g o g2 gv nx v l P) (hP : ∀ k, P k → k < W.heap.size → P' k) : VS s w0 w W g o g2 gv nx v l P' :=
  ⟨h.r, h.b2, h.bv, Kd.S_mono (Kd.S_bound h.sv) (fun k hk => hP k hk.1 hk.2.2.1), h.n2, h.nv⟩
/-- a new box, filled or not: none of the blocks that are held -/
theorem boxed (h : VS s w0 w W g o g2 gv nx v l P) (hg : gi = W.heap.size) (hb : Below W.heap.size W W1) : VS s w0 w W1 g o g2 gv nx v l (fun k => P k ∧ k ≠ gi) :=
  (h.weak (P' := fun k => P k ∧ k ≠ gi) (fun k hk hlt => ⟨hk, by omega⟩)).grow hb
theorem put (h : VS s w0 w W g o g2 gv nx v l P) {t : TypeId} (hi : W.heap[gi]? = some (.cells cs t (0, 0))) (ht : t ≠ 29) (hn : w.heap.size ≤ gi) (hP : ∀ k, P k → k ≠ gi) (j : Nat) (u : Value) : VS s w0 w (W.setCell ⟨gi, j, none⟩ u) g o g2 gv nx v l P :=
  ⟨h.r.put hn u, blk_far h.b2 (blk_ne h.b2 hi (fun e => ht e.symm)) u, blk_far h.bv (blk_ne h.bv hi (fun e => ht e.symm)) u, Kd.S_far h.sv (fun k hk => hP k hk) u, h.n2, h.nv⟩
/-- a row of names has grown -/
theorem grownR {ds : List S68} {v6 v6' : Value} {Q : Nat → Prop} (h : VS s w0 w W g o g2 gv nx v l (fun k => P k ∧ some k ≠ v6.ownBlock)) (hd : Kd.R k68 68 W w.heap.size Q v6 ds) (hg : W.grownBy W1 v6.ownBlock) (hat : v6'.ownBlock = v6.ownBlock ∨ ∃ b, v6'.ownBlock = some b ∧ W.heap.size ≤ b) :
    VS s w0 w W1 g o g2 gv nx v l (fun k => P k ∧ some k ≠ v6'.ownBlock) :=
  ⟨h.r.grown hg (fun k e => Kd.R_base hd k e), blk_grown h.b2 hg (Kd.R_ne hd h.b2 (by decide)), blk_grown h.bv hg (Kd.R_ne hd h.bv (by decide)), Kd.S_after h.sv hg hat, h.n2, h.nv⟩
/-- the row of inodes has grown -/
theorem grownS {l' : List S45} {v' : Value} {Q : Nat → Prop} (h : VS s w0 w W g o g2 gv nx v l P) (hg : W.grownBy W1 v.ownBlock) (hs : Kd.S k45 45 W1 w.heap.size Q v' l') :
    RdS s w0 w W1 g o ∧ W1.heap[g2]? = some (.cells #[.int .i64 0, .slice none 0 0] 29 (0, 0)) ∧ W1.heap[gv]? = some (.cells #[.int .i64 nx, v] 29 (0, 0)) ∧ some gv ≠ v.ownBlock :=
  ⟨h.r.grown hg (fun k e => Kd.R_base (Kd.S_R h.sv) k e), blk_grown h.b2 hg (Kd.S_ne h.sv h.b2 (by decide)), blk_grown h.bv hg (Kd.S_ne h.sv h.bv (by decide)), Kd.S_ne h.sv h.bv (by decide)⟩
end VS
theorem box29 {W wB : World} {gi : Nat} (hg : gi = W.heap.size) (hb : Below W.heap.size W wB) (hbox : wB.heap[gi]? = some (.cells #[.int .i64 0, .slice none 0 0] 29 (0, 0))) (u0 u1 : Value) : ((World.setCell (World.setCell wB ⟨gi, 0, none⟩ (u0)) ⟨gi, 1, none⟩ (u1))).heap[gi]? = some (.cells #[u0, u1] 29 (0, 0)) ∧ Below W.heap.size W (World.setCell (World.setCell wB ⟨gi, 0, none⟩ (u0)) ⟨gi, 1, none⟩ (u1)) := by
  have q0 : ((World.setCell wB ⟨gi, 0, none⟩ (u0))).heap[gi]? = some (.cells #[u0, .slice none 0 0] 29 (0, 0)) := blk_put hbox 0 _ rfl
  have b0 : Below W.heap.size W (World.setCell wB ⟨gi, 0, none⟩ (u0)) := below_set hb (by omega)
  have q1 : ((World.setCell (World.setCell wB ⟨gi, 0, none⟩ (u0)) ⟨gi, 1, none⟩ (u1))).heap[gi]? = some (.cells #[u0, u1] 29 (0, 0)) := blk_put q0 1 _ rfl
  have b1 : Below W.heap.size W (World.setCell (World.setCell wB ⟨gi, 0, none⟩ (u0)) ⟨gi, 1, none⟩ (u1)) := below_set b0 (by omega)
  exact ⟨q1, b1⟩
theorem box45 {W wB : World} {gi : Nat} (hg : gi = W.heap.size) (hb : Below W.heap.size W wB) (hbox : wB.heap[gi]? = some (.cells #[.int .i64 0, .int .i64 0, .int .i64 0, .int .i64 0, .int .i64 0, .string (⟨#[]⟩ : ByteArray), .slice none 0 0, .int .i64 0, .int .i64 0] 45 (0, 0))) (u0 u1 u2 u3 u4 u5 u6 u7 u8 : Value) : ((World.setCell (World.setCell (World.setCell (World.setCell (World.setCell (World.setCell (World.setCell (World.setCell (World.setCell wB ⟨gi, 0, none⟩ (u0)) ⟨gi, 1, none⟩ (u1)) ⟨gi, 2, none⟩ (u2)) ⟨gi, 3, none⟩ (u3)) ⟨gi, 4, none⟩ (u4)) ⟨gi, 5, none⟩ (u5)) ⟨gi, 6, none⟩ (u6)) ⟨gi, 7, none⟩ (u7)) ⟨gi, 8, none⟩ (u8))).heap[gi]? = some (.cells #[u0, u1, u2, u3, u4, u5, u6, u7, u8] 45 (0, 0)) ∧ Below W.heap.size W (World.setCell (World.setCell (World.setCell (World.setCell (World.setCell (World.setCell (World.setCell (World.setCell (World.setCell wB ⟨gi, 0, none⟩ (u0)) ⟨gi, 1, none⟩ (u1)) ⟨gi, 2, none⟩ (u2)) ⟨gi, 3, none⟩ (u3)) ⟨gi, 4, none⟩ (u4)) ⟨gi, 5, none⟩ (u5)) ⟨gi, 6, none⟩ (u6)) ⟨gi, 7, none⟩ (u7)) ⟨gi, 8, none⟩ (u8)) := by
  have q0 : ((World.setCell wB ⟨gi, 0, none⟩ (u0))).heap[gi]? = some (.cells #[u0, .int .i64 0, .int .i64 0, .int .i64 0, .int .i64 0, .string (⟨#[]⟩ : ByteArray), .slice none 0 0, .int .i64 0, .int .i64 0] 45 (0, 0)) := blk_put hbox 0 _ rfl
  have b0 : Below W.heap.size W (World.setCell wB ⟨gi, 0, none⟩ (u0)) := below_set hb (by omega)
  have q1 : ((World.setCell (World.setCell wB ⟨gi, 0, none⟩ (u0)) ⟨gi, 1, none⟩ (u1))).heap[gi]? = some (.cells #[u0, u1, .int .i64 0, .int .i64 0, .int .i64 0, .string (⟨#[]⟩ : ByteArray), .slice none 0 0, .int .i64 0, .int .i64 0] 45 (0, 0)) := blk_put q0 1 _ rfl
  have b1 : Below W.heap.size W (World.setCell (World.setCell wB ⟨gi, 0, none⟩ (u0)) ⟨gi, 1, none⟩ (u1)) := below_set b0 (by omega)
  have q2 : ((World.setCell (World.setCell (World.setCell wB ⟨gi, 0, none⟩ (u0)) ⟨gi, 1, none⟩ (u1)) ⟨gi, 2, none⟩ (u2))).heap[gi]? = some (.cells #[u0, u1, u2, .int .i64 0, .int .i64 0, .string (⟨#[]⟩ : ByteArray), .slice none 0 0, .int .i64 0, .int .i64 0] 45 (0, 0)) := blk_put q1 2 _ rfl
  have b2 : Below W.heap.size W (World.setCell (World.setCell (World.setCell wB ⟨gi, 0, none⟩ (u0)) ⟨gi, 1, none⟩ (u1)) ⟨gi, 2, none⟩ (u2)) := below_set b1 (by omega)
  have q3 : ((World.setCell (World.setCell (World.setCell (World.setCell wB ⟨gi, 0, none⟩ (u0)) ⟨gi, 1, none⟩ (u1)) ⟨gi, 2, none⟩ (u2)) ⟨gi, 3, none⟩ (u3))).heap[gi]? = some (.cells #[u0, u1, u2, u3, .int .i64 0, .string (⟨#[]⟩ : ByteArray), .slice none 0 0, .int .i64 0, .int .i64 0] 45 (0, 0)) := blk_put q2 3 _ rfl
  have b3 : Below W.heap.size W (World.setCell (World.setCell (World.setCell (World.setCell wB ⟨gi, 0, none⟩ (u0)) ⟨gi, 1, none⟩ (u1)) ⟨gi, 2, none⟩ (u2)) ⟨gi, 3, none⟩ (u3)) := below_set b2 (by omega)
  have q4 : ((World.setCell (World.setCell (World.setCell (World.setCell (World.setCell wB ⟨gi, 0, none⟩ (u0)) ⟨gi, 1, none⟩ (u1)) ⟨gi, 2, none⟩ (u2)) ⟨gi, 3, none⟩ (u3)) ⟨gi, 4, none⟩ (u4))).heap[gi]? = some (.cells #[u0, u1, u2, u3, u4, .string (⟨#[]⟩ : ByteArray), .slice none 0 0, .int .i64 0, .int .i64 0] 45 (0, 0)) := blk_put q3 4 _ rfl
  have b4 : Below W.heap.size W (World.setCell (World.setCell (World.setCell (World.setCell (World.setCell wB ⟨gi, 0, none⟩ (u0)) ⟨gi, 1, none⟩ (u1)) ⟨gi, 2, none⟩ (u2)) ⟨gi, 3, none⟩ (u3)) ⟨gi, 4, none⟩ (u4)) := below_set b3 (by omega)
  have q5 : ((World.setCell (World.setCell (World.setCell (World.setCell (World.setCell (World.setCell wB ⟨gi, 0, none⟩ (u0)) ⟨gi, 1, none⟩ (u1)) ⟨gi, 2, none⟩ (u2)) ⟨gi, 3, none⟩ (u3)) ⟨gi, 4, none⟩ (u4)) ⟨gi, 5, none⟩ (u5))).heap[gi]? = some (.cells #[u0, u1, u2, u3, u4, u5, .slice none 0 0, .int .i64 0, .int .i64 0] 45 (0, 0)) := blk_put q4 5 _ rfl
  have b5 : Below W.heap.size W (World.setCell (World.setCell (World.setCell (World.setCell (World.setCell (World.setCell wB ⟨gi, 0, none⟩ (u0)) ⟨gi, 1, none⟩ (u1)) ⟨gi, 2, none⟩ (u2)) ⟨gi, 3, none⟩ (u3)) ⟨gi, 4, none⟩ (u4)) ⟨gi, 5, none⟩ (u5)) := below_set b4 (by omega)
  have q6 : ((World.setCell (World.setCell (World.setCell (World.setCell (World.setCell (World.setCell (World.setCell wB ⟨gi, 0, none⟩ (u0)) ⟨gi, 1, none⟩ (u1)) ⟨gi, 2, none⟩ (u2)) ⟨gi, 3, none⟩ (u3)) ⟨gi, 4, none⟩ (u4)) ⟨gi, 5, none⟩ (u5)) ⟨gi, 6, none⟩ (u6))).heap[gi]? = some (.cells #[u0, u1, u2, u3, u4, u5, u6, .int .i64 0, .int .i64 0] 45 (0, 0)) := blk_put q5 6 _ rfl
  have b6 : Below W.heap.size W (World.setCell (World.setCell (World.setCell (World.setCell (World.setCell (World.setCell (World.setCell wB ⟨gi, 0, none⟩ (u0)) ⟨gi, 1, none⟩ (u1)) ⟨gi, 2, none⟩ (u2)) ⟨gi, 3, none⟩ (u3)) ⟨gi, 4, none⟩ (u4)) ⟨gi, 5, none⟩ (u5)) ⟨gi, 6, none⟩ (u6)) := below_set b5 (by omega)
  have q7 : ((World.setCell (World.setCell (World.setCell (World.setCell (World.setCell (World.setCell (World.setCell (World.setCell wB ⟨gi, 0, none⟩ (u0)) ⟨gi, 1, none⟩ (u1)) ⟨gi, 2, none⟩ (u2)) ⟨gi, 3, none⟩ (u3)) ⟨gi, 4, none⟩ (u4)) ⟨gi, 5, none⟩ (u5)) ⟨gi, 6, none⟩ (u6)) ⟨gi, 7, none⟩ (u7))).heap[gi]? = some (.cells #[u0, u1, u2, u3, u4, u5, u6, u7, .int .i64 0] 45 (0, 0)) := blk_put q6 7 _ rfl
  have b7 : Below W.heap.size W (World.setCell (World.setCell (World.setCell (World.setCell (World.setCell (World.setCell (World.setCell (World.setCell wB ⟨gi, 0, none⟩ (u0)) ⟨gi, 1, none⟩ (u1)) ⟨gi, 2, none⟩ (u2)) ⟨gi, 3, none⟩ (u3)) ⟨gi, 4, none⟩ (u4)) ⟨gi, 5, none⟩ (u5)) ⟨gi, 6, none⟩ (u6)) ⟨gi, 7, none⟩ (u7)) := below_set b6 (by omega)
  have q8 : ((World.setCell (World.setCell (World.setCell (World.setCell (World.setCell (World.setCell (World.setCell (World.setCell (World.setCell wB ⟨gi, 0, none⟩ (u0)) ⟨gi, 1, none⟩ (u1)) ⟨gi, 2, none⟩ (u2)) ⟨gi, 3, none⟩ (u3)) ⟨gi, 4, none⟩ (u4)) ⟨gi, 5, none⟩ (u5)) ⟨gi, 6, none⟩ (u6)) ⟨gi, 7, none⟩ (u7)) ⟨gi, 8, none⟩ (u8))).heap[gi]? = some (.cells #[u0, u1, u2, u3, u4, u5, u6, u7, u8] 45 (0, 0)) := blk_put q7 8 _ rfl
  have b8 : Below W.heap.size W (World.setCell (World.setCell (World.setCell (World.setCell (World.setCell (World.setCell (World.setCell (World.setCell (World.setCell wB ⟨gi, 0, none⟩ (u0)) ⟨gi, 1, none⟩ (u1)) ⟨gi, 2, none⟩ (u2)) ⟨gi, 3, none⟩ (u3)) ⟨gi, 4, none⟩ (u4)) ⟨gi, 5, none⟩ (u5)) ⟨gi, 6, none⟩ (u6)) ⟨gi, 7, none⟩ (u7)) ⟨gi, 8, none⟩ (u8)) := below_set b7 (by omega)
  exact ⟨q8, b8⟩
theorem box68 {W wB : World} {gi : Nat} (hg : gi = W.heap.size) (hb : Below W.heap.size W wB) (hbox : wB.heap[gi]? = some (.cells #[.string (⟨#[]⟩ : ByteArray), .int .i64 0] 68 (0, 0))) (u0 u1 : Value) : ((World.setCell (World.setCell wB ⟨gi, 0, none⟩ (u0)) ⟨gi, 1, none⟩ (u1))).heap[gi]? = some (.cells #[u0, u1] 68 (0, 0)) ∧ Below W.heap.size W (World.setCell (World.setCell wB ⟨gi, 0, none⟩ (u0)) ⟨gi, 1, none⟩ (u1)) := by
  have q0 : ((World.setCell wB ⟨gi, 0, none⟩ (u0))).heap[gi]? = some (.cells #[u0, .int .i64 0] 68 (0, 0)) := blk_put hbox 0 _ rfl
  have b0 : Below W.heap.size W (World.setCell wB ⟨gi, 0, none⟩ (u0)) := below_set hb (by omega)
  have q1 : ((World.setCell (World.setCell wB ⟨gi, 0, none⟩ (u0)) ⟨gi, 1, none⟩ (u1))).heap[gi]? = some (.cells #[u0, u1] 68 (0, 0)) := blk_put q0 1 _ rfl
  have b1 : Below W.heap.size W (World.setCell (World.setCell wB ⟨gi, 0, none⟩ (u0)) ⟨gi, 1, none⟩ (u1)) := below_set b0 (by omega)
  exact ⟨q1, b1⟩
set_option maxHeartbeats 4000000 in
set_option maxRecDepth 100000 in
theorem readerVol_any (s : ByteArray) (hs : s.size ≤ 140737488351232) (g : Nat) (w0 w : World) (hI : IsS75 w0 w g s false) (hB : Below w0.heap.size w0 w) :
    Calls Try.prog 57 #[.pointer (some ⟨g, 0, none⟩)] w fun e w' => ∃ v, e = .returned (.agg #[.int .i64 (pvol s).1.1, v]) ∧ Kd.S k45 45 w' w.heap.size (fun _ => True) v (pvol s).1.2 ∧ RdS s w0 w w' g (pvol s).2 := by
  have hu29 := Try.underlying29
  have hu45 := Try.underlying45
  have hu68 := Try.underlying68
  have R0 := Aside0.mk (show RdS s w0 w w g (some 0) from ⟨⟨s, false, hI, Nat.zero_le _, byte_ext (by rw [extract_bytes]; rfl), rfl⟩, hB, KeepBut.refl _ _ _, hI.lt, hB.size⟩)
  obtain ⟨a, ha⟩ : ∃ a, a = pnum (bytesOf s) (some 0) := ⟨_, rfl⟩
  obtain ⟨c, hc⟩ : ∃ c, c = pmany (bytesOf s) a.2 24 := ⟨_, rfl⟩
  have hc24 : c.1 ≤ 24 := by rw [hc]; exact pmany_le _ _ _
  obtain ⟨D, hD⟩ : ∃ D, D = pinos s c.1 c.2 [] := ⟨_, rfl⟩
  have HV := Aside0.mk (show pvol s = (((a.1 : Int), D.1), D.2) from by rw [hD, hc, ha]; rfl)
  have CA := Aside0.mk (fun (W : World) (h : RdS s w0 w W g (some 0)) => show Calls Try.prog 75 #[.pointer (some ⟨g, 0, none⟩)] W fun e w' => e = .returned (.int .i64 (a.1 : Int)) ∧ RdS s w0 w w' g a.2 ∧ KeepBut W w' g none from by rw [ha]; exact h.num hs)
  have CC := Aside0.mk (fun (W : World) (h : RdS s w0 w W g a.2) => show Calls Try.prog 76 #[.pointer (some ⟨g, 0, none⟩), .int .i64 24] W fun e w' => e = .returned (.int .i64 (c.1 : Int)) ∧ RdS s w0 w w' g c.2 ∧ KeepBut W w' g none from by rw [hc]; exact h.many hs 24)
  have HG := Aside0.mk hI.lt
  have HS := Aside0.mk hs
  have HD := Aside0.mk hD
  clear hI hB ha hc hD hs
  go_enter Try.func57, Try.ntmps57
  go_wp2_with (first | ((with_reducible refine gate_dst (N := 2) rfl ?_); refine box_event ?hg (N := 2) ?hd (cs := #[.int .i64 0, .slice none 0 0]) (t := 29) ?hr ?_; (case hd => rfl); (case hg => rfl); (case hr => first | (go_simp; done) | (go_simp; rfl)); intro g2 hg w2 hbox hb; have B2 := Aside0.mk hbox; have G2 := Aside0.mk (by rw [hg]; exact Nat.le_refl _ : w.heap.size ≤ g2); have n0_ := Aside0.mk (R0.out.grow hb); clear R0; have R0 := n0_; clear n0_ hg hb hbox) | (go_at_call 75; (with_reducible refine (CA.out _ R0.out).mono ?_); rintro e w3 ⟨rfl, hR, hk⟩; have n0_ := Aside0.mk (hk.blk B2.out (by have := G2.out; have := HG.out; omega) (by simp)); have n1_ := Aside0.mk hR; clear R0 B2 CA hR hk; have B2 := n0_; have R0 := n1_; clear n0_ n1_) | ((with_reducible refine gate_dst (N := 3) rfl ?_); refine box_event ?hg (N := 3) ?hd (cs := #[.int .i64 0, .slice none 0 0]) (t := 29) ?hr ?_; (case hd => rfl); (case hg => rfl); (case hr => first | (go_simp; done) | (go_simp; rfl)); intro gv hg w4 hbox hb; have n0_ := Aside0.mk hbox; have n1_ := Aside0.mk hg; have n2_ := Aside0.mk hb; have hz0 : w4.cell? ⟨gv, 0, none⟩ = some (.int .i64 0) := (blk_cell hbox 0).trans rfl; have hzf0 := blk_frozen hbox 0; have hz1 : w4.cell? ⟨gv, 1, none⟩ = some (.slice none 0 0) := (blk_cell hbox 1).trans rfl; have hzf1 := blk_frozen hbox 1; clear hg hb hbox) | ((with_reducible refine gate_store (t := 29) (p := 3) rfl ?_); refine store_event (t := 29) (p := 3) (v := ?vo3) (w1 := (World.setCell (World.setCell w4 ⟨gv, 0, none⟩ (.int .i64 (a.1 : Int))) ⟨gv, 1, none⟩ (.slice none 0 0))) ?hg ?ho ?hn ?hr ?_; (case ho => rfl); (case hg => rfl); (case hn => rfl); (case hr => first | (go_simp; done) | (go_simp; rfl)); intro w5 hw; have m0_ := box29 n1_.out n2_.out n0_.out (.int .i64 (a.1 : Int)) (.slice none 0 0); rw [← hw] at m0_; have GV := Aside0.mk (Nat.le_trans R0.out.hk.1 (Nat.le_of_eq n1_.out.symm) : w.heap.size ≤ gv); have NE := Aside0.mk (show g2 ≠ gv from by have := blk_lt B2.out; have := n1_.out; omega); have V := Aside0.mk (show VS s w0 w w5 g a.2 g2 gv (a.1 : Int) (.slice none 0 0) [] (fun _ => True) from ⟨R0.out.grow m0_.2, blk_below B2.out m0_.2, m0_.1, Kd.S_nil _ _ _ _ _, G2.out, GV.out⟩); clear R0 B2 n0_ n1_ n2_ hz0 hz1 hzf0 hzf1 hw m0_) | (go_at_call 76; (with_reducible refine (CC.out _ V.out.r).mono ?_); rintro e w6 ⟨rfl, hR, hk⟩; have n0_ := Aside0.mk (V.out.call hR hk); clear V CC hR hk; have V := n0_; clear n0_))
  go_loopg [11] c.1 (fun kq v11 w' => ∃ (i : Nat) (o : Option Nat) (v : Value) (acc : List S45), v11 = .int .i64 (i : Int) ∧ Aside0 (i + kq = c.1 ∧ acc.length = i ∧ pinos s kq o acc = D) ∧ Aside0 (VS s w0 w w' g o g2 gv (a.1 : Int) v acc (fun _ => True)))
  case atStart => exact ⟨0, c.2, _, [], rfl, ⟨by omega, rfl, HD.out.symm⟩, V⟩
  case round =>
    clear V HD
    obtain ⟨i, o, v, acc, rfl, HX, V⟩ := hrel
    obtain ⟨AV, cV, e0⟩ := Kd.S_slice V.out.sv
    subst e0
    by_cases hlt : i < c.1
    · cases gk with
      | zero => have := HX.out.1; omega
      | succ k1 =>
      have HP := Aside0.mk HX.out.2.2
      obtain ⟨a0, h0⟩ : ∃ x, x = pnum (bytesOf s) o := ⟨_, rfl⟩
      obtain ⟨a1, h1⟩ : ∃ x, x = pnum (bytesOf s) a0.2 := ⟨_, rfl⟩
      obtain ⟨a2, h2⟩ : ∃ x, x = pnum (bytesOf s) a1.2 := ⟨_, rfl⟩
      obtain ⟨a3, h3⟩ : ∃ x, x = pnum (bytesOf s) a2.2 := ⟨_, rfl⟩
      obtain ⟨a4, h4⟩ : ∃ x, x = pnum (bytesOf s) a3.2 := ⟨_, rfl⟩
      obtain ⟨a5, h5⟩ : ∃ x, x = pnum (bytesOf s) a4.2 := ⟨_, rfl⟩
      obtain ⟨a6, h6⟩ : ∃ x, x = pnum (bytesOf s) a5.2 := ⟨_, rfl⟩
      obtain ⟨t, ht⟩ : ∃ x, x = ptake s a6.2 := ⟨_, rfl⟩
      obtain ⟨n, hn⟩ : ∃ x, x = pmany (bytesOf s) t.2 12 := ⟨_, rfl⟩
      obtain ⟨E, hE⟩ : ∃ x, x = pdirs s n.1 n.2 [] := ⟨_, rfl⟩
      have hn12 : n.1 ≤ 12 := by rw [hn]; exact pmany_le _ _ _
      have HPI := Aside0.mk (show pinode s o = ((⟨a0.1, a1.1, a2.1, a3.1, a4.1, t.1, E.1, a5.1, a6.1⟩ : S45), E.2) from by rw [hE, hn, ht, h6, h5, h4, h3, h2, h1, h0]; rfl)
      have C0 := Aside0.mk (fun (W : World) (h : RdS s w0 w W g o) => show Calls Try.prog 75 #[.pointer (some ⟨g, 0, none⟩)] W fun e w' => e = .returned (.int .i64 (a0.1 : Int)) ∧ RdS s w0 w w' g a0.2 ∧ KeepBut W w' g none from by rw [h0]; exact h.num HS.out)
      have C1 := Aside0.mk (fun (W : World) (h : RdS s w0 w W g a0.2) => show Calls Try.prog 75 #[.pointer (some ⟨g, 0, none⟩)] W fun e w' => e = .returned (.int .i64 (a1.1 : Int)) ∧ RdS s w0 w w' g a1.2 ∧ KeepBut W w' g none from by rw [h1]; exact h.num HS.out)
      have C2 := Aside0.mk (fun (W : World) (h : RdS s w0 w W g a1.2) => show Calls Try.prog 75 #[.pointer (some ⟨g, 0, none⟩)] W fun e w' => e = .returned (.int .i64 (a2.1 : Int)) ∧ RdS s w0 w w' g a2.2 ∧ KeepBut W w' g none from by rw [h2]; exact h.num HS.out)
      have C3 := Aside0.mk (fun (W : World) (h : RdS s w0 w W g a2.2) => show Calls Try.prog 75 #[.pointer (some ⟨g, 0, none⟩)] W fun e w' => e = .returned (.int .i64 (a3.1 : Int)) ∧ RdS s w0 w w' g a3.2 ∧ KeepBut W w' g none from by rw [h3]; exact h.num HS.out)
      have C4 := Aside0.mk (fun (W : World) (h : RdS s w0 w W g a3.2) => show Calls Try.prog 75 #[.pointer (some ⟨g, 0, none⟩)] W fun e w' => e = .returned (.int .i64 (a4.1 : Int)) ∧ RdS s w0 w w' g a4.2 ∧ KeepBut W w' g none from by rw [h4]; exact h.num HS.out)
      have C5 := Aside0.mk (fun (W : World) (h : RdS s w0 w W g a4.2) => show Calls Try.prog 75 #[.pointer (some ⟨g, 0, none⟩)] W fun e w' => e = .returned (.int .i64 (a5.1 : Int)) ∧ RdS s w0 w w' g a5.2 ∧ KeepBut W w' g none from by rw [h5]; exact h.num HS.out)
      have C6 := Aside0.mk (fun (W : World) (h : RdS s w0 w W g a5.2) => show Calls Try.prog 75 #[.pointer (some ⟨g, 0, none⟩)] W fun e w' => e = .returned (.int .i64 (a6.1 : Int)) ∧ RdS s w0 w w' g a6.2 ∧ KeepBut W w' g none from by rw [h6]; exact h.num HS.out)
      have CT := Aside0.mk (fun (W : World) (h : RdS s w0 w W g a6.2) => show Calls Try.prog 77 #[.pointer (some ⟨g, 0, none⟩)] W fun e w' => e = .returned (.string t.1) ∧ RdS s w0 w w' g t.2 ∧ KeepBut W w' g none from by rw [ht]; exact h.piece HS.out)
      have CN := Aside0.mk (fun (W : World) (h : RdS s w0 w W g t.2) => show Calls Try.prog 76 #[.pointer (some ⟨g, 0, none⟩), .int .i64 12] W fun e w' => e = .returned (.int .i64 (n.1 : Int)) ∧ RdS s w0 w w' g n.2 ∧ KeepBut W w' g none from by rw [hn]; exact h.many HS.out 12)
      have HE := Aside0.mk hE
      clear h0 h1 h2 h3 h4 h5 h6 ht hn hE
      go_wp2_with (first | (go_at_call 75; (with_reducible refine (C0.out _ V.out.r).mono ?_); rintro e x0 ⟨rfl, hR, hk⟩; have n0_ := Aside0.mk (V.out.call hR hk); clear V C0 hR hk; have V := n0_; clear n0_) | ((with_reducible refine gate_dst (N := 4) rfl ?_); refine box_event ?hg (N := 4) ?hd (cs := #[.int .i64 0, .int .i64 0, .int .i64 0, .int .i64 0, .int .i64 0, .string (⟨#[]⟩ : ByteArray), .slice none 0 0, .int .i64 0, .int .i64 0]) (t := 45) ?hr ?_; (case hd => rfl); (case hg => rfl); (case hr => first | (go_simp; done) | (go_simp; rfl)); intro gi hg x1 hbox hb; have n0_ := Aside0.mk hbox; have n1_ := Aside0.mk hg; have n2_ := Aside0.mk hb; have hz0 : x1.cell? ⟨gi, 0, none⟩ = some (.int .i64 0) := (blk_cell hbox 0).trans rfl; have hzf0 := blk_frozen hbox 0; have hz1 : x1.cell? ⟨gi, 1, none⟩ = some (.int .i64 0) := (blk_cell hbox 1).trans rfl; have hzf1 := blk_frozen hbox 1; have hz2 : x1.cell? ⟨gi, 2, none⟩ = some (.int .i64 0) := (blk_cell hbox 2).trans rfl; have hzf2 := blk_frozen hbox 2; have hz3 : x1.cell? ⟨gi, 3, none⟩ = some (.int .i64 0) := (blk_cell hbox 3).trans rfl; have hzf3 := blk_frozen hbox 3; have hz4 : x1.cell? ⟨gi, 4, none⟩ = some (.int .i64 0) := (blk_cell hbox 4).trans rfl; have hzf4 := blk_frozen hbox 4; have hz5 : x1.cell? ⟨gi, 5, none⟩ = some (.string (⟨#[]⟩ : ByteArray)) := (blk_cell hbox 5).trans rfl; have hzf5 := blk_frozen hbox 5; have hz6 : x1.cell? ⟨gi, 6, none⟩ = some (.slice none 0 0) := (blk_cell hbox 6).trans rfl; have hzf6 := blk_frozen hbox 6; have hz7 : x1.cell? ⟨gi, 7, none⟩ = some (.int .i64 0) := (blk_cell hbox 7).trans rfl; have hzf7 := blk_frozen hbox 7; have hz8 : x1.cell? ⟨gi, 8, none⟩ = some (.int .i64 0) := (blk_cell hbox 8).trans rfl; have hzf8 := blk_frozen hbox 8; clear hg hb hbox) | ((with_reducible refine gate_store (t := 45) (p := 4) rfl ?_); refine store_event (t := 45) (p := 4) (v := ?vo4) (w1 := (World.setCell (World.setCell (World.setCell (World.setCell (World.setCell (World.setCell (World.setCell (World.setCell (World.setCell x1 ⟨gi, 0, none⟩ (.int .i64 (a0.1 : Int))) ⟨gi, 1, none⟩ (.int .i64 0)) ⟨gi, 2, none⟩ (.int .i64 0)) ⟨gi, 3, none⟩ (.int .i64 0)) ⟨gi, 4, none⟩ (.int .i64 0)) ⟨gi, 5, none⟩ (.string (⟨#[]⟩ : ByteArray))) ⟨gi, 6, none⟩ (.slice none 0 0)) ⟨gi, 7, none⟩ (.int .i64 0)) ⟨gi, 8, none⟩ (.int .i64 0))) ?hg ?ho ?hn ?hr ?_; (case ho => rfl); (case hg => rfl); (case hn => rfl); (case hr => first | (go_simp; done) | (go_simp; rfl)); intro x2 hw; have m0_ := box45 n1_.out n2_.out n0_.out (.int .i64 (a0.1 : Int)) (.int .i64 0) (.int .i64 0) (.int .i64 0) (.int .i64 0) (.string (⟨#[]⟩ : ByteArray)) (.slice none 0 0) (.int .i64 0) (.int .i64 0); rw [← hw] at m0_; have GI := Aside0.mk (Nat.le_trans V.out.r.hk.1 (Nat.le_of_eq n1_.out.symm) : w.heap.size ≤ gi); have m1_ := Aside0.mk (V.out.boxed n1_.out m0_.2); have BI := Aside0.mk m0_.1; clear V n0_ n1_ n2_ hz0 hzf0 hz1 hzf1 hz2 hzf2 hz3 hzf3 hz4 hzf4 hz5 hzf5 hz6 hzf6 hz7 hzf7 hz8 hzf8 hw m0_; have V := m1_; clear m1_) | (go_at_call 75; (with_reducible refine (C1.out _ V.out.r).mono ?_); rintro e y1 ⟨rfl, hR, hk⟩; have n0_ := Aside0.mk (V.out.call hR hk); have n1_ := Aside0.mk (hk.blk BI.out (by have := GI.out; have := HG.out; omega) (by simp)); clear V BI C1 hR hk; have V := n0_; have BI := n1_; clear n0_ n1_; have hs1 : y1.cell? ⟨gi, 1, none⟩ = some (.int .i64 0) := (blk_cell BI.out 1).trans rfl; have hfs1 := blk_frozen BI.out 1) | (go_at_call 75; (with_reducible refine (C2.out _ (V.out.put BI.out (by decide) GI.out (fun k hk => hk.2) 1 _).r).mono ?_); rintro e y2 ⟨rfl, hR, hk⟩; have n0_ := Aside0.mk ((V.out.put BI.out (by decide) GI.out (fun k hk => hk.2) 1 _).call hR hk); have n1_ := Aside0.mk (hk.blk (blk_put BI.out 1 _ rfl) (by have := GI.out; have := HG.out; omega) (by simp)); clear V BI C2 hR hk; have V := n0_; have BI := n1_; clear n0_ n1_; have hs2 : y2.cell? ⟨gi, 2, none⟩ = some (.int .i64 0) := (blk_cell BI.out 2).trans rfl; have hfs2 := blk_frozen BI.out 2) | (go_at_call 75; (with_reducible refine (C3.out _ (V.out.put BI.out (by decide) GI.out (fun k hk => hk.2) 2 _).r).mono ?_); rintro e y3 ⟨rfl, hR, hk⟩; have n0_ := Aside0.mk ((V.out.put BI.out (by decide) GI.out (fun k hk => hk.2) 2 _).call hR hk); have n1_ := Aside0.mk (hk.blk (blk_put BI.out 2 _ rfl) (by have := GI.out; have := HG.out; omega) (by simp)); clear V BI C3 hR hk; have V := n0_; have BI := n1_; clear n0_ n1_; have hs3 : y3.cell? ⟨gi, 3, none⟩ = some (.int .i64 0) := (blk_cell BI.out 3).trans rfl; have hfs3 := blk_frozen BI.out 3) | (go_at_call 75; (with_reducible refine (C4.out _ (V.out.put BI.out (by decide) GI.out (fun k hk => hk.2) 3 _).r).mono ?_); rintro e y4 ⟨rfl, hR, hk⟩; have n0_ := Aside0.mk ((V.out.put BI.out (by decide) GI.out (fun k hk => hk.2) 3 _).call hR hk); have n1_ := Aside0.mk (hk.blk (blk_put BI.out 3 _ rfl) (by have := GI.out; have := HG.out; omega) (by simp)); clear V BI C4 hR hk; have V := n0_; have BI := n1_; clear n0_ n1_; have hs4 : y4.cell? ⟨gi, 4, none⟩ = some (.int .i64 0) := (blk_cell BI.out 4).trans rfl; have hfs4 := blk_frozen BI.out 4) | (go_at_call 75; (with_reducible refine (C5.out _ (V.out.put BI.out (by decide) GI.out (fun k hk => hk.2) 4 _).r).mono ?_); rintro e y5 ⟨rfl, hR, hk⟩; have n0_ := Aside0.mk ((V.out.put BI.out (by decide) GI.out (fun k hk => hk.2) 4 _).call hR hk); have n1_ := Aside0.mk (hk.blk (blk_put BI.out 4 _ rfl) (by have := GI.out; have := HG.out; omega) (by simp)); clear V BI C5 hR hk; have V := n0_; have BI := n1_; clear n0_ n1_; have hs7 : y5.cell? ⟨gi, 7, none⟩ = some (.int .i64 0) := (blk_cell BI.out 7).trans rfl; have hfs7 := blk_frozen BI.out 7) | (go_at_call 75; (with_reducible refine (C6.out _ (V.out.put BI.out (by decide) GI.out (fun k hk => hk.2) 7 _).r).mono ?_); rintro e y6 ⟨rfl, hR, hk⟩; have n0_ := Aside0.mk ((V.out.put BI.out (by decide) GI.out (fun k hk => hk.2) 7 _).call hR hk); have n1_ := Aside0.mk (hk.blk (blk_put BI.out 7 _ rfl) (by have := GI.out; have := HG.out; omega) (by simp)); clear V BI C6 hR hk; have V := n0_; have BI := n1_; clear n0_ n1_; have hs8 : y6.cell? ⟨gi, 8, none⟩ = some (.int .i64 0) := (blk_cell BI.out 8).trans rfl; have hfs8 := blk_frozen BI.out 8) | (go_at_call 77; (with_reducible refine (CT.out _ (V.out.put BI.out (by decide) GI.out (fun k hk => hk.2) 8 _).r).mono ?_); rintro e y7 ⟨rfl, hR, hk⟩; have n0_ := Aside0.mk ((V.out.put BI.out (by decide) GI.out (fun k hk => hk.2) 8 _).call hR hk); have n1_ := Aside0.mk (hk.blk (blk_put BI.out 8 _ rfl) (by have := GI.out; have := HG.out; omega) (by simp)); clear V BI CT hR hk; have V := n0_; have BI := n1_; clear n0_ n1_; have hs5 : y7.cell? ⟨gi, 5, none⟩ = some (.string (⟨#[]⟩ : ByteArray)) := (blk_cell BI.out 5).trans rfl; have hfs5 := blk_frozen BI.out 5) | (go_at_call 76; (with_reducible refine (CN.out _ (V.out.put BI.out (by decide) GI.out (fun k hk => hk.2) 5 _).r).mono ?_); rintro e y8 ⟨rfl, hR, hk⟩; have n0_ := Aside0.mk ((V.out.put BI.out (by decide) GI.out (fun k hk => hk.2) 5 _).call hR hk); have n1_ := Aside0.mk (hk.blk (blk_put BI.out 5 _ rfl) (by have := GI.out; have := HG.out; omega) (by simp)); clear V BI CN hR hk; have V := n0_; have BI := n1_; clear n0_ n1_))
      go_loopg [39] n.1 (fun kq v39 w' => ∃ (j : Nat) (o' : Option Nat) (v6 : Value) (ds : List S68), v39 = .int .i64 (j : Int) ∧ Aside0 (j + kq = n.1 ∧ ds.length = j ∧ pdirs s kq o' ds = E) ∧ Aside0 (VS s w0 w w' g o' g2 gv (a.1 : Int) (.slice AV acc.length cV) acc (fun k => k ≠ gi ∧ some k ≠ v6.ownBlock)) ∧ Aside0 (Kd.R k68 68 w' w.heap.size (fun _ => True) v6 ds) ∧ Aside0 (w'.heap[gi]? = some (.cells #[.int .i64 (a0.1 : Int), .int .i64 (a1.1 : Int), .int .i64 (a2.1 : Int), .int .i64 (a3.1 : Int), .int .i64 (a4.1 : Int), .string t.1, v6, .int .i64 (a5.1 : Int), .int .i64 (a6.1 : Int)] 45 (0, 0))))
      case atStart => exact ⟨0, n.2, .slice none 0 0, [], rfl, ⟨by omega, rfl, HE.out.symm⟩, ⟨V.out.weak (fun k hk _ => ⟨hk.2, by simp [Value.ownBlock]⟩)⟩, ⟨Kd.R_nil _ _ _ _ _⟩, BI⟩
      case round =>
        clear V BI HE
        obtain ⟨j, o', v6, ds, rfl, HY, V, DS, BI⟩ := hrel
        obtain ⟨A6, c6, e6⟩ := Kd.R_slice DS.out
        subst e6
      
        by_cases hltj : j < n.1
        · cases gk with
          | zero => have := HY.out.1; omega
          | succ k2 =>
          obtain ⟨b, hb_⟩ : ∃ x, x = ptake s o' := ⟨_, rfl⟩
          obtain ⟨e, he_⟩ : ∃ x, x = pnum (bytesOf s) b.2 := ⟨_, rfl⟩
          have HPE := Aside0.mk (show pdirs s k2 e.2 (ds ++ [(⟨b.1, (e.1 : Int)⟩ : S68)]) = E from by rw [he_, hb_]; have := HY.out.2.2; rwa [pdirs] at this)
          have CB := Aside0.mk (fun (W : World) (h : RdS s w0 w W g o') => show Calls Try.prog 77 #[.pointer (some ⟨g, 0, none⟩)] W fun e w' => e = .returned (.string b.1) ∧ RdS s w0 w w' g b.2 ∧ KeepBut W w' g none from by rw [hb_]; exact h.piece HS.out)
          have CE := Aside0.mk (fun (W : World) (h : RdS s w0 w W g b.2) => show Calls Try.prog 75 #[.pointer (some ⟨g, 0, none⟩)] W fun z w' => z = .returned (.int .i64 (e.1 : Int)) ∧ RdS s w0 w w' g e.2 ∧ KeepBut W w' g none from by rw [he_]; exact h.num HS.out)
          have hdl : ds.length ≤ 12 := by have := HY.out; omega
          have HDL := Aside0.mk hdl
          clear hb_ he_ hdl
          go_wp2_with (first | (go_at_call 77; (with_reducible refine (CB.out _ V.out.r).mono ?_); rintro e_ z0 ⟨rfl, hR, hk⟩; have n0_ := Aside0.mk (V.out.call hR hk); have n1_ := Aside0.mk (hk.blk BI.out (by have := GI.out; have := HG.out; omega) (by simp)); have n2_ := Aside0.mk (Kd.R_keep (Kd.R_bound DS.out) hk (fun k hk => by have := hk.2.1; have := HG.out; omega)); clear V BI DS CB hR hk; have V := n0_; have BI := n1_; have DS := n2_; clear n0_ n1_ n2_) | ((with_reducible refine gate_dst (N := 5) rfl ?_); refine box_event ?hg (N := 5) ?hd (cs := #[.string (⟨#[]⟩ : ByteArray), .int .i64 0]) (t := 68) ?hr ?_; (case hd => rfl); (case hg => rfl); (case hr => first | (go_simp; done) | (go_simp; rfl)); intro gd hg z1 hbox hb; have n0_ := Aside0.mk hbox; have n1_ := Aside0.mk hg; have n2_ := Aside0.mk hb; have hz0 : z1.cell? ⟨gd, 0, none⟩ = some (.string (⟨#[]⟩ : ByteArray)) := (blk_cell hbox 0).trans rfl; have hzf0 := blk_frozen hbox 0; have hz1 : z1.cell? ⟨gd, 1, none⟩ = some (.int .i64 0) := (blk_cell hbox 1).trans rfl; have hzf1 := blk_frozen hbox 1; clear hg hb hbox) | ((with_reducible refine gate_store (t := 68) (p := 5) rfl ?_); refine store_event (t := 68) (p := 5) (v := ?vo5) (w1 := (World.setCell (World.setCell z1 ⟨gd, 0, none⟩ (.string b.1)) ⟨gd, 1, none⟩ (.int .i64 0))) ?hg ?ho ?hn ?hr ?_; (case ho => rfl); (case hg => rfl); (case hn => rfl); (case hr => first | (go_simp; done) | (go_simp; rfl)); intro z2 hw; have m0_ := box68 n1_.out n2_.out n0_.out (.string b.1) (.int .i64 0); rw [← hw] at m0_; have GD := Aside0.mk (Nat.le_trans V.out.r.hk.1 (Nat.le_of_eq n1_.out.symm) : w.heap.size ≤ gd); have NID := Aside0.mk (show gi ≠ gd from by have := blk_lt BI.out; have := n1_.out; omega); have m1_ := Aside0.mk (V.out.boxed n1_.out m0_.2); have m2_ := Aside0.mk (blk_below BI.out m0_.2); have m3_ := Aside0.mk (Kd.R_below (Kd.R_mono (Kd.R_bound DS.out) (fun k hk => (show k ≠ gd from by have := hk.2.2.1; have := n1_.out; omega))) m0_.2); have BD := Aside0.mk m0_.1; clear V BI DS n0_ n1_ n2_ hz0 hz1 hzf0 hzf1 hw m0_; have V := m1_; have BI := m2_; have DS := m3_; clear m1_ m2_ m3_) | (go_at_call 75; (with_reducible refine (CE.out _ V.out.r).mono ?_); rintro e_ z3 ⟨rfl, hR, hk⟩; have n0_ := Aside0.mk (V.out.call hR hk); have n1_ := Aside0.mk (hk.blk BI.out (by have := GI.out; have := HG.out; omega) (by simp)); have n2_ := Aside0.mk (Kd.R_mono (Kd.R_keep (Kd.R_bound DS.out) hk (fun k hk => by have := hk.2.1; have := HG.out; omega)) (fun k hk => hk.1)); have n3_ := Aside0.mk (hk.blk BD.out (by have := GD.out; have := HG.out; omega) (by simp)); clear V BI DS BD CE hR hk; have V := n0_; have BI := n1_; have DS := n2_; have BD := n3_; clear n0_ n1_ n2_ n3_; have hs0 : z3.cell? ⟨gd, 0, none⟩ = some (.string b.1) := (blk_cell BD.out 0).trans rfl; have hs1 : z3.cell? ⟨gd, 1, none⟩ = some (.int .i64 0) := (blk_cell BD.out 1).trans rfl; have hfs1 := blk_frozen BD.out 1; have hs6 : z3.cell? ⟨gi, 6, none⟩ = some (.slice A6 ds.length c6) := (blk_cell BI.out 6).trans rfl; have hn1_ := NID.out; have hn2_ := NID.out.symm) | ((with_reducible refine gate_builtin (b := .append) (xs := #[.tmp 48, .tmp 50]) rfl ?_); at_builtin; refine Kd.R_append k68 w.heap.size rfl (.tmp 48) (.tmp 50) 43 68 (.agg #[(.string ⟨#[]⟩), (.int .i64 0)]) 24 rfl Try.underlying43 info68 rfl (by decide) (by omega) (.slice A6 ds.length c6) ds (⟨b.1, (e.1 : Int)⟩ : S68) [.string b.1, .int .i64 (e.1 : Int)] (fun _ => True) (fun _ => False) rfl (by first | rfl | (go_simp; done) | (go_simp; rfl)) ?aP (fun _ hk => hk.elim) ?aF ?aO (Below.refl _ _) ?aS ?aL ?_; (case aP => exact k68_mkM _ _ _ (⟨b.1, (e.1 : Int)⟩ : S68)); (case aF => exact (fun _ _ => trivial)); (case aO => exact (Kd.R_mono (ok' := fun _ => True) (Kd.R_far (p := ⟨gd, 1, none⟩) DS.out (fun _ hk => hk) (.int .i64 (e.1 : Int))) (fun _ _ => trivial))); (case aS => exact (V.out.put BD.out (by decide) GD.out (fun k hk => hk.2) 1 (.int .i64 (e.1 : Int))).r.hk.1); (case aL => have := HDL.out; omega); intro v7 z4 ho hb hg hat; have n0_ := Aside0.mk (VS.grownR (P := fun k => k ≠ gi) (v6' := v7) ((V.out.put BD.out (by decide) GD.out (fun k hk => hk.2) 1 (.int .i64 (e.1 : Int))).weak (fun k hk _ => hk.1)) (Kd.R_mono (ok' := fun _ => True) (Kd.R_far (p := ⟨gd, 1, none⟩) DS.out (fun _ hk => hk) (.int .i64 (e.1 : Int))) (fun _ _ => trivial)) hg hat); have n1_ := Aside0.mk (blk_grown (blk_far (p := ⟨gd, 1, none⟩) BI.out NID.out (.int .i64 (e.1 : Int))) hg (Kd.R_ne (Kd.R_mono (ok' := fun _ => True) (Kd.R_far (p := ⟨gd, 1, none⟩) DS.out (fun _ hk => hk) (.int .i64 (e.1 : Int))) (fun _ _ => trivial)) (blk_far (p := ⟨gd, 1, none⟩) BI.out NID.out (.int .i64 (e.1 : Int))) (by decide))); clear V BI DS BD hs0 hs1 hfs1 hs6 hb hg hat; have V := n0_; have BI := n1_; have DS := Aside0.mk ho; clear n0_ n1_ ho; obtain ⟨A7, c7, e7⟩ := Kd.R_slice DS.out; subst e7; simp only [List.length_append, List.length_singleton] at DS V; have hs6 : z4.cell? ⟨gi, 6, none⟩ = some (.slice A6 ds.length c6) := (blk_cell BI.out 6).trans rfl; have hfs6 := blk_frozen BI.out 6))
          go_roundg k2
          case measure => omega
          case rel => exact ⟨j + 1, e.2, .slice A7 (ds.length + 1) c7, ds ++ [(⟨b.1, (e.1 : Int)⟩ : S68)], by go_num, ⟨by have := HY.out; omega, by have := HY.out; simp; omega, HPE.out⟩, ⟨V.out.put BI.out (by decide) GI.out (fun k hk => hk.1) 6 _⟩, ⟨Kd.R_mono (Kd.R_far (Kd.R_types DS.out BI.out (by decide)) (fun k hk => hk.2) _) (fun _ _ => trivial)⟩, ⟨blk_put BI.out 6 _ rfl⟩⟩
        · have hlt2 : ¬ (j : Int) < (n.1 : Int) := by omega
          have hgk : gk = 0 := by have := HY.out.1; omega
          subst hgk
          have HEE := Aside0.mk (show E = (ds, o') from HY.out.2.2.symm)
          have hal : acc.length ≤ 24 := by have := HX.out; omega
          have HAL := Aside0.mk hal
          have hv1 : wr.cell? ⟨gv, 1, none⟩ = some (.slice AV acc.length cV) := (blk_cell V.out.bv 1).trans rfl
          have hvf1 := blk_frozen V.out.bv 1
          have hi0 : wr.cell? ⟨gi, 0, none⟩ = some (.int .i64 (a0.1 : Int)) := (blk_cell BI.out 0).trans rfl
          have hi1 : wr.cell? ⟨gi, 1, none⟩ = some (.int .i64 (a1.1 : Int)) := (blk_cell BI.out 1).trans rfl
          have hi2 : wr.cell? ⟨gi, 2, none⟩ = some (.int .i64 (a2.1 : Int)) := (blk_cell BI.out 2).trans rfl
          have hi3 : wr.cell? ⟨gi, 3, none⟩ = some (.int .i64 (a3.1 : Int)) := (blk_cell BI.out 3).trans rfl
          have hi4 : wr.cell? ⟨gi, 4, none⟩ = some (.int .i64 (a4.1 : Int)) := (blk_cell BI.out 4).trans rfl
          have hi5 : wr.cell? ⟨gi, 5, none⟩ = some (.string t.1) := (blk_cell BI.out 5).trans rfl
          have hi6 : wr.cell? ⟨gi, 6, none⟩ = some (.slice A6 ds.length c6) := (blk_cell BI.out 6).trans rfl
          have hi7 : wr.cell? ⟨gi, 7, none⟩ = some (.int .i64 (a5.1 : Int)) := (blk_cell BI.out 7).trans rfl
          have hi8 : wr.cell? ⟨gi, 8, none⟩ = some (.int .i64 (a6.1 : Int)) := (blk_cell BI.out 8).trans rfl
          clear hltj hal
          go_wp2_with (first | ((with_reducible refine gate_builtin (b := .append) (xs := #[.tmp 55, .tmp 57]) rfl ?_); at_builtin; refine Kd.S_append k45 w.heap.size rfl (.tmp 55) (.tmp 57) 27 45 (.agg #[(.int .i64 0), (.int .i64 0), (.int .i64 0), (.int .i64 0), (.int .i64 0), (.string ⟨#[]⟩), (.slice none 0 0), (.int .i64 0), (.int .i64 0)]) 96 rfl Try.underlying27 info45 rfl (by decide) (by omega) (.slice AV acc.length cV) acc (⟨a0.1, a1.1, a2.1, a3.1, a4.1, t.1, ds, a5.1, a6.1⟩ : S45) [.int .i64 (a0.1 : Int), .int .i64 (a1.1 : Int), .int .i64 (a2.1 : Int), .int .i64 (a3.1 : Int), .int .i64 (a4.1 : Int), .string t.1, .slice A6 ds.length c6, .int .i64 (a5.1 : Int), .int .i64 (a6.1 : Int)] (fun _ => True) (fun k_ => some k_ = (.slice A6 ds.length c6 : Value).ownBlock) rfl (by first | rfl | (go_simp; done) | (go_simp; rfl)) ?aP (fun k_ hk_ => ⟨trivial, ((Kd.R_apart' DS.out (Kd.S_typed V.out.sv) (by decide)).1 k_ hk_.symm).2⟩) ?aF ?aO (Below.refl _ _) ?aS ?aL ?_; (case aP => exact k45_mkM _ _ _ (⟨a0.1, a1.1, a2.1, a3.1, a4.1, t.1, ds, a5.1, a6.1⟩ : S45) (Kd.R_mono (Kd.R_tight rfl DS.out) (fun _ h_ => h_))); (case aF => exact (fun _ _ => trivial)); (case aO => exact (Kd.S_mono V.out.sv (fun k hk => ⟨trivial, fun e_ => hk.2 e_⟩))); (case aS => exact V.out.r.hk.1); (case aL => have := HAL.out; omega); intro v7 z5 ho hb hg hat; have G := Aside0.mk (V.out.grownS hg ho); have n0_ := Aside0.mk (And.intro V.out.n2 V.out.nv); have SO := Aside0.mk ho; clear V BI DS hv1 hvf1 hi0 hi1 hi2 hi3 hi4 hi5 hi6 hi7 hi8 ho hb hg hat; have VN := n0_; clear n0_; obtain ⟨A8, c8, e8⟩ := Kd.S_slice SO.out; subst e8; simp only [List.length_append, List.length_singleton] at SO; have hv1 : z5.cell? ⟨gv, 1, none⟩ = some (.slice AV acc.length cV) := (blk_cell G.out.2.2.1 1).trans rfl; have hvf1 := blk_frozen G.out.2.2.1 1))
          go_roundg k1
          case measure => omega
          case rel => exact ⟨i + 1, o', .slice A8 (acc.length + 1) c8, acc ++ [(⟨a0.1, a1.1, a2.1, a3.1, a4.1, t.1, ds, a5.1, a6.1⟩ : S45)], by go_num, ⟨by have := HX.out; omega, by have := HX.out; simp; omega, by have h_ := HP.out; rw [pinos, HPI.out, HEE.out] at h_; exact h_⟩, ⟨⟨G.out.1.put VN.out.2 _, blk_far G.out.2.1 NE.out _, blk_put G.out.2.2.1 1 _ rfl, Kd.S_mono (Kd.S_far (Kd.S_types SO.out G.out.2.2.1 (by decide)) (fun _ hk => hk.2) _) (fun _ _ => trivial), VN.out.1, VN.out.2⟩⟩⟩
    · have hlt2 : ¬ (i : Int) < (c.1 : Int) := by omega
      have hgk : gk = 0 := by have := HX.out.1; omega
      subst hgk
      have HDD := Aside0.mk (show D = (acc, o) from HX.out.2.2.symm)
      have hv0 : wr.cell? ⟨gv, 0, none⟩ = some (.int .i64 (a.1 : Int)) := (blk_cell V.out.bv 0).trans rfl
      have hv1 : wr.cell? ⟨gv, 1, none⟩ = some (.slice AV acc.length cV) := (blk_cell V.out.bv 1).trans rfl
      have hz0 : wr.cell? ⟨g2, 0, none⟩ = some (.int .i64 0) := (blk_cell V.out.b2 0).trans rfl
      have hz1 : wr.cell? ⟨g2, 1, none⟩ = some (.slice none 0 0) := (blk_cell V.out.b2 1).trans rfl
      have hzf0 := blk_frozen V.out.b2 0
      have hzf1 := blk_frozen V.out.b2 1
      have hne1 := NE.out
      have hne2 := NE.out.symm
      clear hlt
      go_wp2_with (first | ((with_reducible refine gate_store (t := 29) (p := 2) rfl ?_); refine store_event (t := 29) (p := 2) (v := ?vo9) (w1 := (World.setCell (World.setCell wr ⟨g2, 0, none⟩ (.int .i64 (a.1 : Int))) ⟨g2, 1, none⟩ (.slice AV acc.length cV))) ?hg ?ho ?hn ?hr ?_; (case ho => rfl); (case hg => rfl); (case hn => rfl); (case hr => first | (go_simp; done) | (go_simp; rfl)); intro z6 hw; have F6 := Aside0.mk hw; clear hw))
      have hr6 : RdS s w0 w z6 g o := by rw [F6.out]; exact (V.out.r.put (p := ⟨g2, 0, none⟩) V.out.n2 _).put (p := ⟨g2, 1, none⟩) V.out.n2 _
      have hg6 : z6.heap[g2]? = some (.cells #[.int .i64 (a.1 : Int), .slice AV acc.length cV] 29 (0, 0)) := by rw [F6.out]; exact blk_put (blk_put V.out.b2 0 _ rfl) 1 _ rfl
      have hs6 : Kd.S k45 45 z6 w.heap.size (fun _ => True) (.slice AV acc.length cV) acc := by
        rw [F6.out]
        exact Kd.S_mono (Kd.S_far (p := ⟨g2, 1, none⟩) (Kd.S_far (p := ⟨g2, 0, none⟩) (Kd.S_types V.out.sv V.out.b2 (by decide)) (fun _ hk => hk.2) _) (fun _ hk => hk.2) _) (fun _ _ => trivial)
      refine bodyPost_ret (results_cell_row rfl _ _ g2 29 #[.int .i64 (a.1 : Int), .slice AV acc.length cV] (0, 0) _ rfl hg6 Try.underlying29 rfl (by kernel_rfl)) rfl ?_
      exact ⟨_, by rw [HV.out], by rw [HV.out, HDD.out]; exact hs6, by rw [HV.out, HDD.out]; exact hr6⟩
/-! ### what a text says: the volume, and whether it is one -/
theorem boxed2 {W1 wB : World} {b g : Nat} {P : Nat → Prop} {v : Value} {l : List S45} {nx : Int} {x y : Value} (hS : Kd.S k45 45 W1 b P v l) (hg : g = W1.heap.size) (hB : Below W1.heap.size W1 wB) (hbox : wB.heap[g]? = some (.cells #[x, y] 29 (0, 0))) :
    Kd.S k45 45 ((wB.setCell ⟨g, 0, none⟩ (.int .i64 nx)).setCell ⟨g, 1, none⟩ v) b P v l ∧ ((wB.setCell ⟨g, 0, none⟩ (.int .i64 nx)).setCell ⟨g, 1, none⟩ v).heap[g]? = some (.cells #[.int .i64 nx, v] 29 (0, 0)) ∧ Below W1.heap.size W1 ((wB.setCell ⟨g, 0, none⟩ (.int .i64 nx)).setCell ⟨g, 1, none⟩ v) := by
  have h2 : Below W1.heap.size W1 ((wB.setCell ⟨g, 0, none⟩ (.int .i64 nx)).setCell ⟨g, 1, none⟩ v) := below_set (below_set hB (by omega)) (by omega)
  exact ⟨Kd.S_below hS h2, blk_put (blk_put hbox 0 _ rfl) 1 _ rfl, h2⟩
def readVolN (s : ByteArray) : Int × List S45 × Bool := if (pvol s).2 = some s.size ∧ volOkB (pvol s).1.1 (pvol s).1.2 = true then ((pvol s).1.1, (pvol s).1.2, true) else (0, [], false)
set_option maxHeartbeats 4000000 in
set_option maxRecDepth 100000 in
theorem readVolI_any (s : ByteArray) (hs : s.size ≤ 1048576) (w : World) :
    Calls Try.prog 23 #[.string s] w fun e w' => ∃ v, e = .returned (.tuple #[.agg #[.int .i64 (readVolN s).1, v], .bool (readVolN s).2.2]) ∧ Kd.S k45 45 w' w.heap.size (fun _ => True) v (readVolN s).2.1 ∧ Below w.heap.size w w' := by
  have hsm := pvol_small s
  have hu29 := Try.underlying29
  have HB := Aside0.mk (Below.refl w.heap.size w)
  have CV := Aside0.mk (fun (W : World) (g : Nat) (hI : IsS75 w W g s false) (hb : Below w.heap.size w W) => readerVol_any s (by omega) g w W hI hb)
  have CO := Aside0.mk (fun (W : World) (A : Option Addr) (c : Nat) (hr : Kd.C k45 W A (pvol s).1.2.length (pvol s).1.2) (hc : (pvol s).1.2.length ≤ c) => volOkI_any (pvol s).1.1 A c (pvol s).1.2 W hr hc ⟨hsm.1, fun x hx => ⟨(hsm.2 x hx).1, Nat.le_trans (hsm.2 x hx).2.1 hs, fun d hd => Nat.le_trans ((hsm.2 x hx).2.2 d hd) hs⟩⟩)
  have HN := Aside0.mk (show readVolN s = if (pvol s).2 = some s.size ∧ volOkB (pvol s).1.1 (pvol s).1.2 = true then ((pvol s).1.1, (pvol s).1.2, true) else (0, [], false) from rfl)
  generalize readVolN s = R at HN ⊢
  generalize pvol s = q at CV CO HN
  obtain ⟨⟨nx, l⟩, o⟩ := q
  simp only at CV CO HN
  clear hsm
  go_enter Try.func23, Try.ntmps23
  go_upto_region 3 with (first | ((with_reducible refine gate_dst (N := 2) rfl ?_); refine box_event ?hg (N := 2) ?hd (cs := #[.int .i64 0, .slice none 0 0]) (t := 29) ?hr ?_; (case hd => rfl); (case hg => rfl); (case hr => first | (go_simp; done) | (go_simp; rfl)); intro g2 hg w2 hbox hb; have B2 := Aside0.mk hbox; have G2 := Aside0.mk (by rw [hg]; exact Nat.le_refl _ : w.heap.size ≤ g2); have n0_ := Aside0.mk (below_step HB.out hb); clear HB; have HB := n0_; clear n0_ hg hb hbox) | (go_at_call 57; refine (CV.out _ _ (IsS75.new w w2 s false HB.out) (below_alloc HB.out _)).mono ?_; rintro e w3 ⟨v, rfl, hS, hR⟩; obtain ⟨rest, bad, hI, hst⟩ := hR.rd; have hb := hR.hb; have hk := hR.hk; obtain ⟨A, c, rfl⟩ := Kd.S_slice hS; have n0_ := Aside0.mk (hk.blk (blk_alloc B2.out _) (Nat.ne_of_lt (blk_lt B2.out)) (by simp)); have S3 := Aside0.mk (Kd.S_lower hS (below_size (below_alloc HB.out _))); have I3 := Aside0.mk hI; have ST := Aside0.mk hst; clear B2 HB CV; have B2 := n0_; have HB := Aside0.mk hb; clear n0_ hS hI hst hb hk hR) | ((with_reducible refine gate_dst (N := 5) rfl ?_); refine box_event ?hg (N := 5) ?hd (cs := #[.int .i64 0, .slice none 0 0]) (t := 29) ?hr ?_; (case hd => rfl); (case hg => rfl); (case hr => first | (go_simp; done) | (go_simp; rfl)); intro g5 hg w4 hbox hb; have n0_ := Aside0.mk hbox; have n1_ := Aside0.mk hg; have n2_ := Aside0.mk hb; have hz0 : w4.cell? ⟨g5, 0, none⟩ = some (.int .i64 0) := (blk_cell hbox 0).trans rfl; have hzf0 := blk_frozen hbox 0; have hz1 : w4.cell? ⟨g5, 1, none⟩ = some (.slice none 0 0) := (blk_cell hbox 1).trans rfl; have hzf1 := blk_frozen hbox 1; clear hg hb hbox) | ((with_reducible refine gate_store (t := 29) (p := 5) rfl ?_); refine store_event (t := 29) (p := 5) (v := ?vo1) (w1 := (World.setCell (World.setCell w4 ⟨g5, 0, none⟩ (.int .i64 nx)) ⟨g5, 1, none⟩ (.slice A l.length c))) ?hg ?ho ?hn ?hr ?_; (case ho => rfl); (case hg => rfl); (case hn => rfl); (case hr => first | (go_simp; done) | (go_simp; rfl)); intro W5 hw; have m0_ := boxed2 (nx := nx) S3.out n1_.out n2_.out n0_.out; rw [← hw] at m0_; have m1_ := Aside0.mk (I3.out.below m0_.2.2); have m2_ := Aside0.mk (blk_below B2.out m0_.2.2); have m3_ := Aside0.mk (below_then HB.out HB.out.size m0_.2.2); have S5 := Aside0.mk m0_.1; have B5 := Aside0.mk m0_.2.1; have NE := Aside0.mk (Nat.ne_of_lt (by rw [n1_.out]; exact blk_lt B2.out) : g2 ≠ g5); have NG := Aside0.mk (show g2 ≠ w2.heap.size from fun e => I3.out.ne_blk B2.out (by decide) e.symm); clear I3 B2 HB S3 hz0 hz1 hzf0 hzf1 hw m0_ n0_ n1_ n2_; have I5 := m1_; have B2 := m2_; have HB := m3_; clear m1_ m2_ m3_))
  have r0 : W5.cell? ⟨w2.heap.size, 0, none⟩ = some (.string rest) := (blk_cell I5.out.1 0).trans rfl
  have r1 : W5.cell? ⟨w2.heap.size, 1, none⟩ = some (.bool bad) := (blk_cell I5.out.1 1).trans rfl
  have c0 : W5.cell? ⟨g5, 0, none⟩ = some (.int .i64 nx) := (blk_cell B5.out 0).trans rfl
  have c1 : W5.cell? ⟨g5, 1, none⟩ = some (.slice A l.length c) := (blk_cell B5.out 1).trans rfl
  have z0 : W5.cell? ⟨g2, 0, none⟩ = some (.int .i64 0) := (blk_cell B2.out 0).trans rfl
  have zf0 := blk_frozen B2.out 0
  have z1 : W5.cell? ⟨g2, 1, none⟩ = some (.slice none 0 0) := (blk_cell B2.out 1).trans rfl
  have zf1 := blk_frozen B2.out 1
  cases o with
  | none =>
    obtain ⟨rfl, _⟩ := ST.out
    have HR := Aside0.mk (show R = (0, [], false) from by rw [HN.out, if_neg (by simp)])
    clear ST CO HN
    go_wp2_with (first | ((with_reducible refine gate_store (t := 29) (p := 2) rfl ?_); refine store_event (t := 29) (p := 2) (v := ?vo6) (w1 := (World.setCell (World.setCell W5 ⟨g2, 0, none⟩ (.int .i64 0)) ⟨g2, 1, none⟩ (.slice none 0 0))) ?hg ?ho ?hn ?hr ?_; (case ho => rfl); (case hg => rfl); (case hn => rfl); (case hr => first | (go_simp; done) | (go_simp; rfl)); intro W6 hw; have F6 := Aside0.mk hw; clear hw))
    have hb6 : Below w.heap.size w W6 := by rw [F6.out]; exact below_set (below_set HB.out G2.out) G2.out
    have hg6 : W6.heap[g2]? = some (.cells #[.int .i64 0, .slice none 0 0] 29 (0, 0)) := by rw [F6.out]; exact blk_put (blk_put B2.out 0 _ rfl) 1 _ rfl
    refine bodyPost_ret (results_ct rfl _ _ g2 29 #[.int .i64 0, .slice none 0 0] (0, 0) _ rfl hg6 Try.underlying29 rfl (by kernel_rfl)) rfl ?_
    exact ⟨_, by rw [HR.out]; rfl, by rw [HR.out]; exact Kd.S_nil _ _ _ _ _, hb6⟩
  | some q =>
    obtain ⟨hq, hrest, rfl⟩ := ST.out
    by_cases hqs : q = s.size
    · have e1 : rest.toList = [] := by rw [hrest, toList_iff, extract_bytes, List.drop_of_length_le (by rw [bytesOf_length]; omega)]; rfl
      have e2 : (rest.toList == ([] : List UInt8)) = true := by rw [e1]; rfl
      have e3 : rest = ⟨#[]⟩ := toList_eq_iff.1 (e1.trans (by rw [ByteArray.toList_eq]))
      subst e3
      have hCO := CO.out W5 A c (Kd.S_reads' S5.out).2.2 (Kd.S_reads' S5.out).2.1
      clear CO ST e1 e2 hrest
      cases hv : volOkB nx l with
      | false =>
        rw [hv] at hCO
        have HR := Aside0.mk (show R = (0, [], false) from by rw [HN.out, if_neg (by rw [hv]; simp)])
        have CO := Aside0.mk hCO
        clear hCO HN
        go_wp2_with (first | (go_at_call 12; (with_reducible refine CO.out.mono ?_); rintro e W7 ⟨rfl, hb⟩; have m1_ := Aside0.mk (blk_below B2.out hb); have m2_ := Aside0.mk (below_then HB.out HB.out.size hb); have m3_ := Aside0.mk (blk_below B5.out hb); have m4_ := Aside0.mk (Kd.S_below S5.out hb); clear B2 HB B5 S5 CO z0 z1 zf0 zf1 c0 c1 r0 r1 hb; have B2 := m1_; have HB := m2_; have B5 := m3_; have S5 := m4_; clear m1_ m2_ m3_ m4_; have z0 : W7.cell? ⟨g2, 0, none⟩ = some (.int .i64 0) := (blk_cell B2.out 0).trans rfl; have zf0 := blk_frozen B2.out 0; have z1 : W7.cell? ⟨g2, 1, none⟩ = some (.slice none 0 0) := (blk_cell B2.out 1).trans rfl; have zf1 := blk_frozen B2.out 1; have c0 : W7.cell? ⟨g5, 0, none⟩ = some (.int .i64 nx) := (blk_cell B5.out 0).trans rfl; have c1 : W7.cell? ⟨g5, 1, none⟩ = some (.slice A l.length c) := (blk_cell B5.out 1).trans rfl) | ((with_reducible refine gate_store (t := 29) (p := 2) rfl ?_); refine store_event (t := 29) (p := 2) (v := ?vo6) (w1 := (World.setCell (World.setCell W7 ⟨g2, 0, none⟩ (.int .i64 0)) ⟨g2, 1, none⟩ (.slice none 0 0))) ?hg ?ho ?hn ?hr ?_; (case ho => rfl); (case hg => rfl); (case hn => rfl); (case hr => first | (go_simp; done) | (go_simp; rfl)); intro W6 hw; have F6 := Aside0.mk hw; clear hw))
        have hb6 : Below w.heap.size w W6 := by rw [F6.out]; exact below_set (below_set HB.out G2.out) G2.out
        have hg6 : W6.heap[g2]? = some (.cells #[.int .i64 0, .slice none 0 0] 29 (0, 0)) := by rw [F6.out]; exact blk_put (blk_put B2.out 0 _ rfl) 1 _ rfl
        refine bodyPost_ret (results_ct rfl _ _ g2 29 #[.int .i64 0, .slice none 0 0] (0, 0) _ rfl hg6 Try.underlying29 rfl (by kernel_rfl)) rfl ?_
        exact ⟨_, by rw [HR.out]; rfl, by rw [HR.out]; exact Kd.S_nil _ _ _ _ _, hb6⟩
      | true =>
        rw [hv] at hCO
        have HR := Aside0.mk (show R = (nx, l, true) from by rw [HN.out, if_pos ⟨by rw [hqs], hv⟩])
        have CO := Aside0.mk hCO
        have h25 := NE.out
        clear hCO HN
        go_wp2_with (first | (go_at_call 12; (with_reducible refine CO.out.mono ?_); rintro e W7 ⟨rfl, hb⟩; have m1_ := Aside0.mk (blk_below B2.out hb); have m2_ := Aside0.mk (below_then HB.out HB.out.size hb); have m3_ := Aside0.mk (blk_below B5.out hb); have m4_ := Aside0.mk (Kd.S_below S5.out hb); clear B2 HB B5 S5 CO z0 z1 zf0 zf1 c0 c1 r0 r1 hb; have B2 := m1_; have HB := m2_; have B5 := m3_; have S5 := m4_; clear m1_ m2_ m3_ m4_; have z0 : W7.cell? ⟨g2, 0, none⟩ = some (.int .i64 0) := (blk_cell B2.out 0).trans rfl; have zf0 := blk_frozen B2.out 0; have z1 : W7.cell? ⟨g2, 1, none⟩ = some (.slice none 0 0) := (blk_cell B2.out 1).trans rfl; have zf1 := blk_frozen B2.out 1; have c0 : W7.cell? ⟨g5, 0, none⟩ = some (.int .i64 nx) := (blk_cell B5.out 0).trans rfl; have c1 : W7.cell? ⟨g5, 1, none⟩ = some (.slice A l.length c) := (blk_cell B5.out 1).trans rfl) | ((with_reducible refine gate_store (t := 29) (p := 2) rfl ?_); refine store_event (t := 29) (p := 2) (v := ?vo7) (w1 := (World.setCell (World.setCell W7 ⟨g2, 0, none⟩ (.int .i64 nx)) ⟨g2, 1, none⟩ (.slice A l.length c))) ?hg ?ho ?hn ?hr ?_; (case ho => rfl); (case hg => rfl); (case hn => rfl); (case hr => first | (go_simp; done) | (go_simp; rfl)); intro W6 hw; have F6 := Aside0.mk hw; clear hw))
        have hb6 : Below w.heap.size w W6 := by rw [F6.out]; exact below_set (below_set HB.out G2.out) G2.out
        have hg6 : W6.heap[g2]? = some (.cells #[.int .i64 nx, .slice A l.length c] 29 (0, 0)) := by rw [F6.out]; exact blk_put (blk_put B2.out 0 _ rfl) 1 _ rfl
        have hs6 : Kd.S k45 45 W6 w.heap.size (fun _ => True) (.slice A l.length c) l := by
          rw [F6.out]
          exact Kd.S_mono (Kd.S_far (p := ⟨g2, 1, none⟩) (Kd.S_far (p := ⟨g2, 0, none⟩) (Kd.S_types S5.out B2.out (by decide)) (fun _ hk => hk.2) _) (fun _ hk => hk.2) _) (fun _ _ => trivial)
        refine bodyPost_ret (results_ct rfl _ _ g2 29 #[.int .i64 nx, .slice A l.length c] (0, 0) _ rfl hg6 Try.underlying29 rfl (by kernel_rfl)) rfl ?_
        exact ⟨_, by rw [HR.out]; rfl, by rw [HR.out]; exact hs6, hb6⟩
    · have e1 : ¬ rest.toList = [] := by
        rw [hrest, toList_iff, extract_bytes]
        intro h
        have := congrArg List.length h
        rw [List.length_drop, bytesOf_length] at this
        simp at this
        omega
      have e2 : (rest.toList == ([] : List UInt8)) = false := by simpa using e1
      have HR := Aside0.mk (show R = (0, [], false) from by rw [HN.out, if_neg (fun h => hqs (Option.some.inj h.1))])
      clear ST CO HN hrest
      go_wp2_with (first | ((with_reducible refine gate_store (t := 29) (p := 2) rfl ?_); refine store_event (t := 29) (p := 2) (v := ?vo6) (w1 := (World.setCell (World.setCell W5 ⟨g2, 0, none⟩ (.int .i64 0)) ⟨g2, 1, none⟩ (.slice none 0 0))) ?hg ?ho ?hn ?hr ?_; (case ho => rfl); (case hg => rfl); (case hn => rfl); (case hr => first | (go_simp; done) | (go_simp; rfl)); intro W6 hw; have F6 := Aside0.mk hw; clear hw))
      have hb6 : Below w.heap.size w W6 := by rw [F6.out]; exact below_set (below_set HB.out G2.out) G2.out
      have hg6 : W6.heap[g2]? = some (.cells #[.int .i64 0, .slice none 0 0] 29 (0, 0)) := by rw [F6.out]; exact blk_put (blk_put B2.out 0 _ rfl) 1 _ rfl
      refine bodyPost_ret (results_ct rfl _ _ g2 29 #[.int .i64 0, .slice none 0 0] (0, 0) _ rfl hg6 Try.underlying29 rfl (by kernel_rfl)) rfl ?_
      exact ⟨_, by rw [HR.out]; rfl, by rw [HR.out]; exact Kd.S_nil _ _ _ _ _, hb6⟩
end Go.Proofs.Ytiopcpkfjikfdaa.PFnExactVolOk
