/- By hand: what the law reaches, walked as plain functions. -/
import Derived.Test.YtiopcpkfjikfdaaGreatDoorYG
set_option maxHeartbeats 8000000
set_option maxRecDepth 100000
namespace Go.Proofs.YtiopcpkfjikfdaaGreatDoor.PFnClean
open Go.RowKit Go.Proofs.YtiopcpkfjikfdaaGreatDoorW.PrintWords Go.Proofs.YtiopcpkfjikfdaaGreatDoorW.PrintLast Go.Proofs.YtiopcpkfjikfdaaGreatDoorW.PrintMore
open Go.Proofs.YtiopcpkfjikfdaaGreatDoorW.Mix
open Go.Proofs.YtiopcpkfjikfdaaGreatDoor.Mth Go.Proofs.YtiopcpkfjikfdaaGreatDoor.Str
set_option linter.unusedVariables false
set_option linter.unusedSimpArgs false
theorem rdP (l : List ByteArray) (i : Nat) (h : i < l.length) : rdOf ByteArray.empty l (i : Int) = l[i] := by
 unfold rdOf
 rw [Int.toNat_natCast, List.getD_eq_getElem?_getD, List.getElem?_eq_getElem h]; rfl
theorem and255 (x : Int) : 0 ≤ Go.bits .and .i64 x 255 ∧ Go.bits .and .i64 x 255 ≤ 255 := by
 have h : Go.bits .and .i64 x 255 = IntKind.i64.wrap ((((BitVec.ofInt 64 x) &&& (BitVec.ofInt 64 255)).toNat : Nat) : Int) := rfl
 have e : (BitVec.ofInt 64 255).toNat = 255 := by decide
 rw [h, BitVec.toNat_and, e]
 have := Nat.and_le_right (n := (BitVec.ofInt 64 x).toNat) (m := 255)
 generalize (BitVec.ofInt 64 x).toNat &&& 255 = m at this
 rw [IntKind.wrap_i64]; omega
def curOk (l : List Int) (i : Int) : Prop := 0 ≤ i ∧ i ≤ (l.length : Int) ∧ l.length ≤ 1048576
theorem l1New_loop (l : List Int) (hl : l.length ≤ 1048576) : ∀ (d i : Nat) (h : Int), i + d = l.length → ∃ h', Ev (fun k => spec_l1New.l0 k l h (i : Int)) (l, 0, h') := by
 intro d
 induction d with
 | zero =>
  intro i h hi
  exact ⟨h, Ev.step (fun _ => spec_l1New.l0.eq_2 _ _ _ _) (ev_neg (by omega) (ev_now rfl))⟩
 | succ d ih =>
  intro i h hi
  by_cases hc : (i : Int) < 4000
  ·obtain ⟨h', e⟩ := ih (i + 1) (Go.bits .and .i64 (wrap64 ((wrap64 ((wrap64 (h * 131)) + (wrap64 (rd l (i : Int))))) + 7)) 1073741823) (by omega)
   have e3 : wrap64 ((i : Int) + 1) = ((i + 1 : Nat) : Int) := w64 (by omega) (by omega)
   refine ⟨h', Ev.step (fun _ => spec_l1New.l0.eq_2 _ _ _ _) (ev_pos (by omega) (ev_pos hc (ev_pos (by omega) ?_)))⟩
   rw [e3]; exact e
  ·exact ⟨h, Ev.step (fun _ => spec_l1New.l0.eq_2 _ _ _ _) (ev_pos (by omega) (ev_neg hc (ev_now rfl)))⟩
theorem l1New_ex (l : List Int) (hl : l.length ≤ 1048576) : ∃ h, Ev (fun k => spec_l1New.f k l) (l, 0, h) := by
 unfold spec_l1New.f
 exact l1New_loop l hl l.length 0 _ (by omega)
theorem l1Byte_ex (l : List Int) (i h : Int) (hc : curOk l i) : ∃ v i' h', spec_l1Byte.f l i h = some (v, i', h') ∧ (0 ≤ v ∧ v ≤ 255) ∧ curOk l i' := by
 obtain ⟨h0, h1, h2⟩ := hc
 unfold spec_l1Byte.f
 by_cases hlt : i < (l.length : Int)
 ·rw [if_pos hlt, if_pos h0]
  exact ⟨_, _, _, rfl, and255 _, by rw [w64 (by omega) (by omega)]; omega, by rw [w64 (by omega) (by omega)]; omega, h2⟩
 ·rw [if_neg hlt]
  exact ⟨_, _, _, rfl, and255 _, h0, h1, h2⟩
theorem tmod_lt (x a : Int) (hx : 0 ≤ x) (ha : 0 < a) : 0 ≤ Int.tmod x a ∧ Int.tmod x a < a := by
 rw [Int.tmod_eq_emod_of_nonneg hx]
 exact ⟨Int.emod_nonneg _ (by omega), Int.emod_lt_of_pos _ ha⟩
theorem l1Below_ex (l : List Int) (i h a : Int) (hc : curOk l i) : ∃ v i' h', spec_l1Below.f l i h a = some (v, i', h') ∧ 0 ≤ v ∧ (0 < a → v < a) ∧ (a ≤ 0 → v = 0) ∧ curOk l i' := by
 unfold spec_l1Below.f
 by_cases h0 : a ≤ 0
 ·rw [if_pos h0]
  exact ⟨0, i, h, rfl, by omega, by omega, fun _ => rfl, hc⟩
 ·rw [if_neg h0]
  by_cases h1 : a ≤ 256
  ·rw [if_pos h1]
   obtain ⟨v, i', h', e, hv, hi⟩ := l1Byte_ex l i h hc
   rw [e, Option.bind_some, if_neg (by omega)]
   have := tmod_lt v a hv.1 (by omega)
   exact ⟨_, _, _, rfl, this.1, fun _ => this.2, fun h => absurd h h0, hi⟩
  ·rw [if_neg h1]
   obtain ⟨v1, i1, h1', e1, hv1, hi1⟩ := l1Byte_ex l i h hc
   obtain ⟨v2, i2, h2', e2, hv2, hi2⟩ := l1Byte_ex l i1 h1' hi1
   obtain ⟨v3, i3, h3', e3, hv3, hi3⟩ := l1Byte_ex l i2 h2' hi2
   obtain ⟨v4, i4, h4', e4, hv4, hi4⟩ := l1Byte_ex l i3 h3' hi3
   simp only [e1, e2, e3, e4, Option.bind_some]
   rw [if_neg (by omega)]
   have w : wrap64 ((wrap64 ((wrap64 ((wrap64 (v1 * 16777216)) + (wrap64 (v2 * 65536)))) + (wrap64 (v3 * 256)))) + v4) = v1 * 16777216 + v2 * 65536 + v3 * 256 + v4 := by
    rw [w64 (n := v1 * 16777216) (by omega) (by omega), w64 (n := v2 * 65536) (by omega) (by omega), w64 (n := v3 * 256) (by omega) (by omega), w64 (n := v1 * 16777216 + v2 * 65536) (by omega) (by omega), w64 (n := v1 * 16777216 + v2 * 65536 + v3 * 256) (by omega) (by omega), w64 (by omega) (by omega)]
   rw [w]
   have := tmod_lt (v1 * 16777216 + v2 * 65536 + v3 * 256 + v4) a (by omega) (by omega)
   exact ⟨_, _, _, rfl, this.1, fun _ => this.2, fun h => absurd h h0, hi4⟩
theorem l1Once_ex (l : List Int) (i h a : Int) (hc : curOk l i) : ∃ v i' h', spec_l1Once.f l i h a = some (v, i', h') ∧ curOk l i' := by
 unfold spec_l1Once.f
 obtain ⟨v, i', h', e, _, _, _, hi⟩ := l1Below_ex l i h a hc
 rw [e, Option.bind_some]
 exact ⟨_, _, _, rfl, hi⟩
theorem l1PickS_ex (l : List Int) (i h : Int) (p : List ByteArray) (n : Nat) (hp : 0 < p.length) (hn : ∀ q ∈ p, q.size ≤ n) (hc : curOk l i) : ∃ s i' h', spec_l1Pick.f l i h p = some (s, i', h') ∧ s.size ≤ n ∧ curOk l i' := by
 unfold spec_l1Pick.f
 obtain ⟨v, i', h', e, h0, h1, _, hi⟩ := l1Below_ex l i h (p.length : Int) hc
 have h2 := h1 (by omega)
 obtain ⟨j, rfl⟩ := Int.eq_ofNat_of_zero_le h0
 have hj : j < p.length := by omega
 rw [e, Option.bind_some, if_pos h0, if_pos h2]
 exact ⟨_, _, _, rfl, by show (rdOf ByteArray.empty p (j : Int)).size ≤ n; rw [rdP p j hj]; exact hn _ (List.getElem_mem hj), hi⟩
theorem l2Name_ex (l : List Int) (i h : Int) (hc : curOk l i) : ∃ s i' h', spec_l2Name.f l i h = some (s, i', h') ∧ s.size ≤ 3 ∧ curOk l i' := by
 unfold spec_l2Name.f
 obtain ⟨s, i', h', e, hs, hi⟩ := l1PickS_ex l i h [(⟨#[97]⟩ : ByteArray), (⟨#[98]⟩ : ByteArray), (⟨#[99]⟩ : ByteArray), (⟨#[100, 49]⟩ : ByteArray), (⟨#[115, 117, 98]⟩ : ByteArray)] 3 (by decide) (by decide) hc
 rw [e, Option.bind_some]
 exact ⟨_, _, _, rfl, hs, hi⟩
def Cur (w0 w : World) (g : Nat) (l : List Int) : Prop := (∃ i h, IsS54 w0 w g l i h ∧ curOk l i) ∧ Below w0.heap.size w0 w
theorem keep_grown {w0 w w' : World} {g : Nat} (hB : Below w0.heap.size w0 w) (hB' : Below w0.heap.size w0 w') (hk : KeepBut w w' g none) : w.grownBy w' (some g) :=
 ⟨hB'.os.trans hB.os.symm, hB'.tape.trans hB.tape.symm, hB'.output.trans hB.output.symm, hk.1, fun i hi hne => hk.2 i hi (fun e => hne (by rw [e])) (by simp)⟩
theorem Cur.grown {w0 w w' : World} {g : Nat} {l : List Int} (h : Cur w0 w g l) {row : Option Nat} (k : w.grownBy w' row) (hr : ∀ b, row = some b → b ≠ g ∧ w0.heap.size ≤ b) : Cur w0 w' g l := by
 obtain ⟨⟨i, hh, h1, h2⟩, hB⟩ := h
 refine ⟨⟨i, hh, IsS54.grown h1 k (fun e => (hr g e.symm).1 rfl), h2⟩, ⟨k.os.trans hB.os, k.tape.trans hB.tape, k.output.trans hB.output, Nat.le_trans hB.size k.size, fun j hj => ?_⟩⟩
 rw [k.block j (Nat.lt_of_lt_of_le hj hB.size) (fun e => ?_), hB.block j hj]
 have := (hr j e.symm).2
 omega
section
variable {w0 w : World} {g : Nat} {l : List Int}
theorem drBelow_any (h : Cur w0 w g l) (n : Int) : Calls Tryz.prog 26 #[.pointer (some ⟨g, 0, none⟩), .int .i64 n] w fun e w' => ∃ v : Int, e = .returned (.int .i64 v) ∧ (0 ≤ v ∧ (0 < n → v < n) ∧ (n ≤ 0 → v = 0)) ∧ Cur w0 w' g l ∧ w.grownBy w' (some g) := by
 obtain ⟨⟨i, hh, h1, h2⟩, hB⟩ := h
 obtain ⟨v, i', h', e, v0, v1, v2, hi⟩ := l1Below_ex l i hh n h2
 exact (spec_l1Below.calls g l i hh n v i' h' w0 w h1 hB e).mono fun e w' q => ⟨v, q.1, ⟨v0, v1, v2⟩, ⟨⟨i', h', q.2.1, hi⟩, q.2.2.1⟩, keep_grown hB q.2.2.1 q.2.2.2⟩
theorem drOnce_any (h : Cur w0 w g l) (n : Int) : Calls Tryz.prog 14 #[.pointer (some ⟨g, 0, none⟩), .int .i64 n] w fun e w' => ∃ v : Bool, e = .returned (.bool v) ∧ Cur w0 w' g l ∧ w.grownBy w' (some g) := by
 obtain ⟨⟨i, hh, h1, h2⟩, hB⟩ := h
 obtain ⟨v, i', h', e, hi⟩ := l1Once_ex l i hh n h2
 exact (spec_l1Once.calls g l i hh n v i' h' w0 w h1 hB e).mono fun e w' q => ⟨v, q.1, ⟨⟨i', h', q.2.1, hi⟩, q.2.2.1⟩, keep_grown hB q.2.2.1 q.2.2.2⟩
theorem l1PickInt_ex (l : List Int) (i h : Int) (p : List Int) (hp : 0 < p.length) (hc : curOk l i) : ∃ s i' h', spec_l1PickInt.f l i h p = some (s, i', h') ∧ curOk l i' := by
 unfold spec_l1PickInt.f
 obtain ⟨v, i', h', e, h0, h1, _, hi⟩ := l1Below_ex l i h (p.length : Int) hc
 have h2 := h1 (by omega)
 rw [e, Option.bind_some, if_pos h0, if_pos h2]
 exact ⟨_, _, _, rfl, hi⟩
theorem drInt_any (h : Cur w0 w g l) (A : Option Addr) (c : Nat) (xs : List Int) (hr : Kd.C (Kd.int .i64) w A xs.length xs) (hc : xs.length ≤ c) (hf : ∀ ad, A = some ad → 0 < xs.length → ad.block ≠ g) (hx : 0 < xs.length) :
  Calls Tryz.prog 27 #[.pointer (some ⟨g, 0, none⟩), .slice A xs.length c] w fun e w' => ∃ v : Int, e = .returned (.int .i64 v) ∧ Cur w0 w' g l ∧ w.grownBy w' (some g) := by
 obtain ⟨⟨i, hh, h1, h2⟩, hB⟩ := h
 obtain ⟨v, i', h', e, hi⟩ := l1PickInt_ex l i hh xs hx h2
 exact (spec_l1PickInt.calls g l i hh A c xs v i' h' w0 w h1 hB hr hc hf e).mono fun e w' q => ⟨v, q.1, ⟨⟨i', h', q.2.1, hi⟩, q.2.2.1⟩, keep_grown hB q.2.2.1 q.2.2.2⟩
theorem drName_any (h : Cur w0 w g l) : Calls Tryz.prog 32 #[.pointer (some ⟨g, 0, none⟩)] w fun e w' => ∃ s : ByteArray, e = .returned (.string s) ∧ s.size ≤ 3 ∧ Cur w0 w' g l ∧ w.grownBy w' (some g) := by
 obtain ⟨⟨i, hh, h1, h2⟩, hB⟩ := h
 obtain ⟨s, i', h', e, hs, hi⟩ := l2Name_ex l i hh h2
 exact (spec_l2Name.calls g l i hh s i' h' w0 w h1 hB e).mono fun e w' q => ⟨s, q.1, hs, ⟨⟨i', h', q.2.1, hi⟩, q.2.2.1⟩, keep_grown hB q.2.2.1 q.2.2.2⟩
end
section
variable {P : Program} {l : List Oper} {S : World → Prop} {Q : Exit → Act → World → Prop} {md : Region.Mode}
/-- One operation floats (an allocation, f): it may come ahead of each of the others that act, or last (e); where it comes early, what is left is r ++ e'. -/
def mixF (P : Program) (l : List Oper) (S : World → Prop) (Q : Exit → Act → World → Prop) (fl : List Nat) (f : Nat) (e e' : List (List Nat × Nat)) : List (List Nat × Nat) → Act → World → Prop
 | [], a, w => mixW P l S Q fl e a w
 | (fs, i) :: r, a, w => wpQuiet P l.toArray S (fun a' => wpList P l.toArray (Qm Q fun a'' w'' => S w'' ∧ (S w'' → mixW P l S Q fl (([], i) :: r ++ e') a'' w'')) [pickO l f] a' w
   ∧ wpList P l.toArray (Qm Q fun a'' w'' => S w'' ∧ (S w'' → mixF P l S Q fl f e e' r a'' w'')) [pickO l i] a' w) (fs.map (pickO l)) a
def cntF (fl : List Nat) (e : List (List Nat × Nat)) : List (List Nat × Nat) → Nat
 | [] => cntM fl e
 | (fs, _) :: r => cntF fl e r + 1 + fs.length
def mixFB (md : Region.Mode) (l : List Oper) (fl : List Nat) (f : Nat) (e e' : List (List Nat × Nat)) : Array Bool → List (List Nat × Nat) → Bool
 | c, [] => mixB md l fl c e
 | c, (fs, i) :: r => match looksB md l c fs with
  | some c' => decide (i < l.length) && decide (f < l.length) && (Region.ready md l.toArray c').all (fun j => j == f || j == i) && !(Region.ready md l.toArray c').isEmpty && (cntM fl (([], i) :: r ++ e') == cntF fl e r)
    && (mixB md l fl (c'.setIfInBounds f true) (([], i) :: r ++ e') && mixFB md l fl f e e' (c'.setIfInBounds i true) r)
  | none => false
theorem mixF_ok (fl : List Nat) (f : Nat) (e e' : List (List Nat × Nat)) (hQ : ∀ c (a : Act) ts w, Q (.panic c) { tmps := ts, defers := a.defers } w → Q (.panic c) a w) : ∀ (r : List (List Nat × Nat)) (c : Array Bool) (a : Act) (w : World), mixFB md l fl f e e' c r = true → S w → mixF P l S Q fl f e e' r a w →
  wpAnyLast P md l.toArray Q S [] (cntF fl e r) c a w
 | [], c, a, w, hb, hS, h => mix_ok fl hQ e c a w hb hS h
 | (fs, i) :: r, c, a, w, hb, hS, h => by
  simp only [mixFB] at hb
  split at hb
  ·rename_i c' hc
   simp only [Bool.and_eq_true, decide_eq_true_eq, beq_iff_eq] at hb
   obtain ⟨⟨⟨⟨⟨hi, hf⟩, hr⟩, hne⟩, hn⟩, hb1, hb2⟩ := hb
   refine looks_ok hQ (cntF fl e r + 1) fs c c' a w _ hc hS h (fun a' ha => wpAnyLast_all rfl (fun h0 => by rw [h0] at hne; simp at hne) (fun j hj => ?_))
   have hj' := List.all_eq_true.1 hr j hj
   have step : ∀ (k : Nat) (K : Act → World → Prop), k < l.length → wpList P l.toArray (Qm Q K) [pickO l k] a' w → (∀ a'' w'', K a'' w'' → (k ∉ [] → S w → S w'') ∧ wpAnyLast P md l.toArray Q S [] (cntF fl e r) (c'.setIfInBounds k true) a'' w'') →
     wpOp P l.toArray Q k (fun a' w' => (k ∉ [] → S w → S w') ∧ wpAnyLast P md l.toArray Q S [] (cntF fl e r) (c'.setIfInBounds k true) a' w') a' w := by
    intro k K hk ha hK
    have ho : l.toArray[k]? = some (pickO l k) := by rw [List.getElem?_toArray]; exact pickO_get l k hk
    unfold wpOp
    simp only [ho]
    unfold wpList at ha
    split at ha
    ·rename_i hw
     rw [if_pos hw]
     rcases ha with ha | ⟨h1, h2⟩
     ·exact .inl (wp_Qm (fun a w hh => hK a w hh) ha)
     ·exact .inr ⟨h1, h2⟩
    ·rename_i hw
     rw [if_neg hw]
     exact hK _ _ ha
   by_cases hjf : j = f
   ·subst hjf
    exact step j _ hf ha.1 (fun a'' w'' hh => ⟨fun _ _ => hh.1, by rw [← hn]; exact mix_ok fl hQ _ _ a'' w'' hb1 hh.1 (hh.2 hh.1)⟩)
   ·have hji : j = i := by
     simp only [Bool.or_eq_true, beq_iff_eq] at hj'
     exact hj'.resolve_left hjf
    subst hji
    exact step j _ hi ha.2 (fun a'' w'' hh => ⟨fun _ _ => hh.1, mixF_ok fl f e e' hQ r _ a'' w'' hb2 hh.1 (hh.2 hh.1)⟩)
  ·cases hb
theorem wp_region_mixF {id : Nat} {a : Act} {w : World} (S : World → Prop) (f : Nat) (e e' r : List (List Nat × Nat)) (fl : List Nat) (hm : P.follows .mixedOrders = true)
  (hB : (mixFB .any l fl f e e' (Array.replicate l.length false) r && cntF fl e r == l.length) = true) (hQ : ∀ c (a : Act) ts w, Q (.panic c) { tmps := ts, defers := a.defers } w → Q (.panic c) a w) (hS : S w.drew)
  (h : mixF P l S Q fl f e e' r a w.drew) : (Code.region id l.toArray true).wp P Q a w := by
 simp only [Bool.and_eq_true, beq_iff_eq] at hB
 refine wp_region_last (S := S) (ds := []) hm ?_
 have h1 := mixF_ok (md := .any) fl f e e' hQ r _ a w.drew hB.1 hS h
 rw [hB.2] at h1
 simpa using h1
theorem mixF_seg {fl fs : List Nat} {i f : Nat} {e e' r : List (List Nat × Nat)} {a : Act} {w : World}
  (h : wpQuiet P l.toArray S (fun a' => wpList P l.toArray (Qm Q fun a'' w'' => S w'' ∧ (S w'' → mixW P l S Q fl (([], i) :: r ++ e') a'' w'')) [pickO l f] a' w
   ∧ wpList P l.toArray (Qm Q fun a'' w'' => S w'' ∧ (S w'' → mixF P l S Q fl f e e' r a'' w'')) [pickO l i] a' w) (fs.map (pickO l)) a) : mixF P l S Q fl f e e' ((fs, i) :: r) a w := h
theorem mixF_nil {fl : List Nat} {f : Nat} {e e' : List (List Nat × Nat)} {a : Act} {w : World} (h : mixW P l S Q fl e a w) : mixF P l S Q fl f e e' [] a w := h
end
theorem Cur.row {w0 w : World} {g : Nat} {l : List Int} (h : Cur w0 w g l) : ∃ cs, w.heap[g]? = some (.cells cs 54 (0, 0)) := by
 obtain ⟨⟨i, hh, ⟨A0, c0, h1, _, _⟩, _⟩, _⟩ := h
 exact ⟨_, h1⟩
theorem Cur.lt {w0 w : World} {g : Nat} {l : List Int} (h : Cur w0 w g l) : g < w.heap.size := by
 obtain ⟨⟨i, hh, h1, _⟩, _⟩ := h
 exact IsS54.lt h1
structure SC (w0 : World) (c : Nat) (lc : List Int) (w W : World) (bs : List (Nat × TypeId × Array Value)) : Prop where
 st : St w (some c) W bs
 cur : Cur w0 W c lc
 ent : Cur w0 w c lc
section
variable {w0 w W W' : World} {c : Nat} {lc : List Int} {bs bs' : List (Nat × TypeId × Array Value)}
theorem SC.start (h : Cur w0 w c lc) : SC w0 c lc w w [] := ⟨St.start _ _, h, h⟩
theorem SC.step (h : SC w0 c lc w W bs) {row : Option Nat} (s : St w (some c) W' bs') (k : W.grownBy W' row) (hr : ∀ b, row = some b → w.heap.size ≤ b) : SC w0 c lc w W' bs' :=
 ⟨s, h.cur.grown k (fun b e => by have := hr b e; have := h.ent.lt; have := h.ent.2.size; exact ⟨by omega, by omega⟩), h.ent⟩
theorem SC.draw (h : SC w0 c lc w W bs) (k : W.grownBy W' (some c)) (hc : Cur w0 W' c lc) : SC w0 c lc w W' bs :=
 ⟨h.st.growO k (fun b e => by injection e with e; rw [← e]; exact h.ent.lt), hc, h.ent⟩
theorem SC.calls (h : SC w0 c lc w W bs) (k : W.grownBy W' none) : SC w0 c lc w W' bs := h.step (h.st.calls k) k (by simp)
theorem SC.call (h : SC w0 c lc w W bs) (k : Below W.heap.size W W') : SC w0 c lc w W' bs := h.calls (grown_below k none)
theorem SC.drew (h : SC w0 c lc w W bs) : SC w0 c lc w W.drew bs := h.call (below_drew1 (Below.refl _ _))
theorem SC.get (h : SC w0 c lc w W bs) (i : Nat) {g : Nat} {t : TypeId} {cs : Array Value} (hi : bs[i]? = some (g, t, cs)) : W.heap[g]? = some (.cells cs t (0, 0)) := h.st.get i hi
theorem SC.ne (h : SC w0 c lc w W bs) (i j : Nat) {g g' : Nat} {t t' : TypeId} {cs cs' : Array Value} (hi : bs[i]? = some (g, t, cs)) (hj : bs[j]? = some (g', t', cs')) (hij : i ≠ j) : g ≠ g' := h.st.ne i j hi hj hij
theorem SC.neC (h : SC w0 c lc w W bs) (i : Nat) {g : Nat} {t : TypeId} {cs : Array Value} (hi : bs[i]? = some (g, t, cs)) : g ≠ c := by
 have := h.st.ge i hi; have := h.ent.lt; omega
theorem SC.cells2 (h : SC w0 c lc w W bs) (i : Nat) {g : Nat} {t : TypeId} {a b : Value} (hi : bs[i]? = some (g, t, #[a, b])) : W.cell? ⟨g, 0, none⟩ = some a ∧ W.cell? ⟨g, 1, none⟩ = some b := h.st.cells2 i hi
theorem SC.cells3 (h : SC w0 c lc w W bs) (i : Nat) {g : Nat} {t : TypeId} {a b c' : Value} (hi : bs[i]? = some (g, t, #[a, b, c'])) : W.cell? ⟨g, 0, none⟩ = some a ∧ W.cell? ⟨g, 1, none⟩ = some b ∧ W.cell? ⟨g, 2, none⟩ = some c' := h.st.cells3 i hi
theorem SC.cells6 (h : SC w0 c lc w W bs) (i : Nat) {g : Nat} {t : TypeId} {a b c' d e f : Value} (hi : bs[i]? = some (g, t, #[a, b, c', d, e, f])) : W.cell? ⟨g, 0, none⟩ = some a ∧ W.cell? ⟨g, 1, none⟩ = some b ∧ W.cell? ⟨g, 2, none⟩ = some c' ∧ W.cell? ⟨g, 3, none⟩ = some d ∧ W.cell? ⟨g, 4, none⟩ = some e ∧ W.cell? ⟨g, 5, none⟩ = some f := h.st.cells6 i hi
theorem SC.cells9 (h : SC w0 c lc w W bs) (i : Nat) {g : Nat} {t : TypeId} {a b c' d e f p q r : Value} (hi : bs[i]? = some (g, t, #[a, b, c', d, e, f, p, q, r])) : W.cell? ⟨g, 0, none⟩ = some a ∧ W.cell? ⟨g, 1, none⟩ = some b ∧ W.cell? ⟨g, 2, none⟩ = some c' ∧ W.cell? ⟨g, 3, none⟩ = some d ∧ W.cell? ⟨g, 4, none⟩ = some e ∧ W.cell? ⟨g, 5, none⟩ = some f ∧ W.cell? ⟨g, 6, none⟩ = some p ∧ W.cell? ⟨g, 7, none⟩ = some q ∧ W.cell? ⟨g, 8, none⟩ = some r := h.st.cells9 i hi
theorem SC.growR (h : SC w0 c lc w W bs) (k : W.grownBy W' (some c)) {α : Type} {d : Kd α} {e b : Nat} {ok : Nat → Prop} {v : Value} {xs : List α} (hv : d.R e W b ok v xs) (ht : ∀ q, q ∈ e :: d.E → q ≠ 54) : d.R e W' b ok v xs := by
 obtain ⟨cs, hr⟩ := h.cur.row
 exact R_box hv hr ht k
theorem SC.growN (h : SC w0 c lc w W bs) {row : Option Nat} (k : W.grownBy W' row) (hr : ∀ b, row = some b → w.heap.size ≤ b) {e : TypeId} (ht : ∀ b, row = some b → ∃ cells, W.heap[b]? = some (.cells cells e (0, 0))) (hn : bs.all (fun p => p.2.1 != e) = true) : SC w0 c lc w W' bs :=
 h.step (h.st.growT k (fun b hb => .inr (hr b hb)) ht hn) k hr
theorem SC.tail {p : Nat × TypeId × Array Value} (h : SC w0 c lc w W (p :: bs)) : SC w0 c lc w W bs := ⟨h.st.tail, h.cur, h.ent⟩
theorem SC.far (h : SC w0 c lc w W bs) {α : Type} {d : Kd α} {e b : Nat} {ok : Nat → Prop} {A : Option Addr} {n cc : Nat} {xs : List α} (hR : d.R e W b ok (.slice A n cc) xs) (ht : e ≠ 54) : ∀ ad, A = some ad → 0 < n → ad.block ≠ c := by
 obtain ⟨⟨i, hh, h1, h2⟩, hB⟩ := h.cur
 exact far_slice (IsS54.own_ne h1 hR ht)
theorem KxS.size {X : List Nat} {w w' : World} (h : KxS X w w') : w.heap.size ≤ w'.heap.size := by
 obtain ⟨y, rfl⟩ := h
 exact y.size
theorem SC.vol (h : SC w0 c lc w W bs) {v : Value} {l : List S37} (hv : VolO w v l) : VolO W v l := by
 obtain ⟨cs, hr⟩ := h.ent.row
 exact R_box hv hr (by decide) h.st.grown
theorem SC.growV (h : SC w0 c lc w W bs) (k : W.grownBy W' (some c)) {v : Value} {l : List S37} (hv : VolO W v l) : VolO W' v l := by
 obtain ⟨cs, hr⟩ := h.cur.row
 exact R_box hv hr (by decide) k
end
section
variable {P : Program} {ops : Array Oper} {rest : List Oper} {o : Oper} {a : Act} {Q : Exit → Act → World → Prop} {w0 we w : World} {c : Nat} {lc : List Int} {bs : List (Nat × TypeId × Array Value)}
theorem sc_box (hgd : o.guard = none) {N : Tmp} (_hd : o.dst = some N) {cs : Array Value} {t : TypeId} (hrun : (execOp a.eval o).run P w = .ok (.value (.pointer (some ⟨w.heap.size, 0, none⟩))) (w.alloc (.cells cs t (0, 0)))) (hS : SC w0 c lc we w bs)
  (h : ∀ g w1, Aside0 (SC w0 c lc we w1 ((g, t, cs) :: bs)) → Aside0 (Below w.heap.size w w1 ∧ w.heap.size ≤ g) → wpList P ops Q rest (a.put o.dst (.pointer (some ⟨g, 0, none⟩))) w1) : wpList P ops Q (o :: rest) a w :=
 st_box hgd _hd hrun hS.st fun g w1 h1 h2 => h g w1 ⟨hS.step h1.out (grown_below h2.out.1 none) (by simp)⟩ h2
theorem sc_store (hN : o.dst = none) (hgd : o.guard = none) (t : TypeId) (p x : Operand) (ho : o.op = .store t p x) (i : Nat) {g : Nat} {t' : TypeId} {cs : Array Value} {j : Nat} {u : Value} (seg : List Value)
  (haddr : a.eval p = .pointer (some ⟨g, j, none⟩)) (hx : a.eval x = u) (hu : u.cells.toList = seg) (ht : (P.info? t).map (·.size) = some seg.length) (h1 : seg.all (fun q => q.oneCell') = true) (hS : SC w0 c lc we w bs) (hi : bs[i]? = some (g, t', cs)) (hj : Nat.ble (j + seg.length) cs.size = true)
  (h : ∀ w1, Aside0 (SC w0 c lc we w1 (bs.set i (g, t', (cs.toList.take j ++ seg ++ cs.toList.drop (j + seg.length)).toArray))) → Aside0 (w.grownBy w1 (some g)) → wpList P ops Q rest a w1) : wpList P ops Q (o :: rest) a w :=
 st_store hN hgd t p x ho i seg haddr hx hu ht h1 hS.st hi hj fun w1 h2 h3 => h w1 ⟨hS.step h2.out h3.out (fun b e => by injection e with e; rw [← e]; exact hS.st.base _ (List.mem_of_getElem? hi))⟩ h3
theorem sc_lit {α : Type} (d : Kd α) (e : Nat) (hgd : o.guard = none) {N : Tmp} (_hd : o.dst = some N) {xs : List α} {inner : List Value} (hrun : (execOp a.eval o).run P w = .ok (.value (.slice (some ⟨w.heap.size, 0, none⟩) xs.length xs.length)) (w.alloc (.cells inner.toArray e)))
  (hrep : Reps (d.M w w.heap.size (fun _ => True)) d.sz xs inner) (hm : xs.length ≤ 9223372036854775807) (hS : SC w0 c lc we w bs)
  (h : ∀ A1 c1 w1, Aside0 (SC w0 c lc we w1 bs) → Aside0 (d.R e w1 we.heap.size (fun _ => True) (.slice A1 xs.length c1) xs) → Aside0 (w.grownBy w1 none) → wpList P ops Q rest (a.put o.dst (.slice A1 xs.length c1)) w1) : wpList P ops Q (o :: rest) a w := by
 refine Kd.R_lit d (w0 := w) w.heap.size e hgd _hd hrun hrep (fun _ hk => hk) trivial (Below.refl _ _) (Nat.le_refl _) hm ?_
 intro v1 w1 hR _ hg _
 obtain ⟨A1, c1, rfl⟩ := Kd.R_slice hR
 exact h A1 c1 w1 ⟨hS.calls hg⟩ ⟨Kd.R_lower hR hS.st.grown.size⟩ ⟨hg⟩
theorem reps_ints (W : World) (b : Nat) (ok : Nat → Prop) : ∀ xs : List Int, Reps ((Kd.int .i64).M W b ok) (Kd.int .i64).sz xs (xs.map (Value.int .i64))
 | [] => Reps.none _ _
 | x :: xs => Reps.one (show Kd.M (Kd.int .i64) W b ok x [.int .i64 x] from rfl) (reps_ints W b ok xs)
theorem reps_strs (W : World) (b : Nat) (ok : Nat → Prop) : ∀ xs : List ByteArray, Reps (Kd.string.M W b ok) Kd.string.sz xs (xs.map Value.string)
 | [] => Reps.none _ _
 | x :: xs => Reps.one (show Kd.M Kd.string W b ok x [.string x] from rfl) (reps_strs W b ok xs)
end
section
variable {w0 w : World} {g : Nat} {l : List Int}
theorem drByte_any (h : Cur w0 w g l) : Calls Tryz.prog 67 #[.pointer (some ⟨g, 0, none⟩)] w fun e w' => ∃ v : Int, e = .returned (.int .i64 v) ∧ (0 ≤ v ∧ v ≤ 255) ∧ Cur w0 w' g l ∧ w.grownBy w' (some g) := by
 obtain ⟨⟨i, hh, h1, h2⟩, hB⟩ := h
 obtain ⟨v, i', h', e, hv, hi⟩ := l1Byte_ex l i hh h2
 exact (spec_l1Byte.calls g l i hh v i' h' w0 w h1 hB e).mono fun e w' q => ⟨v, q.1, hv, ⟨⟨i', h', q.2.1, hi⟩, q.2.2.1⟩, keep_grown hB q.2.2.1 q.2.2.2⟩
theorem drInts_any (h : Cur w0 w g l) {b : Nat} {A : Option Addr} {c : Nat} {xs : List Int} (hR : Kd.R (Kd.int .i64) 3 w b (fun _ => True) (.slice A xs.length c) xs) (hx : 0 < xs.length) :
  Calls Tryz.prog 27 #[.pointer (some ⟨g, 0, none⟩), .slice A xs.length c] w fun e w' => ∃ v : Int, e = .returned (.int .i64 v) ∧ Cur w0 w' g l ∧ w.grownBy w' (some g) := by
 obtain ⟨⟨i, hh, h1, h2⟩, hB⟩ := h
 exact drInt_any ⟨⟨i, hh, h1, h2⟩, hB⟩ A c xs (Kd.R_reads' hR).2.2 (Kd.R_reads' hR).2.1 (far_slice (IsS54.own_ne h1 hR (by decide))) hx
theorem drStrs_any (h : Cur w0 w g l) {b : Nat} {A : Option Addr} {c : Nat} {xs : List ByteArray} (n : Nat) (hn : ∀ q ∈ xs, q.size ≤ n) (hx : 0 < xs.length) (hR : Kd.R Kd.string 9 w b (fun _ => True) (.slice A xs.length c) xs) :
  Calls Tryz.prog 28 #[.pointer (some ⟨g, 0, none⟩), .slice A xs.length c] w fun e w' => ∃ s : ByteArray, e = .returned (.string s) ∧ s.size ≤ n ∧ Cur w0 w' g l ∧ w.grownBy w' (some g) := by
 obtain ⟨⟨i, hh, h1, h2⟩, hB⟩ := h
 obtain ⟨s, i', h', e, hs, hi⟩ := l1PickS_ex l i hh xs n hx hn h2
 exact (spec_l1Pick.calls g l i hh A c xs s i' h' w0 w h1 hB (Kd.R_reads' hR).2.2 (Kd.R_reads' hR).2.1 (far_slice (IsS54.own_ne h1 hR (by decide))) e).mono fun e w' q => ⟨s, q.1, hs, ⟨⟨i', h', q.2.1, hi⟩, q.2.2.1⟩, keep_grown hB q.2.2.1 q.2.2.2⟩
end
section
variable {P : Program} {ops : Array Oper} {rest : List Oper} {o : Oper} {a : Act} {Q : Exit → Act → World → Prop} {w0 we w : World} {c : Nat} {lc : List Int} {bs : List (Nat × TypeId × Array Value)}
theorem cB (cs : Array Value) (t : TypeId) (hS : Aside0 (SC w0 c lc we w bs)) (h : ∀ g w1, Aside0 (SC w0 c lc we w1 ((g, t, cs) :: bs)) → Aside0 (Below w.heap.size w w1 ∧ w.heap.size ≤ g) → wpList P ops Q rest (a.put o.dst (.pointer (some ⟨g, 0, none⟩))) w1)
  (hrun : (execOp a.eval o).run P w = .ok (.value (.pointer (some ⟨w.heap.size, 0, none⟩))) (w.alloc (.cells cs t (0, 0))) := by first | (go_simp; done) | (go_simp; rfl)) (hgd : o.guard = none := by rfl) {N : Tmp} (hd : o.dst = some N := by rfl) : wpList P ops Q (o :: rest) a w := sc_box hgd hd hrun hS.out h
theorem cS (i : Nat) (seg : List Value) (hS : Aside0 (SC w0 c lc we w bs)) {t : TypeId} {p x : Operand} {g : Nat} {t' : TypeId} {cs : Array Value} {j : Nat} {u : Value}
  (h : ∀ w1, Aside0 (SC w0 c lc we w1 (bs.set i (g, t', (cs.toList.take j ++ seg ++ cs.toList.drop (j + seg.length)).toArray))) → Aside0 (w.grownBy w1 (some g)) → wpList P ops Q rest a w1)
  (hN : o.dst = none := by rfl) (hgd : o.guard = none := by rfl) (ho : o.op = .store t p x := by rfl) (haddr : a.eval p = .pointer (some ⟨g, j, none⟩) := by rfl) (hx : a.eval x = u := by rfl) (hu : u.cells.toList = seg := by rfl) (ht : (P.info? t).map (·.size) = some seg.length := by kernel_rfl)
  (h1 : seg.all (fun q => q.oneCell') = true := by rfl) (hi : bs[i]? = some (g, t', cs) := by rfl) (hj : Nat.ble (j + seg.length) cs.size = true := by rfl) : wpList P ops Q (o :: rest) a w := sc_store hN hgd t p x ho i seg haddr hx hu ht h1 hS.out hi hj h
end
theorem cC {fn : Func} {R : Ending → World → Prop} {a : Act} {w0 we w : World} {c : Nat} {lc : List Int} {bs : List (Nat × TypeId × Array Value)} (i : Nat) (hS : Aside0 (SC w0 c lc we w bs)) {p : Tmp} {g : Nat} {t : TypeId} {cs : Array Value} (hR : R (.returned (.agg cs)) w) (h : fn.results = #[.cell p t] := by rfl) (hp : a.tmps.getD p undef = .pointer (some ⟨g, 0, none⟩) := by rfl) (hi : bs[i]? = some (g, t, cs) := by rfl)
  (hu : ∃ d, Tryz.prog.underlying t = some d ∧ aggB d = true := by first | exact ⟨_, Tryz.underlying26, rfl⟩ | exact ⟨_, Tryz.underlying33, rfl⟩ | exact ⟨_, Tryz.underlying29, rfl⟩ | exact ⟨_, Tryz.underlying98, rfl⟩ | exact ⟨_, Tryz.underlying94, rfl⟩ | exact ⟨_, Tryz.underlying37, rfl⟩)
  (hz : (Tryz.prog.info? t).map (·.size) = some cs.size := by kernel_rfl) (hdf : a.defers = [] := by rfl) : bodyPost Tryz.prog fn R .ret a w := rC i ⟨hS.out.st⟩ hR h hp hi hu hz hdf
theorem text_any {w0 w : World} {g : Nat} {lc : List Int} (hc : Cur w0 w g lc) (m : Int) (hm : 0 ≤ m ∧ m ≤ 100) :
  Calls Tryz.prog 110 #[.pointer (some ⟨g, 0, none⟩), .int .i64 m] w fun e w' => ∃ s : ByteArray, e = .returned (.string s) ∧ s.size ≤ 200 ∧ Cur w0 w' g lc ∧ w.grownBy w' (some g) := by
 have hu22 := Tryz.underlying22
 have hw1 : wrap64 (m + 1) = m + 1 := w64 (by omega) (by omega)
 have HS := zM (SC.start hc)
 clear hc
 go_enter Tryz.func110, Tryz.ntmps110
 go_wp2_with (first | ((with_reducible refine gD 9 rfl ?_); refine sc_lit (Kd.int .u8) 5 rfl (N := 9) rfl (xs := ([] : List Int)) (inner := []) ?b2 (Reps.none _ _) (by simp) HS.out ?_; (case b2 => first | (go_simp; done) | (go_simp; rfl)); intro A1 c1 w2 n0_ HR hg_; clear HS; have HS := n0_; clear n0_; replace HR := zM (Kd.R_lower HR.out (Nat.le_refl _))) | (go_at_call 26; (with_reducible refine (drBelow_any HS.out.cur 4).mono ?_); rintro e w5 ⟨st, rfl, hvst, hc, hb⟩; replace HR := zM (HS.out.growR hb HR.out (by decide)); replace HS := zM (HS.out.draw hb hc); clear hc hb) | (go_at_call 26; (with_reducible refine (drBelow_any HS.out.cur _).mono ?_); rintro e w6 ⟨k, rfl, hvk, hc, hb⟩; replace HR := zM (HS.out.growR hb HR.out (by decide)); replace HS := zM (HS.out.draw hb hc); clear hc hb; (try rw [hw1] at hvk)))
 obtain ⟨K, hK⟩ := Int.eq_ofNat_of_zero_le hvk.1
 have HKm := zM (show K ≤ 101 from by have := hvk.2.1 (by omega); omega)
 go_loopg [5, 7] K (fun kq v5 v7 w' => ∃ xs : List Int, v7 = .int .i64 (kq : Int) ∧ Aside0 (xs.length + kq = K) ∧ Aside0 (Kd.R (Kd.int .u8) 5 w' w.heap.size (fun _ => True) v5 xs) ∧ Aside0 (SC w0 g lc w w' []))
 case atStart => exact ⟨[], by rw [hK], ⟨by simp⟩, HR, HS⟩
 case round =>
  clear HS HR hK hvk
  obtain ⟨xs, rfl, HK, HR, HS⟩ := hrel
  obtain ⟨v5, hv5⟩ : ∃ q, q = u5 := ⟨_, rfl⟩
  subst hv5
  cases gk with
  | zero =>
   have hcv := own_string (P := Tryz.prog) Tryz.underlying22 Tryz.underlying5 Tryz.underlying9 (Kd.own_of_R HR.out)
   go_wp2
   go_ret
   exact ⟨_, rfl, by rw [strOfNums_size]; have := HK.out; have := HKm.out; omega, HS.out.cur, HS.out.st.grown⟩
  | succ k1 =>
   have HK := zM (show xs.length + (k1 + 1) ≤ 101 ∧ xs.length + 1 + k1 = K from by have := HK.out; have := HKm.out; omega)
   have hp : (0 : Int) < ((k1 + 1 : Nat) : Int) := by omega
   have hw2 : wrap64 (k1 : Int) = (k1 : Int) := by have := HK.out; exact w64 (by omega) (by omega)
   cases b1 : (st == 1) <;> cases b2 : (st == 2)
   ·go_wp2_with (first | (go_at_call 67; (with_reducible refine (drByte_any HS.out.cur).mono ?_); rintro e w8 ⟨vb, rfl, -, hc, hb⟩; replace HR := zM (HS.out.growR hb HR.out (by decide)); replace HS := zM (HS.out.draw hb hc); clear hc hb) | (refine gate_builtin (b := .append) (xs := #[.tmp 31, .tmp 34]) rfl ?_; at_builtin; refine Kd.R_append (Kd.int .u8) (w0 := w8) w.heap.size rfl (.tmp 31) (.tmp 34) 22 5 (.int .u8 0) 1 rfl hu22 info5 rfl (by decide) (by decide) v5 xs ((vb) % 256) [.int .u8 ((vb) % 256)] (fun _ => True) (fun _ => False) rfl rfl rfl (fun _ h => h.elim) (fun _ _ => trivial) HR.out (Below.refl _ _) HS.out.st.grown.size (by have := HK.out; omega) ?_; intro v9 w9 hR _ hg _; have n0_ := zM (HS.out.growN hg (fun b hb => Kd.R_base HR.out b hb) (Kd.R_typed HR.out) rfl); have n1_ := zM (hR); clear HS HR; have HS := n0_; have HR := n1_; clear n0_ n1_; clear hR hg))
    go_roundg k1
    case measure => omega
    case rel => exact ⟨_, by first | rfl | rw [hw2], ⟨by have := HK.out; rw [List.length_append]; simp only [List.length_singleton]; omega⟩, HR, HS⟩
   ·go_wp2_with (first | (go_at_call 67; (with_reducible refine (drByte_any HS.out.cur).mono ?_); rintro e w8 ⟨vb, rfl, -, hc, hb⟩; replace HR := zM (HS.out.growR hb HR.out (by decide)); replace HS := zM (HS.out.draw hb hc); clear hc hb) | (refine gate_builtin (b := .append) (xs := #[.tmp 31, .tmp 34]) rfl ?_; at_builtin; refine Kd.R_append (Kd.int .u8) (w0 := w8) w.heap.size rfl (.tmp 31) (.tmp 34) 22 5 (.int .u8 0) 1 rfl hu22 info5 rfl (by decide) (by decide) v5 xs ((wrap64 (97 + Int.tmod (vb) 4)) % 256) [.int .u8 ((wrap64 (97 + Int.tmod (vb) 4)) % 256)] (fun _ => True) (fun _ => False) rfl rfl rfl (fun _ h => h.elim) (fun _ _ => trivial) HR.out (Below.refl _ _) HS.out.st.grown.size (by have := HK.out; omega) ?_; intro v9 w9 hR _ hg _; have n0_ := zM (HS.out.growN hg (fun b hb => Kd.R_base HR.out b hb) (Kd.R_typed HR.out) rfl); have n1_ := zM (hR); clear HS HR; have HS := n0_; have HR := n1_; clear n0_ n1_; clear hR hg))
    go_roundg k1
    case measure => omega
    case rel => exact ⟨_, by first | rfl | rw [hw2], ⟨by have := HK.out; rw [List.length_append]; simp only [List.length_singleton]; omega⟩, HR, HS⟩
   ·go_wp2_with (first | (go_at_call 67; (with_reducible refine (drByte_any HS.out.cur).mono ?_); rintro e w8 ⟨vb, rfl, -, hc, hb⟩; replace HR := zM (HS.out.growR hb HR.out (by decide)); replace HS := zM (HS.out.draw hb hc); clear hc hb) | (refine gate_builtin (b := .append) (xs := #[.tmp 31, .tmp 34]) rfl ?_; at_builtin; refine Kd.R_append (Kd.int .u8) (w0 := w8) w.heap.size rfl (.tmp 31) (.tmp 34) 22 5 (.int .u8 0) 1 rfl hu22 info5 rfl (by decide) (by decide) v5 xs ((Int.tmod vb 2) % 256) [.int .u8 ((Int.tmod vb 2) % 256)] (fun _ => True) (fun _ => False) rfl rfl rfl (fun _ h => h.elim) (fun _ _ => trivial) HR.out (Below.refl _ _) HS.out.st.grown.size (by have := HK.out; omega) ?_; intro v9 w9 hR _ hg _; have n0_ := zM (HS.out.growN hg (fun b hb => Kd.R_base HR.out b hb) (Kd.R_typed HR.out) rfl); have n1_ := zM (hR); clear HS HR; have HS := n0_; have HR := n1_; clear n0_ n1_; clear hR hg))
    go_roundg k1
    case measure => omega
    case rel => exact ⟨_, by first | rfl | rw [hw2], ⟨by have := HK.out; rw [List.length_append]; simp only [List.length_singleton]; omega⟩, HR, HS⟩
   ·go_wp2_with (first | (go_at_call 67; (with_reducible refine (drByte_any HS.out.cur).mono ?_); rintro e w8 ⟨vb, rfl, -, hc, hb⟩; replace HR := zM (HS.out.growR hb HR.out (by decide)); replace HS := zM (HS.out.draw hb hc); clear hc hb) | (refine gate_builtin (b := .append) (xs := #[.tmp 31, .tmp 34]) rfl ?_; at_builtin; refine Kd.R_append (Kd.int .u8) (w0 := w8) w.heap.size rfl (.tmp 31) (.tmp 34) 22 5 (.int .u8 0) 1 rfl hu22 info5 rfl (by decide) (by decide) v5 xs ((wrap64 (97 + Int.tmod (Int.tmod vb 2) 4)) % 256) [.int .u8 ((wrap64 (97 + Int.tmod (Int.tmod vb 2) 4)) % 256)] (fun _ => True) (fun _ => False) rfl rfl rfl (fun _ h => h.elim) (fun _ _ => trivial) HR.out (Below.refl _ _) HS.out.st.grown.size (by have := HK.out; omega) ?_; intro v9 w9 hR _ hg _; have n0_ := zM (HS.out.growN hg (fun b hb => Kd.R_base HR.out b hb) (Kd.R_typed HR.out) rfl); have n1_ := zM (hR); clear HS HR; have HS := n0_; have HR := n1_; clear n0_ n1_; clear hR hg))
    go_roundg k1
    case measure => omega
    case rel => exact ⟨_, by first | rfl | rw [hw2], ⟨by have := HK.out; rw [List.length_append]; simp only [List.length_singleton]; omega⟩, HR, HS⟩
theorem path2_any {w0 w : World} {g : Nat} {lc : List Int} (hc : Cur w0 w g lc) :
  Calls Tryz.prog 30 #[.pointer (some ⟨g, 0, none⟩)] w fun e w' => ∃ s : ByteArray, e = .returned (.string s) ∧ s.size ≤ 100 ∧ Cur w0 w' g lc ∧ w.grownBy w' (some g) := by
 have HS := zM (SC.start hc)
 clear hc
 go_enter Tryz.func30, Tryz.ntmps30
 go_wp2_with (first | (go_at_call 26; (with_reducible refine (drBelow_any HS.out.cur _).mono ?_); rintro e w3 ⟨k, rfl, hvk, hc, hb⟩; replace HS := zM (HS.out.draw hb hc); clear hc hb))
 obtain ⟨K, hK⟩ := Int.eq_ofNat_of_zero_le hvk.1
 have HKm := zM (show K ≤ 4 from by have := hvk.2.1 (by omega); omega)
 go_loopg [3, 4] K (fun kq v3 v4 w' => ∃ (s : ByteArray) (x : Int), v3 = .string s ∧ v4 = .int .i64 x ∧ Aside0 (x = (kq : Int)) ∧ Aside0 (s.size + 13 * kq ≤ 90) ∧ Aside0 (SC w0 g lc w w' []))
 case atStart => exact ⟨_, k, rfl, rfl, ⟨hK⟩, ⟨by have := HKm.out; show 0 + _ ≤ _; omega⟩, HS⟩
 case round =>
  clear HS hK hvk
  obtain ⟨s, x, rfl, rfl, HX, HK, HS⟩ := hrel
  have hss : s.size ≤ 90 := by have := HK.out; omega
  cases gk with
  | zero =>
   have hp : decide ((0 : Int) < x) = false := decide_eq_false (by have := HX.out; omega)
   by_cases hn : s.size = 0
   ·have e1 := nil_forms s hn
    clear hn
    go_upto_if 46 with (first | (go_at_call 14; (with_reducible refine (drOnce_any HS.out.cur _).mono ?_); rintro e w8 ⟨o2, rfl, hc, hb⟩; replace HS := zM (HS.out.draw hb hc); clear hc hb))
    cases o2
    ·go_wp2
     go_ret
     exact ⟨_, rfl, by have := HK.out; (try simp only [ByteArray.size_append]); have e1 : (⟨#[47]⟩ : ByteArray).size = 1 := rfl; omega, HS.out.cur, HS.out.st.grown⟩
    ·go_wp2_with (first | ((with_reducible refine gD 48 rfl ?_); refine sc_lit Kd.string 9 rfl (N := 48) rfl (xs := ([(⟨#[]⟩ : ByteArray), (⟨#[97]⟩ : ByteArray), (⟨#[47, 97, 47, 98, 47, 99, 47, 100, 47, 97, 47, 98, 47, 99, 47, 100, 47, 97, 47, 98, 47, 99, 47, 100, 47, 97, 47, 98, 47, 99, 47, 100, 47, 97, 47, 98, 47, 99, 47, 100, 47, 97, 47, 98, 47, 99, 47, 100, 47, 97, 47, 98, 47, 99, 47, 100, 47, 97, 47, 98]⟩ : ByteArray), (⟨#[47, 97, 47, 98, 47, 99, 47, 100, 47, 97, 47, 98, 47, 99, 47, 100, 47, 97, 47, 98, 47, 99, 47, 100, 47, 97, 47, 98, 47, 99, 47, 100, 47, 97, 47, 98, 47, 99, 47, 100, 47, 97, 47, 98, 47, 99, 47, 100, 47, 97, 47, 98, 47, 99, 47, 100, 47, 97, 47]⟩ : ByteArray)] : List ByteArray)) (inner := [.string ⟨#[]⟩, .string ⟨#[97]⟩, .string ⟨#[47, 97, 47, 98, 47, 99, 47, 100, 47, 97, 47, 98, 47, 99, 47, 100, 47, 97, 47, 98, 47, 99, 47, 100, 47, 97, 47, 98, 47, 99, 47, 100, 47, 97, 47, 98, 47, 99, 47, 100, 47, 97, 47, 98, 47, 99, 47, 100, 47, 97, 47, 98, 47, 99, 47, 100, 47, 97, 47, 98]⟩, .string ⟨#[47, 97, 47, 98, 47, 99, 47, 100, 47, 97, 47, 98, 47, 99, 47, 100, 47, 97, 47, 98, 47, 99, 47, 100, 47, 97, 47, 98, 47, 99, 47, 100, 47, 97, 47, 98, 47, 99, 47, 100, 47, 97, 47, 98, 47, 99, 47, 100, 47, 97, 47, 98, 47, 99, 47, 100, 47, 97, 47]⟩]) ?b2 (reps_strs _ _ _ _) (by simp) HS.out ?_; (case b2 => first | (go_simp; done) | (go_simp; rfl)); intro Ap cp w9 n0_ HL_ _; clear HS; have HS := n0_; clear n0_) | (go_at_call 28; refine (drStrs_any HS.out.cur 60 (by decide) (by simp) HL_.out).mono ?_; rintro e w10 ⟨r, rfl, hvr, hc, hb⟩; replace HS := zM (HS.out.draw hb hc); clear hc hb; clear HL_))
     go_ret
     exact ⟨_, rfl, by first | omega | (refine Nat.le_trans hvr ?_; decide), HS.out.cur, HS.out.st.grown⟩
   have e1 := nil_not s hn
   have e2 : (s.toList != ([] : List UInt8)) = true := by simpa using e1
   have e3 : s.toList.isEmpty = false := by simpa using e1
   have e4 : (s.toList == ([] : List UInt8)) = false := by simpa using e1
   go_upto_if 42 with (first | (go_at_call 14; (with_reducible refine (drOnce_any HS.out.cur _).mono ?_); rintro e w4 ⟨o1, rfl, hc, hb⟩; replace HS := zM (HS.out.draw hb hc); clear hc hb))
   cases o1
   ·go_upto_if 46 with (first | (go_at_call 14; (with_reducible refine (drOnce_any HS.out.cur _).mono ?_); rintro e w8 ⟨o2, rfl, hc, hb⟩; replace HS := zM (HS.out.draw hb hc); clear hc hb))
    cases o2
    ·go_wp2
     go_ret
     exact ⟨_, rfl, by have := HK.out; (try simp only [ByteArray.size_append]); have e1 : (⟨#[47]⟩ : ByteArray).size = 1 := rfl; omega, HS.out.cur, HS.out.st.grown⟩
    ·go_wp2_with (first | ((with_reducible refine gD 48 rfl ?_); refine sc_lit Kd.string 9 rfl (N := 48) rfl (xs := ([(⟨#[]⟩ : ByteArray), (⟨#[97]⟩ : ByteArray), (⟨#[47, 97, 47, 98, 47, 99, 47, 100, 47, 97, 47, 98, 47, 99, 47, 100, 47, 97, 47, 98, 47, 99, 47, 100, 47, 97, 47, 98, 47, 99, 47, 100, 47, 97, 47, 98, 47, 99, 47, 100, 47, 97, 47, 98, 47, 99, 47, 100, 47, 97, 47, 98, 47, 99, 47, 100, 47, 97, 47, 98]⟩ : ByteArray), (⟨#[47, 97, 47, 98, 47, 99, 47, 100, 47, 97, 47, 98, 47, 99, 47, 100, 47, 97, 47, 98, 47, 99, 47, 100, 47, 97, 47, 98, 47, 99, 47, 100, 47, 97, 47, 98, 47, 99, 47, 100, 47, 97, 47, 98, 47, 99, 47, 100, 47, 97, 47, 98, 47, 99, 47, 100, 47, 97, 47]⟩ : ByteArray)] : List ByteArray)) (inner := [.string ⟨#[]⟩, .string ⟨#[97]⟩, .string ⟨#[47, 97, 47, 98, 47, 99, 47, 100, 47, 97, 47, 98, 47, 99, 47, 100, 47, 97, 47, 98, 47, 99, 47, 100, 47, 97, 47, 98, 47, 99, 47, 100, 47, 97, 47, 98, 47, 99, 47, 100, 47, 97, 47, 98, 47, 99, 47, 100, 47, 97, 47, 98, 47, 99, 47, 100, 47, 97, 47, 98]⟩, .string ⟨#[47, 97, 47, 98, 47, 99, 47, 100, 47, 97, 47, 98, 47, 99, 47, 100, 47, 97, 47, 98, 47, 99, 47, 100, 47, 97, 47, 98, 47, 99, 47, 100, 47, 97, 47, 98, 47, 99, 47, 100, 47, 97, 47, 98, 47, 99, 47, 100, 47, 97, 47, 98, 47, 99, 47, 100, 47, 97, 47]⟩]) ?b2 (reps_strs _ _ _ _) (by simp) HS.out ?_; (case b2 => first | (go_simp; done) | (go_simp; rfl)); intro Ap cp w9 n0_ HL_ _; clear HS; have HS := n0_; clear n0_) | (go_at_call 28; refine (drStrs_any HS.out.cur 60 (by decide) (by simp) HL_.out).mono ?_; rintro e w10 ⟨r, rfl, hvr, hc, hb⟩; replace HS := zM (HS.out.draw hb hc); clear hc hb; clear HL_))
     go_ret
     exact ⟨_, rfl, by first | omega | (refine Nat.le_trans hvr ?_; decide), HS.out.cur, HS.out.st.grown⟩
   ·go_upto_if 46 with (first | (go_at_call 14; (with_reducible refine (drOnce_any HS.out.cur _).mono ?_); rintro e w8 ⟨o2, rfl, hc, hb⟩; replace HS := zM (HS.out.draw hb hc); clear hc hb))
    cases o2
    ·go_wp2
     go_ret
     exact ⟨_, rfl, by have := HK.out; (try simp only [ByteArray.size_append]); have e1 : (⟨#[47]⟩ : ByteArray).size = 1 := rfl; omega, HS.out.cur, HS.out.st.grown⟩
    ·go_wp2_with (first | ((with_reducible refine gD 48 rfl ?_); refine sc_lit Kd.string 9 rfl (N := 48) rfl (xs := ([(⟨#[]⟩ : ByteArray), (⟨#[97]⟩ : ByteArray), (⟨#[47, 97, 47, 98, 47, 99, 47, 100, 47, 97, 47, 98, 47, 99, 47, 100, 47, 97, 47, 98, 47, 99, 47, 100, 47, 97, 47, 98, 47, 99, 47, 100, 47, 97, 47, 98, 47, 99, 47, 100, 47, 97, 47, 98, 47, 99, 47, 100, 47, 97, 47, 98, 47, 99, 47, 100, 47, 97, 47, 98]⟩ : ByteArray), (⟨#[47, 97, 47, 98, 47, 99, 47, 100, 47, 97, 47, 98, 47, 99, 47, 100, 47, 97, 47, 98, 47, 99, 47, 100, 47, 97, 47, 98, 47, 99, 47, 100, 47, 97, 47, 98, 47, 99, 47, 100, 47, 97, 47, 98, 47, 99, 47, 100, 47, 97, 47, 98, 47, 99, 47, 100, 47, 97, 47]⟩ : ByteArray)] : List ByteArray)) (inner := [.string ⟨#[]⟩, .string ⟨#[97]⟩, .string ⟨#[47, 97, 47, 98, 47, 99, 47, 100, 47, 97, 47, 98, 47, 99, 47, 100, 47, 97, 47, 98, 47, 99, 47, 100, 47, 97, 47, 98, 47, 99, 47, 100, 47, 97, 47, 98, 47, 99, 47, 100, 47, 97, 47, 98, 47, 99, 47, 100, 47, 97, 47, 98, 47, 99, 47, 100, 47, 97, 47, 98]⟩, .string ⟨#[47, 97, 47, 98, 47, 99, 47, 100, 47, 97, 47, 98, 47, 99, 47, 100, 47, 97, 47, 98, 47, 99, 47, 100, 47, 97, 47, 98, 47, 99, 47, 100, 47, 97, 47, 98, 47, 99, 47, 100, 47, 97, 47, 98, 47, 99, 47, 100, 47, 97, 47, 98, 47, 99, 47, 100, 47, 97, 47]⟩]) ?b2 (reps_strs _ _ _ _) (by simp) HS.out ?_; (case b2 => first | (go_simp; done) | (go_simp; rfl)); intro Ap cp w9 n0_ HL_ _; clear HS; have HS := n0_; clear n0_) | (go_at_call 28; refine (drStrs_any HS.out.cur 60 (by decide) (by simp) HL_.out).mono ?_; rintro e w10 ⟨r, rfl, hvr, hc, hb⟩; replace HS := zM (HS.out.draw hb hc); clear hc hb; clear HL_))
     go_ret
     exact ⟨_, rfl, by first | omega | (refine Nat.le_trans hvr ?_; decide), HS.out.cur, HS.out.st.grown⟩
  | succ k1 =>
   have hp : (0 : Int) < x := by have := HX.out; omega
   have hw2 : wrap64 (x - 1) = x - 1 := by have := HK.out; have := HX.out; exact w64 (by omega) (by omega)
   go_upto_if 18 with (first | (go_at_call 32; (with_reducible refine (drName_any HS.out.cur).mono ?_); rintro e w5 ⟨nm, rfl, hvnm, hc, hb⟩; replace HS := zM (HS.out.draw hb hc); clear hc hb) | (go_at_call 26; (with_reducible refine (drBelow_any HS.out.cur _).mono ?_); rintro e w6 ⟨d, rfl, hvd, hc, hb⟩; replace HS := zM (HS.out.draw hb hc); clear hc hb))
   clear hvd
   cases c0 : (d == 0)
   case true =>
    go_wp2
    go_roundg k1
    case measure => omega
    case rel => exact ⟨_, x - 1, rfl, by first | rfl | rw [hw2], ⟨by have := HX.out; omega⟩, ⟨by have := HK.out; simp only [ByteArray.size_append]; have e1 : (⟨#[47]⟩ : ByteArray).size = 1 := rfl; have e2 : (⟨#[47, 46]⟩ : ByteArray).size = 2 := rfl; omega⟩, HS⟩
   cases c1 : (d == 1)
   case true =>
    go_wp2
    go_roundg k1
    case measure => omega
    case rel => exact ⟨_, x - 1, rfl, by first | rfl | rw [hw2], ⟨by have := HX.out; omega⟩, ⟨by have := HK.out; simp only [ByteArray.size_append]; have e1 : (⟨#[47]⟩ : ByteArray).size = 1 := rfl; have e2 : (⟨#[47, 46, 46]⟩ : ByteArray).size = 3 := rfl; omega⟩, HS⟩
   cases c2 : (d == 2)
   case true =>
    go_wp2
    go_roundg k1
    case measure => omega
    case rel => exact ⟨_, x - 1, rfl, by first | rfl | rw [hw2], ⟨by have := HX.out; omega⟩, ⟨by have := HK.out; simp only [ByteArray.size_append]; have e1 : (⟨#[47]⟩ : ByteArray).size = 1 := rfl; omega⟩, HS⟩
   cases c3 : (d == 3)
   case true =>
    go_wp2_with (first | ((with_reducible refine gD 34 rfl ?_); refine sc_lit Kd.string 9 rfl (N := 34) rfl (xs := ([(⟨#[108, 111, 110, 103, 110, 97, 109, 101, 57]⟩ : ByteArray), (⟨#[65, 66, 67]⟩ : ByteArray), (⟨#[120, 32, 121]⟩ : ByteArray), (⟨#[46, 104, 105, 100]⟩ : ByteArray), (⟨#[46, 46, 46]⟩ : ByteArray)] : List ByteArray)) (inner := [.string ⟨#[108, 111, 110, 103, 110, 97, 109, 101, 57]⟩, .string ⟨#[65, 66, 67]⟩, .string ⟨#[120, 32, 121]⟩, .string ⟨#[46, 104, 105, 100]⟩, .string ⟨#[46, 46, 46]⟩]) ?b2 (reps_strs _ _ _ _) (by simp) HS.out ?_; (case b2 => first | (go_simp; done) | (go_simp; rfl)); intro Ap cp w9 n0_ HL_ _; clear HS; have HS := n0_; clear n0_) | (go_at_call 28; refine (drStrs_any HS.out.cur 9 (by decide) (by simp) HL_.out).mono ?_; rintro e w10 ⟨r, rfl, hvr, hc, hb⟩; replace HS := zM (HS.out.draw hb hc); clear hc hb; clear HL_))
    go_roundg k1
    case measure => omega
    case rel => exact ⟨_, x - 1, rfl, by first | rfl | rw [hw2], ⟨by have := HX.out; omega⟩, ⟨by have := HK.out; simp only [ByteArray.size_append]; have e1 : (⟨#[47]⟩ : ByteArray).size = 1 := rfl; omega⟩, HS⟩
   go_wp2
   go_roundg k1
   case measure => omega
   case rel => exact ⟨_, x - 1, rfl, by first | rfl | rw [hw2], ⟨by have := HX.out; omega⟩, ⟨by have := HK.out; simp only [ByteArray.size_append]; have e1 : (⟨#[47]⟩ : ByteArray).size = 1 := rfl; omega⟩, HS⟩
theorem way_any {w0 w : World} {g : Nat} {lc : List Int} (hc : Cur w0 w g lc) (nx : Int) (v : Value) (l : List S37) (hv : VolO w v l) (hs : volSmall l) :
  Calls Tryz.prog 13 #[.pointer (some ⟨g, 0, none⟩), .agg #[.int .i64 nx, v]] w fun e w' => ∃ s : ByteArray, e = .returned (.string s) ∧ s.size ≤ 8000000 ∧ Cur w0 w' g lc ∧ w.grownBy w' (some g) := by
 have hu26 := Tryz.underlying26
 have hu59 := Tryz.underlying59
 obtain ⟨A, c, rfl, hcc, -⟩ := hv.reads
 have HV := zM hv
 have HC := zM hcc
 have HSm := zM hs
 have hm : l.length ≤ 1048576 := hs.1
 have HS := zM (SC.start hc)
 clear hc
 clear hv hs hcc
 go_enter Tryz.func13, Tryz.ntmps13
 go_upto_if 11 with (first | ((with_reducible refine gD 3 rfl ?_); refine cB #[.int .i64 nx, .slice A l.length c] 26 HS ?_; clear HS; intro g3 w3 HS _) | (go_at_call 14; (with_reducible refine (drOnce_any HS.out.cur _).mono ?_); rintro e w4 ⟨o1, rfl, hc, hb⟩; replace HS := zM (HS.out.draw hb hc); clear hc hb))
 cases o1
 case true =>
  go_wp2_with (first | (go_at_call 30; (with_reducible refine (path2_any HS.out.cur).mono ?_); rintro e w5 ⟨s, rfl, hss, hc, hb⟩; replace HS := zM (HS.out.draw hb hc); clear hc hb))
  go_ret
  exact ⟨_, rfl, by omega, HS.out.cur, HS.out.st.grown⟩
 go_wp2_with (first | (go_at_call 26; (with_reducible refine (drBelow_any HS.out.cur _).mono ?_); rintro e w5 ⟨k, rfl, hvk, hc, hb⟩; replace HS := zM (HS.out.draw hb hc); clear hc hb))
 obtain ⟨K, hK⟩ := Int.eq_ofNat_of_zero_le hvk.1
 have HKm := zM (show K ≤ 3 from by have := hvk.2.1 (by omega); omega)
 go_loopg [5, 6, 7] (K + 1) (fun kq v5 v6 v7 w' => ∃ (s : ByteArray) (cur x : Int), v5 = .string s ∧ v6 = .int .i64 cur ∧ v7 = .int .i64 x ∧ Aside0 (x + 1 = (kq : Int)) ∧ Aside0 (s.size + 1048577 * kq ≤ 4194308) ∧ Aside0 (SC w0 g lc w w' [(g3, 26, #[.int .i64 nx, .slice A l.length c])]))
 case atStart => exact ⟨_, 1, k, rfl, rfl, rfl, ⟨by omega⟩, ⟨by have := HKm.out; show 0 + _ ≤ _; omega⟩, HS⟩
 case round =>
  clear HS hK hvk
  obtain ⟨s, cur, x, rfl, rfl, rfl, HX, HK, HS⟩ := hrel
  have hss : s.size ≤ 4194308 := by have := HK.out; omega
  obtain ⟨z0, z1⟩ := HS.out.cells2 0 rfl
  cases gk with
  | zero =>
   have hp : decide ((0 : Int) ≤ x) = false := decide_eq_false (by have := HX.out; omega)
   go_wp2
   go_ret
   exact ⟨_, rfl, by omega, HS.out.cur, HS.out.st.grown⟩
  | succ k1 =>
   have hp : (0 : Int) ≤ x := by have := HX.out; omega
   have hw2 : wrap64 (x - 1) = x - 1 := by have := HK.out; have := HX.out; exact w64 (by omega) (by omega)
   have HA := zM (fun W (hW : SC w0 g lc w W [(g3, 26, #[.int .i64 nx, .slice A l.length c])]) => atS_any nx A c l cur W (Kd.R_reads' (hW.vol HV.out)).2.2 HC.out HSm.out)
   by_cases hi : inoI l cur < l.length
   case neg =>
    have hat : atV l cur = -1 := by unfold atV; rw [if_neg hi]
    rw [hat] at HA
    clear hi hat
    go_wp2_with (first | (go_at_call 31; refine (HA.out _ HS.out).mono ?_; rintro e w8 ⟨rfl, hb⟩; replace HS := zM (HS.out.call hb); clear hb; obtain ⟨z0, z1⟩ := HS.out.cells2 0 rfl) | (go_at_call 32; (with_reducible refine (drName_any HS.out.cur).mono ?_); rintro e w9 ⟨nm, rfl, hvnm, hc, hb⟩; replace HS := zM (HS.out.draw hb hc); clear hc hb))
    go_ret
    exact ⟨_, rfl, by have := HK.out; (try simp only [ByteArray.size_append]); have e1 : (⟨#[47]⟩ : ByteArray).size = 1 := rfl; omega, HS.out.cur, HS.out.st.grown⟩
   obtain ⟨i, hie⟩ : ∃ i, i = inoI l cur := ⟨_, rfl⟩
   have hat : atV l cur = (i : Int) := by unfold atV; rw [if_pos hi, hie]
   have hil : i < l.length := by omega
   have hili : (i : Int) < (l.length : Int) := by omega
   rw [hat] at HA
   clear hi hat hie
   go_upto_region 9 with (first | (go_at_call 31; refine (HA.out _ HS.out).mono ?_; rintro e w8 ⟨rfl, hb⟩; replace HS := zM (HS.out.call hb); clear hb; clear z0 z1))
   obtain ⟨ad, c', A6, c6, e1, hx, hN⟩ := (HS.out.vol HV.out).ino i hil
   obtain ⟨rfl, rfl⟩ : A = some ad ∧ c = c' := by injection e1 with e1 e2 e3; exact ⟨e1, e3⟩
   have hne : (ad.add (i * 9)).block ≠ g := by rw [add_block]; exact HS.out.far (HS.out.vol HV.out) (by decide) ad rfl (by omega)
   have HDs := zM (HSm.out.2.2.2 _ (List.getElem_mem hil))
   have HN := zM hN
   have hL6 : l[i].f6.length ≤ 1048576 := HSm.out.2.1 _ (List.getElem_mem hil)
   clear e1 hN
   generalize l[i] = xi at HN HDs hx hL6
   obtain ⟨n6, hn6⟩ : ∃ q, q = xi.f6.length := ⟨_, rfl⟩
   have HN6 := zM hn6
   obtain ⟨hx0, hx1, hx2, hx3, hx4, hx5, hx6, hx7, hx8⟩ := hx
   rw [← hn6] at HN hx6 hL6
   clear hn6
   obtain ⟨z0, z1⟩ := HS.out.cells2 0 rfl
   by_cases hz : n6 = 0
   ·subst hz
    go_wp2_with (first | (go_at_call 32; (with_reducible refine (drName_any HS.out.cur).mono ?_); rintro e w9 ⟨nm, rfl, hvnm, hc, hb⟩; replace HS := zM (HS.out.draw hb hc); clear hc hb))
    go_ret
    exact ⟨_, rfl, by have := HK.out; (try simp only [ByteArray.size_append]); have e1 : (⟨#[47]⟩ : ByteArray).size = 1 := rfl; omega, HS.out.cur, HS.out.st.grown⟩
   have hz' : ((n6 : Int) == 0) = false := beq_eq_false_iff_ne.2 (by omega)
   go_upto_region 11 with (fail)
   obtain ⟨wr', hwr⟩ : ∃ q, q = w8 := ⟨_, rfl⟩
   have hy6 : ∀ y : Kx [g] w8, y.W.cell? ⟨(ad.add (i * 9)).block, (ad.add (i * 9)).off + 6, none⟩ = some (.slice A6 n6 c6) := fun y => y.cell hx6 (by simpa using hne)
   clear z0 z1 hx0 hx1 hx2 hx3 hx4 hx5 hx6 hx7 hx8 hwr wr'
   have hne_ : g3 ∉ [g] := by simpa using HS.out.neC 0 rfl
   have hz0 := Kx.box HS.out.st 0 rfl hne_ 0 rfl
   have hz1 := Kx.box HS.out.st 0 rfl hne_ 1 rfl
   clear hne_
   have hfarN := HS.out.far HN.out (by decide)
   try simp only [Act.put, List.setIfInBounds_toArray, List.set_cons_zero, List.set_cons_succ]
   refine wp_region_mixF (KxS [g] w8) 17 [([15, 16], 17), ([], 18)] [([15, 16], 18)] [([0, 1, 2, 3, 4, 5, 6, 7, 8, 9, 10, 11, 12, 13], 14)] [] (by kernel_rfl) (by kernel_rfl) (fun _ _ _ _ h => h) (KxS.drew _ _) ?_
   have hK := KxS.drew [g] w8
   replace HS := zM (HS.out.drew)
   refine mixF_seg ?_
   simp only [pickO, List.map]
   repeat (go_big_quiet_step (fail))
   refine wpQuiet_nil ?_
   refine ⟨?_, ?_⟩
   ·refine cB #[.string ⟨#[]⟩, .int .i64 0] 59 HS ?_; intro g9 w17 n0_ n1_; clear HS; have HS := n0_; have HG := zM (grown_below n1_.out.1 none); have hs9 := Nat.le_trans (KxS.size hK) n1_.out.2; (try (have n3_ := zM (Kd.R_below HL_.out n1_.out.1); clear HL_; have HL_ := n3_; clear n3_)); clear n0_ n1_
    refine ⟨hK.grow HG.out (by simp), fun hK => mix_seg ?_⟩
    clear HG
    simp only [pickO, List.map]
    repeat (go_big_quiet_step (fail))
    refine wpQuiet_nil ?_
    go_wp2_with (first | (go_at_call 26; (with_reducible refine (drBelow_any HS.out.cur _).mono ?_); rintro e w14 ⟨j, rfl, hvj, hc, hb⟩; have HG := zM hb; replace HS := zM (HS.out.draw hb hc); clear hc hb)); obtain ⟨jn, rfl⟩ := Int.eq_ofNat_of_zero_le hvj.1; have hjn : jn < n6 := (by have := hvj.2.1 (by omega); omega); have hjni : (jn : Int) < (n6 : Int) := (by omega); have hjn' : jn < xi.f6.length := (by rw [← HN6.out]; exact hjn); obtain ⟨bd, rfl, hD⟩ := HN.out.dir jn hjn'; have hnd : (bd.add (jn * 2)).block ≠ g := (by rw [add_block]; exact hfarN bd rfl (by omega)); have hds : xi.f6[jn].f0.size ≤ 1048576 := HDs.out _ (List.getElem_mem hjn'); generalize xi.f6[jn] = d at hD hds; have hd0 : ∀ y : Kx [g] w8, y.W.cell? (bd.add (jn * 2)) = some (.string d.f0) := fun y => y.cell hD.1 (by simpa using hnd); have hd1 : ∀ y : Kx [g] w8, y.W.cell? ⟨(bd.add (jn * 2)).block, (bd.add (jn * 2)).off + 1, none⟩ = some (.int .i64 d.f1) := fun y => y.cell hD.2 (by simpa using hnd); clear hD
    refine ⟨hK.grow HG.out (by simp), fun hK => mix_seg ?_⟩
    clear HG
    simp only [pickO, List.map]
    repeat (go_big_quiet_step (fail))
    refine wpQuiet_nil ?_
    refine cS 0 [.string d.f0, .int .i64 d.f1] HS ?_; intro w18 n0_ n1_; clear HS; have HS := n0_; have HG := n1_; clear n0_ n1_
    refine ⟨hK.grow HG.out (fun b hb => .inr (by injection hb with hb; rw [← hb]; exact hs9)), fun hK => mix_end ?_⟩
    clear HG
    simp only [pickO, List.map]
    repeat (go_big_quiet_step (fail))
    refine wpQuiet_nil ?_
    obtain ⟨q0, q1⟩ := HS.out.cells2 0 rfl
    go_wp2
    go_roundg k1
    case measure => omega
    case rel => exact ⟨_, _, x - 1, rfl, rfl, by first | rfl | rw [hw2], ⟨by have := HX.out; omega⟩, ⟨by have := HK.out; simp only [ByteArray.size_append]; have e1 : (⟨#[47]⟩ : ByteArray).size = 1 := rfl; omega⟩, ⟨HS.out.tail⟩⟩
   go_wp2_with (first | (go_at_call 26; (with_reducible refine (drBelow_any HS.out.cur _).mono ?_); rintro e w14 ⟨j, rfl, hvj, hc, hb⟩; have HG := zM hb; replace HS := zM (HS.out.draw hb hc); clear hc hb)); obtain ⟨jn, rfl⟩ := Int.eq_ofNat_of_zero_le hvj.1; have hjn : jn < n6 := (by have := hvj.2.1 (by omega); omega); have hjni : (jn : Int) < (n6 : Int) := (by omega); have hjn' : jn < xi.f6.length := (by rw [← HN6.out]; exact hjn); obtain ⟨bd, rfl, hD⟩ := HN.out.dir jn hjn'; have hnd : (bd.add (jn * 2)).block ≠ g := (by rw [add_block]; exact hfarN bd rfl (by omega)); have hds : xi.f6[jn].f0.size ≤ 1048576 := HDs.out _ (List.getElem_mem hjn'); generalize xi.f6[jn] = d at hD hds; have hd0 : ∀ y : Kx [g] w8, y.W.cell? (bd.add (jn * 2)) = some (.string d.f0) := fun y => y.cell hD.1 (by simpa using hnd); have hd1 : ∀ y : Kx [g] w8, y.W.cell? ⟨(bd.add (jn * 2)).block, (bd.add (jn * 2)).off + 1, none⟩ = some (.int .i64 d.f1) := fun y => y.cell hD.2 (by simpa using hnd); clear hD
   refine ⟨hK.grow HG.out (by simp), fun hK => ?_⟩
   clear HG
   refine mixF_nil (mix_seg ?_)
   simp only [pickO, List.map]
   repeat (go_big_quiet_step (fail))
   refine wpQuiet_nil ?_
   refine cB #[.string ⟨#[]⟩, .int .i64 0] 59 HS ?_; intro g9 w17 n0_ n1_; clear HS; have HS := n0_; have HG := zM (grown_below n1_.out.1 none); have hs9 := Nat.le_trans (KxS.size hK) n1_.out.2; (try (have n3_ := zM (Kd.R_below HL_.out n1_.out.1); clear HL_; have HL_ := n3_; clear n3_)); clear n0_ n1_
   refine ⟨hK.grow HG.out (by simp), fun hK => mix_seg ?_⟩
   clear HG
   simp only [pickO, List.map]
   repeat (go_big_quiet_step (fail))
   refine wpQuiet_nil ?_
   refine cS 0 [.string d.f0, .int .i64 d.f1] HS ?_; intro w18 n0_ n1_; clear HS; have HS := n0_; have HG := n1_; clear n0_ n1_
   refine ⟨hK.grow HG.out (fun b hb => .inr (by injection hb with hb; rw [← hb]; exact hs9)), fun hK => mix_end ?_⟩
   clear HG
   simp only [pickO, List.map]
   repeat (go_big_quiet_step (fail))
   refine wpQuiet_nil ?_
   obtain ⟨q0, q1⟩ := HS.out.cells2 0 rfl
   go_wp2
   go_roundg k1
   case measure => omega
   case rel => exact ⟨_, _, x - 1, rfl, rfl, by first | rfl | rw [hw2], ⟨by have := HX.out; omega⟩, ⟨by have := HK.out; simp only [ByteArray.size_append]; have e1 : (⟨#[47]⟩ : ByteArray).size = 1 := rfl; omega⟩, ⟨HS.out.tail⟩⟩
end Go.Proofs.YtiopcpkfjikfdaaGreatDoor.PFnClean
