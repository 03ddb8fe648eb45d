/- By hand. -/
import Derived.Test.YtiopcpkfjikfdaaRvMk
import Derived.Test.YtiopcpkfjikfdaaMath
import Derived.Test.YtiopcpkfjikfdaaStr
namespace Go.Proofs.Ytiopcpkfjikfdaa.PFnExactVolOk
open Go.RowKit Go.Proofs.YtiopcpkfjikfdaaW.PrintWords Go.Proofs.YtiopcpkfjikfdaaW.PrintLast Go.Proofs.YtiopcpkfjikfdaaW.PrintMore
open Go.Proofs.Ytiopcpkfjikfdaa.Mth Go.Proofs.Ytiopcpkfjikfdaa.Str
set_option linter.unusedVariables false
set_option linter.unusedSimpArgs false
/-! ### marks: what is written into a volume's memory -/
theorem mtL_some : ∀ (d : Nat) (x : Int) (acc : ByteArray), 0 ≤ x → x ≤ 1000000000 → x < 10 ^ d → acc.size + d ≤ 1000 → ∃ r, laws_markText.l0 (d + 1) x acc = some r
  | 0, x, acc, h0, hb, h1, ha => by
    have : x = 0 := by simp at h1; omega
    subst this
    simp only [laws_markText.l0]
    rw [if_neg (by omega), if_pos (by omega)]
    exact ⟨_, rfl⟩
  | d + 1, x, acc, h0, hb, h1, ha => by
    unfold laws_markText.l0
    by_cases hx : x > 0
    · have e1 : (strOfNums [(wrap64 (48 + (Int.tmod x 10))) % 256]).size = 1 := by rfl
      have hd : Int.tdiv x 10 = x / 10 := Int.tdiv_eq_ediv_of_nonneg h0
      have hw : wrap64 (Int.tdiv x 10) = x / 10 := by rw [hd]; exact w64 (by omega) (by omega)
      rw [if_pos hx, Option.bind_some, if_pos (by omega), hw]
      refine mtL_some d (x / 10) _ (by omega) (by omega) ?_ (by rw [ByteArray.size_append]; omega)
      have : (10 : Int) ^ (d + 1) = 10 ^ d * 10 := Int.pow_succ ..
      omega
    · rw [if_neg hx, if_pos (by omega)]
      exact ⟨_, rfl⟩
theorem mt_some (x : Int) (h0 : 0 ≤ x) (hb : x ≤ 1000000000) : ∃ r, laws_markText.f 12 x = some r := by
  unfold laws_markText.f
  by_cases h : x ≤ 0
  · rw [if_pos h]; exact ⟨_, rfl⟩
  · rw [if_neg h]; exact mtL_some 11 x _ h0 hb (by omega) (by decide)
/-- a mark's text -/
def mtB (x : Int) : ByteArray := (laws_markText.f 12 x).getD ⟨#[]⟩
theorem mt_eq (x : Int) (h0 : 0 ≤ x) (hb : x ≤ 1000000000) : laws_markText.f 12 x = some (mtB x) := by
  obtain ⟨r, h⟩ := mt_some x h0 hb
  unfold mtB
  rw [h]; rfl
theorem mt_any (x : Int) (w : World) (h0 : 0 ≤ x) (hb : x ≤ 1000000000) : Calls Try.prog 78 #[.int .i64 x] w fun e w' => e = .returned (.string (mtB x)) ∧ Below w.heap.size w w' :=
  laws_markText.calls 12 x _ w (mt_eq x h0 hb)
/-- a directory's names, marked from k on -/
def mkDs : Int → List S68 → List S68
  | _, [] => []
  | k, _ :: ds => ⟨mtB k, k + 1⟩ :: mkDs (k + 2) ds
theorem mkDs_len : ∀ (ds : List S68) (k : Int), (mkDs k ds).length = ds.length
  | [], _ => rfl
  | _ :: ds, k => by rw [mkDs, List.length_cons, List.length_cons, mkDs_len ds]
theorem mkDs_snoc : ∀ (ds : List S68) (k : Int) (d : S68), mkDs k (ds ++ [d]) = mkDs k ds ++ [⟨mtB (k + 2 * ds.length), k + 2 * ds.length + 1⟩]
  | [], k, d => by simp [mkDs]
  | e :: ds, k, d => by
    rw [List.cons_append, mkDs, mkDs, mkDs_snoc ds, List.cons_append, List.length_cons]
    have : k + 2 + 2 * (ds.length : Int) = k + 2 * ((ds.length + 1 : Nat) : Int) := by omega
    rw [this]
theorem set_mid {α : Type} (A B : List α) (y z : α) (i : Nat) (h : i = A.length) : (A ++ y :: B).set i z = A ++ z :: B := by
  subst h
  rw [List.set_append_right _ _ (Nat.le_refl _), Nat.sub_self, List.set_cons_zero]
theorem markDs_loop (ds : List S68) (k : Int) (h0 : 0 ≤ k) (h1 : k + 2 * ds.length ≤ 100000000) : ∀ (d i : Nat), i + d = ds.length → laws_markDirentS.l0 (d + 13) (mkDs k (ds.take i) ++ ds.drop i) (k + 2 * i) (i : Int) = some (k + 2 * ds.length, mkDs k ds) := by
  intro d
  induction d with
  | zero =>
    intro i hi
    have e : i = ds.length := by omega
    subst e
    rw [List.take_length, List.drop_length, List.append_nil]
    simp only [laws_markDirentS.l0]
    rw [if_neg (by rw [mkDs_len]; omega)]
  | succ d ih =>
    intro i hi
    have hlt : i < ds.length := by omega
    have hl : (mkDs k (ds.take i)).length = i := by rw [mkDs_len, List.length_take]; omega
    have hf : ∀ m, laws_markText.f (d + 12 + m) (k + 2 * i) = some (mtB (k + 2 * i)) := by
      intro m
      exact at_rounds (fun k_ => laws_markText.mono (k + 2 * i) k_) (by omega) (mt_eq (k + 2 * i) (by omega) (by omega))
    have e4 : d + 1 + 13 = (d + 13) + 1 := by omega
    rw [e4]
    simp only [laws_markDirentS.l0]
    rw [if_pos (by rw [List.length_append, hl, List.length_drop]; omega), hf 1, Option.bind_some, if_pos (by omega), Option.bind_some]
    rw [List.drop_eq_getElem_cons hlt, Int.toNat_natCast, set_mid _ _ _ _ _ hl.symm, set_mid _ _ _ _ _ hl.symm]
    have e1 : wrap64 (k + 2 * (i : Int) + 1) = k + 2 * i + 1 := w64 (by omega) (by omega)
    have e2 : wrap64 (k + 2 * (i : Int) + 1 + 1) = k + 2 * ((i + 1 : Nat) : Int) := by rw [w64 (by omega) (by omega)]; omega
    have e3 : wrap64 ((i : Int) + 1) = ((i + 1 : Nat) : Int) := w64 (by omega) (by omega)
    rw [e1, e2, e3]
    have hr : (rd_T68 (mkDs k (ds.take i) ++ ⟨mtB (k + 2 * i), (rd_T68 (mkDs k (ds.take i) ++ ds[i] :: ds.drop (i + 1)) (i : Int)).f1⟩ :: ds.drop (i + 1)) (i : Int)).f0 = mtB (k + 2 * i) := by
      unfold rd_T68
      rw [Int.toNat_natCast, List.getD_eq_getElem?_getD, List.getElem?_append_right (by omega), hl, Nat.sub_self]
      rfl
    rw [hr]
    have := ih (i + 1) (by omega)
    rw [List.take_succ_eq_append_getElem hlt, mkDs_snoc, List.append_assoc, List.length_take, Nat.min_eq_left (by omega)] at this
    exact this
theorem markDs_any (P : Nat → Prop) (v : Value) (ds : List S68) (k : Int) (w0 w : World) (hB : Below w0.heap.size w0 w) (ho : Kd.R k68 68 w w0.heap.size P v ds) (h0 : 0 ≤ k) (h1 : k + 2 * ds.length ≤ 100000000) :
    Calls Try.prog 79 #[v, .int .i64 k] w fun e w' => e = .returned (.int .i64 (k + 2 * ds.length)) ∧ Kd.R k68 68 w' w0.heap.size P v (mkDs k ds) ∧ Below w0.heap.size w0 w' ∧ Kept w w' P := by
  have h := markDs_loop ds k h0 h1 ds.length 0 (by omega)
  rw [List.take_zero, List.drop_zero] at h
  simp only [mkDs, List.nil_append, Int.natCast_zero, Int.mul_zero, Int.add_zero] at h
  refine (laws_markDirentS.calls (ds.length + 13) P v ds k _ _ w0 w hB ho h).mono ?_
  rintro e w' ⟨h1, h2, h3, h4⟩
  exact ⟨h1, Kd.R_mono (Kd.R_tight rfl h2) (fun _ hk => ho.1 _ hk.symm), h3, h4⟩
/-- a row of inodes of which one is written -/
structure MkSt (w0 w W : World) (P : Nat → Prop) (g n cap : Nat) (l : List S45) (x : Nat) (oki : Nat → Prop) (v6 : Value) (ds : List S68) (c : List Value) : Prop where
  hh : Kd.H k45 45 W w0.heap.size P (.slice (some ⟨g, 0, none⟩) n cap) l (x : Int) oki c
  hk : Kept w W P
  hb : Below w0.heap.size w0 W
  hr : Kd.R k68 68 W w0.heap.size oki v6 ds
  ho : ∀ k, oki k → P k ∧ k ≠ g
namespace MkSt
variable {w0 w W W1 : World} {P : Nat → Prop} {g n cap : Nat} {l : List S45} {x : Nat} {oki : Nat → Prop} {v6 : Value} {ds ds' : List S68} {c : List Value}
theorem own (h : MkSt w0 w W P g n cap l x oki v6 ds c) : P g ∧ w0.heap.size ≤ g := by
  obtain ⟨_, f, hR⟩ := h.hh
  exact ⟨(hR.1 g (by simp [Value.ownBlock])).1, Kd.R_base hR g (by simp [Value.ownBlock])⟩
theorem cell (h : MkSt w0 w W P g n cap l x oki v6 ds c) (hx : x < n) (j : Nat) (u : Value) (hu : c[j]? = some u) : W.cell? ⟨g, x * 9 + j, none⟩ = some u ∧ W.frozen? ⟨g, x * 9 + j, none⟩ = false := by
  obtain ⟨rows, _, hraw, _, _, hcc, _⟩ := Kd.H_raw h.hh (by omega) (by omega)
  obtain ⟨_, _, _, _, hfr⟩ := Kd.R_elem hraw [] (x : Int) (by omega) (by omega)
  have e : ((x : Int).toNat) = x := Int.toNat_natCast x
  have h1 := hcc j u hu
  have h2 := hfr j
  rw [e] at h1 h2
  exact ⟨h1, h2⟩
theorem put (h : MkSt w0 w W P g n cap l x oki v6 ds c) (hx : x < n) (j : Nat) (u : Value) (hj : j < 9) (hu : u.oneCell' = true) : MkSt w0 w (W.setCell ⟨g, x * 9 + j, none⟩ u) P g n cap l x oki v6 ds (c.take j ++ [u] ++ c.drop (j + 1)) := by
  obtain ⟨h1, h2⟩ := Kd.H_seg (seg := [u]) (j := j) h.hh (by omega) (by omega) (show j + 1 ≤ 9 by omega) (fun q hq => by rw [List.mem_singleton.1 hq]; exact hu)
  rw [Int.toNat_natCast] at h1 h2
  have ho := h.own
  exact ⟨h1, Kept.of_grown h2 h.hk (fun k e => by injection e with e; subst e; exact .inl ho.1), below_set h.hb ho.2, Kd.R_far h.hr (fun k hk => (h.ho k hk).2) u, h.ho⟩
theorem grow (h : MkSt w0 w W P g n cap l x oki v6 ds c) (hb : Below W.heap.size W W1) : MkSt w0 w W1 P g n cap l x oki v6 ds c :=
  ⟨Kd.H_below h.hh hb, Kept.below h.hk hb, below_step h.hb hb, Kd.R_below h.hr hb, h.ho⟩
theorem marked (h : MkSt w0 w W P g n cap l x oki v6 ds c) (hb : Below w0.heap.size w0 W1) (hk : Kept W W1 oki) (hr : Kd.R k68 68 W1 w0.heap.size oki v6 ds') : MkSt w0 w W1 P g n cap l x oki v6 ds' c :=
  ⟨Kd.H_step h.hh (fun k _ hn hlt => hk.2 k hlt hn), ⟨Nat.le_trans h.hk.1 hk.1, fun k hlt hn => (hk.2 k (Nat.lt_of_lt_of_le hlt h.hk.1) (fun ho => hn (h.ho k ho).1)).trans (h.hk.2 k hlt hn)⟩, hb, hr, h.ho⟩
end MkSt
/-- an inode, marked from k on; and the number behind it -/
def mkI1 (k : Int) (x : S45) : S45 := ⟨k, k + 1, k + 2, k + 3, k + 4, mtB (k + 5), mkDs (k + 6) x.f6, k + 6 + 2 * x.f6.length, k + 7 + 2 * x.f6.length⟩
def mkNext (k : Int) (x : S45) : Int := k + 8 + 2 * x.f6.length
def mkIn : Int → List S45 → Int
  | k, [] => k
  | k, x :: l => mkIn (mkNext k x) l
def mkIs : Int → List S45 → List S45
  | _, [] => []
  | k, x :: l => mkI1 k x :: mkIs (mkNext k x) l
theorem mkIs_len : ∀ (l : List S45) (k : Int), (mkIs k l).length = l.length
  | [], _ => rfl
  | x :: l, k => by rw [mkIs, List.length_cons, List.length_cons, mkIs_len l]
theorem mkIs_snoc : ∀ (l : List S45) (k : Int) (x : S45), mkIs k (l ++ [x]) = mkIs k l ++ [mkI1 (mkIn k l) x] ∧ mkIn k (l ++ [x]) = mkNext (mkIn k l) x
  | [], k, x => ⟨rfl, rfl⟩
  | y :: l, k, x => by
    obtain ⟨h1, h2⟩ := mkIs_snoc l (mkNext k y) x
    exact ⟨by rw [List.cons_append, mkIs, h1]; rfl, h2⟩
theorem mkIn_le : ∀ (l : List S45) (k : Int), (∀ x ∈ l, x.f6.length ≤ 1000) → k ≤ mkIn k l ∧ mkIn k l ≤ k + 2008 * l.length
  | [], k, _ => by simp [mkIn]
  | x :: l, k, h => by
    have h1 := h x (by simp)
    obtain ⟨h2, h3⟩ := mkIn_le l (mkNext k x) (fun y hy => h y (by simp [hy]))
    unfold mkNext at h2 h3
    rw [mkIn, List.length_cons]
    unfold mkNext
    omega
def marksSmall (l : List S45) : Prop := l.length ≤ 1000 ∧ ∀ x ∈ l, x.f6.length ≤ 1000
set_option maxHeartbeats 4000000 in
set_option maxRecDepth 100000 in
theorem markIs_any (P : Nat → Prop) (v : Value) (l : List S45) (k0 : Int) (w0 w : World) (hB : Below w0.heap.size w0 w) (ho : Kd.S k45 45 w w0.heap.size P v l) (h0 : 0 ≤ k0) (h1 : k0 ≤ 1000) (hs : marksSmall l) :
    Calls Try.prog 58 #[v, .int .i64 k0] w fun e w' => e = .returned (.int .i64 (mkIn k0 l)) ∧ Kd.S k45 45 w' w0.heap.size P v (mkIs k0 l) ∧ Below w0.heap.size w0 w' ∧ Kept w w' P := by
  obtain ⟨A, c, rfl⟩ := Kd.S_slice ho
  have HO := Aside0.mk ho
  have HS := Aside0.mk hs
  have HK := Aside0.mk (Kept.refl w P)
  have HB := Aside0.mk hB
  clear hB ho hs
  go_enter Try.func58, Try.ntmps58
  go_wp2
  go_loopg [1, 5] l.length (fun kq v1 v5 w' => ∃ (x : Nat) (k : Int), v1 = .int .i64 k ∧ v5 = .int .i64 (x : Int) ∧ Aside0 (x + kq = l.length ∧ k = mkIn k0 (l.take x)) ∧ Aside0 (Kd.S k45 45 w' w0.heap.size P (.slice A l.length c) (mkIs k0 (l.take x) ++ l.drop x)) ∧ Aside0 (Kept w w' P) ∧ Aside0 (Below w0.heap.size w0 w'))
  case atStart => exact ⟨0, k0, rfl, rfl, ⟨by omega, rfl⟩, HO, HK, HB⟩
  case round =>
    clear HO HK HB
    obtain ⟨x, k, rfl, rfl, HX, HO, HK, HB⟩ := hrel
    by_cases hlt : x < l.length
    · cases gk with
      | zero => have := HX.out.1; omega
      | succ k1 =>
      have hk : 0 ≤ k ∧ k ≤ 3000000 := by
        have h1 := HX.out.2
        have h2 := mkIn_le (l.take x) k0 (fun y hy => HS.out.2 y (List.mem_of_mem_take hy))
        have h3 := HS.out.1
        rw [List.length_take] at h2
        omega
      have h6 : l[x].f6.length ≤ 1000 := HS.out.2 _ (List.getElem_mem hlt)
      have hl1 : (mkIs k0 (l.take x)).length = x := by rw [mkIs_len, List.length_take]; omega
      obtain ⟨g, cap, eS, gb_⟩ := Kd.S_form HO.out (by rw [List.length_append, hl1, List.length_drop]; omega)
      injection eS with eA en_ ec
      subst eA; subst ec; clear en_ gb_
      obtain ⟨oki, cs, hcl, hM, hcc, hfr, hoki, hH⟩ := Kd.S_elem HO.out z45 (x : Int) (by omega) (by omega)
      have hg1 : (mkIs k0 (l.take x) ++ l.drop x).getD (x : Int).toNat z45 = l[x] := by
        rw [Int.toNat_natCast, List.getD_eq_getElem?_getD, List.getElem?_append_right (by omega), hl1, Nat.sub_self, List.drop_eq_getElem_cons hlt]
        rfl
      rw [hg1] at hM
      obtain ⟨v6, rfl, hR6⟩ := k45_openM hM
      have HM := Aside0.mk (show MkSt w0 w wr P g l.length c (mkIs k0 (l.take x) ++ l.drop x) x oki v6 l[x].f6 _ from ⟨hH, HK.out, HB.out, hR6, hoki⟩)
      have HLX := Aside0.mk (And.intro hl1 h6)
      clear HO HK HB hM hcc hfr hH hcl hR6 hoki hg1 hl1 h6
      obtain ⟨hk0, hk9⟩ := hk
      have hl6 := HLX.out.2
      have hs1 := HS.out.1
      obtain ⟨hx, hf⟩ := MkSt.cell HM.out hlt 0 _ rfl
      rw [Nat.add_zero] at hx hf
      go_wp2_with (first | ((with_reducible refine gate_store (t := 3) (p := 16) rfl ?_); refine store_event (t := 3) (p := 16) (v := ?vo0) (w1 := (World.setCell wr ⟨g, x * 9, none⟩ (.int .i64 (k)))) ?hg ?ho ?hn ?hr ?_; (case ho => rfl); (case hg => rfl); (case hn => rfl); (case hr => first | (go_simp; done) | (go_simp; rfl)); intro w1 hw; have n0_ := MkSt.put HM.out hlt 0 (.int .i64 (k)) (by decide) rfl; rw [show x * 9 + 0 = x * 9 from rfl, ← hw] at n0_; (simp only [List.take_succ_cons, List.take_zero, List.drop_succ_cons, List.drop_zero, List.nil_append, List.cons_append] at n0_); clear HM hx hf hw; have HM := Aside0.mk n0_; clear n0_; obtain ⟨hx, hf⟩ := MkSt.cell HM.out hlt 1 _ rfl) | ((with_reducible refine gate_store (t := 3) (p := 23) rfl ?_); refine store_event (t := 3) (p := 23) (v := ?vo1) (w1 := (World.setCell w1 ⟨g, x * 9 + 1, none⟩ (.int .i64 (k + 1)))) ?hg ?ho ?hn ?hr ?_; (case ho => rfl); (case hg => rfl); (case hn => rfl); (case hr => first | (go_simp; done) | (go_simp; rfl)); intro w2 hw; have n0_ := MkSt.put HM.out hlt 1 (.int .i64 (k + 1)) (by decide) rfl; rw [show x * 9 + 1 = x * 9 + 1 from rfl, ← hw] at n0_; (simp only [List.take_succ_cons, List.take_zero, List.drop_succ_cons, List.drop_zero, List.nil_append, List.cons_append] at n0_); clear HM hx hf hw; have HM := Aside0.mk n0_; clear n0_; obtain ⟨hx, hf⟩ := MkSt.cell HM.out hlt 2 _ rfl) | ((with_reducible refine gate_store (t := 3) (p := 30) rfl ?_); refine store_event (t := 3) (p := 30) (v := ?vo2) (w1 := (World.setCell w2 ⟨g, x * 9 + 2, none⟩ (.int .i64 (k + 1 + 1)))) ?hg ?ho ?hn ?hr ?_; (case ho => rfl); (case hg => rfl); (case hn => rfl); (case hr => first | (go_simp; done) | (go_simp; rfl)); intro w3 hw; have n0_ := MkSt.put HM.out hlt 2 (.int .i64 (k + 1 + 1)) (by decide) rfl; rw [show x * 9 + 2 = x * 9 + 2 from rfl, ← hw] at n0_; (simp only [List.take_succ_cons, List.take_zero, List.drop_succ_cons, List.drop_zero, List.nil_append, List.cons_append] at n0_); clear HM hx hf hw; have HM := Aside0.mk n0_; clear n0_; obtain ⟨hx, hf⟩ := MkSt.cell HM.out hlt 3 _ rfl) | ((with_reducible refine gate_store (t := 3) (p := 37) rfl ?_); refine store_event (t := 3) (p := 37) (v := ?vo3) (w1 := (World.setCell w3 ⟨g, x * 9 + 3, none⟩ (.int .i64 (k + 1 + 1 + 1)))) ?hg ?ho ?hn ?hr ?_; (case ho => rfl); (case hg => rfl); (case hn => rfl); (case hr => first | (go_simp; done) | (go_simp; rfl)); intro w4 hw; have n0_ := MkSt.put HM.out hlt 3 (.int .i64 (k + 1 + 1 + 1)) (by decide) rfl; rw [show x * 9 + 3 = x * 9 + 3 from rfl, ← hw] at n0_; (simp only [List.take_succ_cons, List.take_zero, List.drop_succ_cons, List.drop_zero, List.nil_append, List.cons_append] at n0_); clear HM hx hf hw; have HM := Aside0.mk n0_; clear n0_; obtain ⟨hx, hf⟩ := MkSt.cell HM.out hlt 4 _ rfl) | ((with_reducible refine gate_store (t := 3) (p := 44) rfl ?_); refine store_event (t := 3) (p := 44) (v := ?vo4) (w1 := (World.setCell w4 ⟨g, x * 9 + 4, none⟩ (.int .i64 (k + 1 + 1 + 1 + 1)))) ?hg ?ho ?hn ?hr ?_; (case ho => rfl); (case hg => rfl); (case hn => rfl); (case hr => first | (go_simp; done) | (go_simp; rfl)); intro w5 hw; have n0_ := MkSt.put HM.out hlt 4 (.int .i64 (k + 1 + 1 + 1 + 1)) (by decide) rfl; rw [show x * 9 + 4 = x * 9 + 4 from rfl, ← hw] at n0_; (simp only [List.take_succ_cons, List.take_zero, List.drop_succ_cons, List.drop_zero, List.nil_append, List.cons_append] at n0_); clear HM hx hf hw; have HM := Aside0.mk n0_; clear n0_) | (go_at_call 78; refine (mt_any _ _ (by omega) (by omega)).mono ?_; rintro e w6 ⟨rfl, hb⟩; have n0_ := MkSt.grow HM.out hb; clear HM hb; have HM := Aside0.mk n0_; clear n0_; obtain ⟨hx, hf⟩ := MkSt.cell HM.out hlt 5 _ rfl) | ((with_reducible refine gate_store (t := 9) (p := 52) rfl ?_); refine store_event (t := 9) (p := 52) (v := ?vo5) (w1 := (World.setCell w6 ⟨g, x * 9 + 5, none⟩ (.string (mtB (k + 1 + 1 + 1 + 1 + 1))))) ?hg ?ho ?hn ?hr ?_; (case ho => rfl); (case hg => rfl); (case hn => rfl); (case hr => first | (go_simp; done) | (go_simp; rfl)); intro w7 hw; have n0_ := MkSt.put HM.out hlt 5 (.string (mtB (k + 1 + 1 + 1 + 1 + 1))) (by decide) rfl; rw [show x * 9 + 5 = x * 9 + 5 from rfl, ← hw] at n0_; (simp only [List.take_succ_cons, List.take_zero, List.drop_succ_cons, List.drop_zero, List.nil_append, List.cons_append] at n0_); clear HM hx hf hw; have HM := Aside0.mk n0_; clear n0_; obtain ⟨hx, hf⟩ := MkSt.cell HM.out hlt 6 _ rfl) | (go_at_call 79; refine (markDs_any oki v6 l[x].f6 _ w0 _ HM.out.hb HM.out.hr (by omega) (by have := HLX.out.2; omega)).mono ?_; rintro e w8 ⟨rfl, hR, hb, hK⟩; have n0_ := MkSt.marked HM.out hb hK hR; clear HM hx hf hb hR hK; have HM := Aside0.mk n0_; clear n0_; obtain ⟨hx, hf⟩ := MkSt.cell HM.out hlt 7 _ rfl) | ((with_reducible refine gate_store (t := 3) (p := 66) rfl ?_); refine store_event (t := 3) (p := 66) (v := ?vo7) (w1 := (World.setCell w8 ⟨g, x * 9 + 7, none⟩ (.int .i64 (k + 1 + 1 + 1 + 1 + 1 + 1 + 2 * (l[x].f6.length : Int))))) ?hg ?ho ?hn ?hr ?_; (case ho => rfl); (case hg => rfl); (case hn => rfl); (case hr => first | (go_simp; done) | (go_simp; rfl)); intro w9 hw; have n0_ := MkSt.put HM.out hlt 7 (.int .i64 (k + 1 + 1 + 1 + 1 + 1 + 1 + 2 * (l[x].f6.length : Int))) (by decide) rfl; rw [show x * 9 + 7 = x * 9 + 7 from rfl, ← hw] at n0_; (simp only [List.take_succ_cons, List.take_zero, List.drop_succ_cons, List.drop_zero, List.nil_append, List.cons_append] at n0_); clear HM hx hf hw; have HM := Aside0.mk n0_; clear n0_; obtain ⟨hx, hf⟩ := MkSt.cell HM.out hlt 8 _ rfl) | ((with_reducible refine gate_store (t := 3) (p := 73) rfl ?_); refine store_event (t := 3) (p := 73) (v := ?vo8) (w1 := (World.setCell w9 ⟨g, x * 9 + 8, none⟩ (.int .i64 ((k + 1 + 1 + 1 + 1 + 1 + 1 + 2 * (l[x].f6.length : Int)) + 1)))) ?hg ?ho ?hn ?hr ?_; (case ho => rfl); (case hg => rfl); (case hn => rfl); (case hr => first | (go_simp; done) | (go_simp; rfl)); intro w10 hw; have n0_ := MkSt.put HM.out hlt 8 (.int .i64 ((k + 1 + 1 + 1 + 1 + 1 + 1 + 2 * (l[x].f6.length : Int)) + 1)) (by decide) rfl; rw [show x * 9 + 8 = x * 9 + 8 from rfl, ← hw] at n0_; (simp only [List.take_succ_cons, List.take_zero, List.drop_succ_cons, List.drop_zero, List.nil_append, List.cons_append] at n0_); clear HM hx hf hw; have HM := Aside0.mk n0_; clear n0_))
      go_roundg k1
      case measure => omega
      case rel =>
        have H1 := HM.out
        have e2 : k + 1 + 1 = k + 2 := by omega
        have e3 : k + 2 + 1 = k + 3 := by omega
        have e4 : k + 3 + 1 = k + 4 := by omega
        have e5 : k + 4 + 1 = k + 5 := by omega
        have e6 : k + 5 + 1 = k + 6 := by omega
        have e7 : k + 6 + 2 * (l[x].f6.length : Int) + 1 = k + 7 + 2 * (l[x].f6.length : Int) := by omega
        rw [e2, e3, e4, e5, e6, e7] at H1
        have hM := k45_mkM w10 w0.heap.size oki (mkI1 k l[x]) (v6 := v6) H1.hr
        have hS := Kd.H_back H1.hh (x' := mkI1 k l[x]) hM (fun _ h => h)
        have hl1 := HLX.out.1
        obtain ⟨q1, q2⟩ := mkIs_snoc (l.take x) k0 l[x]
        have hX := HX.out
        rw [List.drop_eq_getElem_cons hlt, Int.toNat_natCast, set_mid _ _ _ _ _ hl1.symm] at hS
        refine ⟨x + 1, k + 1 + 1 + 1 + 1 + 1 + 1 + 2 * (l[x].f6.length : Int) + 1 + 1, rfl, by go_num, ⟨by omega, ?_⟩, ⟨?_⟩, ⟨H1.hk⟩, ⟨H1.hb⟩⟩
        · rw [List.take_succ_eq_append_getElem hlt, q2, ← hX.2]
          unfold mkNext
          omega
        · rw [List.take_succ_eq_append_getElem hlt, q1, ← hX.2, List.append_assoc]
          exact hS
    · have hX := HX.out
      have hx : x = l.length := by omega
      have HE := Aside0.mk (show k = mkIn k0 l ∧ Kd.S k45 45 wr w0.heap.size P (.slice A l.length c) (mkIs k0 l) from by
        have h1 := HO.out
        rw [hx, List.take_length, List.drop_length, List.append_nil] at h1
        rw [hx, List.take_length] at hX
        exact ⟨hX.2, h1⟩)
      have hlt' : ¬ (x : Int) < (l.length : Int) := by omega
      clear hX hx hlt
      go_wp2
      go_ret
      exact ⟨by rw [HE.out.1]; rfl, HE.out.2, HB.out, HK.out⟩
/-! ### what was marked is found -/
theorem mkDs_get : ∀ (ds : List S68) (k : Int) (x : Nat) (h : x < (mkDs k ds).length), (mkDs k ds)[x] = ⟨mtB (k + 2 * x), k + 2 * x + 1⟩
  | [], k, x, h => by simp [mkDs] at h
  | d :: ds, k, 0, h => by simp [mkDs]
  | d :: ds, k, x + 1, h => by
    have h' : x < (mkDs (k + 2) ds).length := by rw [mkDs, List.length_cons] at h; omega
    have e := mkDs_get ds (k + 2) x h'
    have e2 : k + 2 + 2 * (x : Int) = k + 2 * ((x + 1 : Nat) : Int) := by omega
    rw [e2] at e
    simpa [mkDs] using e
set_option maxHeartbeats 1000000 in
set_option maxRecDepth 100000 in
theorem heldDs_any (w : World) (A : Option Addr) (c n : Nat) (ds : List S68) (k : Int) (hr : Kd.C k68 w A n (mkDs k ds)) (hc : n ≤ c) (h0 : 0 ≤ k) (h1 : k + 2 * ds.length ≤ 100000000) :
    Calls Try.prog 80 #[.slice A n c, .int .i64 k] w fun e w' => e = .returned (.int .i64 (k + 2 * ds.length)) ∧ Below w.heap.size w w' := by
  have hl : n = ds.length := by rw [← mkDs_len ds k]; exact hr.1.symm
  have HR := Aside0.mk hr
  have HB := Aside0.mk (Below.refl w.heap.size w)
  have HN := Aside0.mk (And.intro hl h1)
  have hn1 : n ≤ 50000000 := by omega
  clear hr hl h1 hc
  go_enter Try.func80, Try.ntmps80
  go_wp2
  go_loopg [1, 5] n (fun kq v1 v5 w' => ∃ (x : Nat) (j : Int), v1 = .int .i64 j ∧ v5 = .int .i64 (x : Int) ∧ Aside0 (x + kq = n ∧ j = k + 2 * x) ∧ Aside0 (Below w.heap.size w w'))
  case atStart => exact ⟨0, k, rfl, rfl, ⟨by omega, by omega⟩, HB⟩
  case round =>
    clear HB
    obtain ⟨x, j, rfl, rfl, HX, HB⟩ := hrel
    by_cases hlt : x < n
    · cases gk with
      | zero => have := HX.out.1; omega
      | succ k1 =>
      have hj : 0 ≤ j ∧ j ≤ 100000000 := by have := HX.out.2; have := HN.out; omega
      obtain ⟨hj0, hj1⟩ := hj
      have hlm : x < (mkDs k ds).length := by rw [HR.out.1]; exact hlt
      obtain ⟨ad, eA, hx0, hx1⟩ := at_T68 HR.out (x : Int) (by omega) (by omega)
      rw [Int.toNat_natCast, rd68 _ x hlm, mkDs_get ds k x hlm, ← HX.out.2] at hx0 hx1
      subst eA
      have hy0 : ∀ y : Grow wr, y.W.cell? (ad.add (x * 2)) = some (.string (mtB j)) := fun y => y.cell (pw_cell_below HB.out hx0)
      have hy1 : ∀ y : Grow wr, y.W.cell? ⟨(ad.add (x * 2)).block, (ad.add (x * 2)).off + 1, none⟩ = some (.int .i64 (j + 1)) := fun y => y.cell (pw_cell_below HB.out hx1)
      have HT := Aside0.mk (fun y : Grow wr => mt_any j y.W hj0 (by omega))
      clear hlm hx0 hx1
      go_wp2
      refine wp_region_grow (by kernel_rfl) (by kernel_rfl) ?_
      repeat (go_big_quiet_step (first | (go_at_call 78; exact grow_call (HT.out _))))
      refine wpQuiet_nil ?_
      rintro _ ⟨yw, rfl⟩
      have HBy := Aside0.mk (below_then HB.out HB.out.size yw.hb)
      have hx1 := hy1 yw
      generalize yw.W = wy at HBy hx1 ⊢
      clear hy0 hy1 HT HB
      go_wp2
      go_roundg k1
      case measure => omega
      case rel => exact ⟨x + 1, j + 1 + 1, rfl, by go_num, ⟨by have := HX.out.1; omega, by have := HX.out.2; omega⟩, HBy⟩
    · have HE := Aside0.mk (show j = k + 2 * ds.length from by have := HX.out; have := HN.out.1; omega)
      have hlt' : ¬ (x : Int) < (n : Int) := by omega
      clear hlt
      go_wp2
      go_ret
      exact ⟨by rw [HE.out]; rfl, HB.out⟩
theorem mkIs_get : ∀ (l : List S45) (k : Int) (x : Nat) (h : x < (mkIs k l).length) (h' : x < l.length), (mkIs k l)[x] = mkI1 (mkIn k (l.take x)) l[x]
  | [], k, x, h, _ => by simp [mkIs] at h
  | d :: l, k, 0, h, _ => by simp [mkIs, mkIn]
  | d :: l, k, x + 1, h, h2 => by
    have h' : x < (mkIs (mkNext k d) l).length := by rw [mkIs, List.length_cons] at h; omega
    have e := mkIs_get l (mkNext k d) x h' (by rw [List.length_cons] at h2; omega)
    simpa [mkIs, mkIn] using e
set_option maxHeartbeats 2000000 in
set_option maxRecDepth 100000 in
theorem heldIs_any (w : World) (A : Option Addr) (c n : Nat) (l : List S45) (k0 : Int) (hr : Kd.C k45 w A n (mkIs k0 l)) (hc : n ≤ c) (h0 : 0 ≤ k0) (h1 : k0 ≤ 1000) (hs : marksSmall l) :
    Calls Try.prog 59 #[.slice A n c, .int .i64 k0] w fun e w' => e = .returned (.int .i64 (mkIn k0 l)) ∧ Below w.heap.size w w' := by
  have hl : n = l.length := by rw [← mkIs_len l k0]; exact hr.1.symm
  have hs1 := hs.1
  have hn1 : n ≤ 1000 := by omega
  have HR := Aside0.mk hr
  have HS := Aside0.mk hs
  have HB := Aside0.mk (Below.refl w.heap.size w)
  have HN := Aside0.mk hl
  clear hr hl hc hs hs1
  go_enter Try.func59, Try.ntmps59
  go_wp2
  go_loopg [1, 5] n (fun kq v1 v5 w' => ∃ (x : Nat) (j : Int), v1 = .int .i64 j ∧ v5 = .int .i64 (x : Int) ∧ Aside0 (x + kq = n ∧ j = mkIn k0 (l.take x)) ∧ Aside0 (Below w.heap.size w w'))
  case atStart => exact ⟨0, k0, rfl, rfl, ⟨by omega, rfl⟩, HB⟩
  case round =>
    clear HB
    obtain ⟨x, j, rfl, rfl, HX, HB⟩ := hrel
    by_cases hlt : x < n
    · cases gk with
      | zero => have := HX.out.1; omega
      | succ k1 =>
      have hlx : x < l.length := by have := HN.out; omega
      have hj : 0 ≤ j ∧ j ≤ 3000000 := by
        have h1 := HX.out.2
        have h2 := mkIn_le (l.take x) k0 (fun y hy => HS.out.2 y (List.mem_of_mem_take hy))
        have h3 := HS.out.1
        rw [List.length_take] at h2
        omega
      obtain ⟨hj0, hj1⟩ := hj
      have hl6 : l[x].f6.length ≤ 1000 := HS.out.2 _ (List.getElem_mem hlx)
      have hlm : x < (mkIs k0 l).length := by rw [HR.out.1]; exact hlt
      obtain ⟨ad, A6, c6, eA, hx0, hx1, hx2, hx3, hx4, hx5, hx6, hx7, hx8, hc6, hR6⟩ := at_T45 HR.out (x : Int) (by omega) (by omega)
      rw [Int.toNat_natCast, rd45 _ x hlm, mkIs_get l k0 x hlm hlx, ← HX.out.2] at hx0 hx1 hx2 hx3 hx4 hx5 hx6 hx7 hx8
      rw [rd45 _ x hlm, mkIs_get l k0 x hlm hlx, ← HX.out.2] at hc6 hR6
      have hnx : mkIn k0 (l.take (x + 1)) = j + 8 + 2 * l[x].f6.length := by
        rw [List.take_succ_eq_append_getElem hlx, (mkIs_snoc (l.take x) k0 l[x]).2, ← HX.out.2]; rfl
      generalize l[x] = z at hx0 hx1 hx2 hx3 hx4 hx5 hx6 hx7 hx8 hc6 hR6 hl6 hnx
      simp only [mkI1] at hx0 hx1 hx2 hx3 hx4 hx5 hx6 hx7 hx8 hc6 hR6
      rw [mkDs_len] at hx6 hc6 hR6
      subst eA
      have q2 : j + 2 = j + 1 + 1 := by omega
      have q3 : j + 3 = j + 1 + 1 + 1 := by omega
      have q4 : j + 4 = j + 1 + 1 + 1 + 1 := by omega
      have q5 : j + 5 = j + 1 + 1 + 1 + 1 + 1 := by omega
      have q6 : j + 6 = j + 1 + 1 + 1 + 1 + 1 + 1 := by omega
      rw [q2] at hx2; rw [q3] at hx3; rw [q4] at hx4; rw [q5] at hx5
      rw [q6] at hR6 hx7
      obtain ⟨kk, hkk⟩ : ∃ q, q = j + 1 + 1 + 1 + 1 + 1 + 1 + 2 * (z.f6.length : Int) := ⟨_, rfl⟩
      have hkb : 0 ≤ kk ∧ kk ≤ 4000000 := by omega
      obtain ⟨hk0, hk9⟩ := hkb
      have e8 : j + 7 + 2 * (z.f6.length : Int) = kk + 1 := by omega
      rw [← hkk] at hx7; rw [e8] at hx8
      have HNX := Aside0.mk (show mkIn k0 (l.take (x + 1)) = kk + 1 + 1 by rw [hnx]; omega)
      have hx0 := pw_cell_below HB.out hx0
      have hx1 := pw_cell_below HB.out hx1
      have hx2 := pw_cell_below HB.out hx2
      have hx3 := pw_cell_below HB.out hx3
      have hx4 := pw_cell_below HB.out hx4
      have HC5 := Aside0.mk (pw_cell_below HB.out hx5)
      have HC6 := Aside0.mk (pw_cell_below HB.out hx6)
      have HC7 := Aside0.mk (pw_cell_below HB.out hx7)
      have HC8 := Aside0.mk (pw_cell_below HB.out hx8)
      have hy5 : ∀ y : Grow wr, y.W.cell? ⟨(ad.add (x * 9)).block, (ad.add (x * 9)).off + 5, none⟩ = some (.string (mtB (j + 1 + 1 + 1 + 1 + 1))) := fun y => y.cell HC5.out
      have HT := Aside0.mk (fun y : Grow wr => mt_any (j + 1 + 1 + 1 + 1 + 1) y.W (by omega) (by omega))
      have HH := Aside0.mk (fun (W : World) (hW : Below w.heap.size w W) => show Calls Try.prog 80 #[.slice A6 z.f6.length c6, .int .i64 (j + 1 + 1 + 1 + 1 + 1 + 1)] W fun e w' => e = .returned (.int .i64 kk) ∧ Below W.heap.size W w' from by
        rw [hkk]; exact heldDs_any W A6 c6 _ z.f6 _ (Kd.C_below hR6 hW) hc6 (by omega) (by omega))
      clear hx5 hx6 hx7 hx8 hR6 hc6 hnx q2 q3 q4 q5 q6 hkk e8 hlm hlx hl6
      go_wp2
      refine wp_region_grow (by kernel_rfl) (by kernel_rfl) ?_
      repeat (go_big_quiet_step (first | (go_at_call 78; exact grow_call (HT.out _))))
      refine wpQuiet_nil ?_
      rintro _ ⟨yw, rfl⟩
      have HBy := Aside0.mk (below_then HB.out HB.out.size yw.hb)
      have hx6 := yw.cell HC6.out
      have HC7 := Aside0.mk (yw.cell HC7.out)
      have HC8 := Aside0.mk (yw.cell HC8.out)
      generalize yw.W = wy at HBy hx6 HC7 HC8 ⊢
      clear hx0 hx1 hx2 hx3 hx4 HC5 HC6 hy5 HT HB
      go_wp2_with (go_at_call 80; refine (HH.out _ HBy.out).mono ?_; rintro e wz ⟨rfl, hbz⟩; have HBz := Aside0.mk (below_then HBy.out HBy.out.size hbz); have hx7 := pw_cell_below (Below.refl _ _) HC7.out; have hx7 := pw_cell_below hbz HC7.out; have hx8 := pw_cell_below hbz HC8.out; clear hx6 hbz HC7 HC8 HBy HH)
      go_roundg k1
      case measure => omega
      case rel => exact ⟨x + 1, kk + 1 + 1, rfl, by go_num, ⟨by have := HX.out.1; omega, HNX.out.symm⟩, HBz⟩
    · have HE := Aside0.mk (show j = mkIn k0 l from by
        have h1 := HX.out
        have e : x = l.length := by have := HN.out; omega
        rw [e, List.take_length] at h1; exact h1.2)
      have hlt' : ¬ (x : Int) < (n : Int) := by omega
      clear hlt
      go_wp2
      go_ret
      exact ⟨by rw [HE.out]; rfl, HB.out⟩
/-! ### a volume marked, a volume held; results in boxes -/
set_option maxHeartbeats 1000000 in
set_option maxRecDepth 100000 in
theorem markVol_any (P : Nat → Prop) (nx : Int) (v : Value) (l : List S45) (k0 : Int) (w0 w : World) (hB : Below w0.heap.size w0 w) (ho : Kd.S k45 45 w w0.heap.size P v l) (h0 : 0 ≤ k0) (h1 : k0 ≤ 1000) (hs : marksSmall l) :
    Calls Try.prog 24 #[.agg #[.int .i64 nx, v], .int .i64 k0] w fun e w' => e = .returned (.int .i64 (mkIn k0 l)) ∧ Kd.S k45 45 w' w0.heap.size P v (mkIs k0 l) ∧ Below w0.heap.size w0 w' ∧ Kept w w' P := by
  have HM := Aside0.mk (fun (W : World) (hW : Below w.heap.size w W) => markIs_any P v l k0 w0 W (below_then hB hB.size hW) (Kd.S_below ho hW) h0 h1 hs)
  obtain ⟨A, c, rfl⟩ := Kd.S_slice ho
  clear ho hs hB h0 h1
  go_enter Try.func24, Try.ntmps24
  go_wp2_with (go_at_call 58; refine (HM.out _ (below_alloc (Below.refl _ _) _)).mono ?_; rintro e w1 ⟨rfl, hS, hb, hk⟩; have HR := Aside0.mk (And.intro hS (And.intro hb hk)); clear hS hb hk)
  go_ret
  exact ⟨rfl, HR.out.1, HR.out.2.1, (Kept.alloc (Kept.refl w P) _).then_ HR.out.2.2 (fun _ h => .inl h)⟩
set_option maxHeartbeats 1000000 in
set_option maxRecDepth 100000 in
theorem heldVol_any (P : Nat → Prop) (nx : Int) (v : Value) (l : List S45) (k0 : Int) (base : Nat) (w : World) (ho : Kd.S k45 45 w base P v (mkIs k0 l)) (h0 : 0 ≤ k0) (h1 : k0 ≤ 1000) (hs : marksSmall l) :
    Calls Try.prog 25 #[.agg #[.int .i64 nx, v], .int .i64 k0] w fun e w' => e = .returned (.int .i64 (mkIn k0 l)) ∧ Below w.heap.size w w' := by
  obtain ⟨A, c, rfl, hc, hC⟩ := Kd.S_reads ho
  rw [mkIs_len] at hc hC
  have HM := Aside0.mk (fun (W : World) (hW : Below w.heap.size w W) => heldIs_any W A c l.length l k0 (Kd.C_below hC hW) hc h0 h1 hs)
  rw [mkIs_len]
  have hk := mkIn_le l k0 hs.2
  have hk0 : 0 ≤ mkIn k0 l := by omega
  obtain ⟨kk, hkk⟩ : ∃ q, q = mkIn k0 l := ⟨_, rfl⟩
  rw [← hkk] at HM hk0 ⊢
  clear ho hs hc hC hk hkk h0 h1
  go_enter Try.func25, Try.ntmps25
  go_wp2_with (go_at_call 59; refine (HM.out _ (below_alloc (Below.refl _ _) _)).mono ?_; rintro e w1 ⟨rfl, hb⟩; have HR := Aside0.mk (below_then (below_alloc (Below.refl _ _) _) (below_alloc (Below.refl _ _) _).size hb); clear hb)
  go_ret
  exact ⟨rfl, HR.out⟩
/-- a result in a box: it was made after the block lo, before its box -/
structure RB (base : Nat) (W : World) (lo g : Nat) (nx : Int) (v : Value) (l : List S45) : Prop where
  hl : lo ≤ g
  hs : Kd.S k45 45 W base (fun k => lo ≤ k ∧ k < g) v l
  bx : W.heap[g]? = some (.cells #[.int .i64 nx, v] 29 (0, 0))
namespace RB
variable {base lo g : Nat} {W W1 w0 wB : World} {nx : Int} {v : Value} {l l' : List S45} {S : Nat → Prop} {cs : Array Value} {a b : Value}
theorem step (h : RB base W lo g nx v l) (hb : Below W.heap.size W W1) : RB base W1 lo g nx v l := ⟨h.hl, Kd.S_below h.hs hb, blk_below h.bx hb⟩
theorem kept (h : RB base W lo g nx v l) (hk : Kept W W1 S) (hS : ∀ k, S k → k < lo ∨ g < k) : RB base W1 lo g nx v l :=
  ⟨h.hl, Kd.S_kept h.hs hk (fun k hk hs => by have := hS k hs; omega), blk_kept h.bx hk (fun hs => by have := hS g hs; have := h.hl; omega)⟩
theorem marked (h : RB base W lo g nx v l) (hk : Kept W W1 (fun k => lo ≤ k ∧ k < g)) (hs : Kd.S k45 45 W1 base (fun k => lo ≤ k ∧ k < g) v l') : RB base W1 lo g nx v l' :=
  ⟨h.hl, hs, blk_kept h.bx hk (fun hs => by omega)⟩
theorem c0 (h : RB base W lo g nx v l) : W.cell? ⟨g, 0, none⟩ = some (.int .i64 nx) := (blk_cell h.bx 0).trans rfl
theorem c1 (h : RB base W lo g nx v l) : W.cell? ⟨g, 1, none⟩ = some v := (blk_cell h.bx 1).trans rfl
theorem lt (h : RB base W lo g nx v l) : g < W.heap.size := blk_lt h.bx
/-- the result of a call, laid into a new box -/
theorem boxed (hS : Kd.S k45 45 W1 W.heap.size (fun _ => True) v l) (hb : Below W.heap.size W W1) (hbase : base ≤ W.heap.size) (hg : g = W1.heap.size) (hB : Below W1.heap.size W1 wB) (hbox : wB.heap[g]? = some (.cells #[a, b] 29 (0, 0))) :
    RB base ((wB.setCell ⟨g, 0, none⟩ (.int .i64 nx)).setCell ⟨g, 1, none⟩ v) W.heap.size g nx v l ∧ Below W.heap.size W ((wB.setCell ⟨g, 0, none⟩ (.int .i64 nx)).setCell ⟨g, 1, none⟩ v) := by
  have h2 : Below W1.heap.size W1 ((wB.setCell ⟨g, 0, none⟩ (.int .i64 nx)).setCell ⟨g, 1, none⟩ v) := below_set (below_set hB (by omega)) (by omega)
  refine ⟨⟨by have := hb.size; omega, Kd.S_below (Kd.S_lower (Kd.S_mono (Kd.S_bound hS) (fun k hk => ⟨hk.2.1, by have := hk.2.2.1; omega⟩)) hbase) h2, ?_⟩, below_then hb hb.size h2⟩
  exact blk_put (blk_put hbox 0 _ rfl) 1 _ rfl
end RB
/-! ### a volume is equal to itself, wherever it lies -/
set_option maxHeartbeats 1000000 in
set_option maxRecDepth 100000 in
theorem eqD_any (s : ByteArray) (i : Int) (w : World) : Calls Try.prog 91 #[.agg #[.string s, .int .i64 i], .agg #[.string s, .int .i64 i]] w fun e w' => e = .returned (.bool true) ∧ Below w.heap.size w w' := by
  have HB := Aside0.mk (Below.refl w.heap.size w)
  go_enter Try.func91, Try.ntmps91
  go_wp2
  go_ret
  exact ⟨rfl, by repeat (first | (with_reducible first | exact HB.out | apply below_alloc | apply pw_below_drewN | apply below_drew1) | exact HB.out)⟩
set_option maxHeartbeats 1000000 in
set_option maxRecDepth 100000 in
theorem eqDs_any (w : World) (A : Option Addr) (c n : Nat) (B : Option Addr) (d : Nat) (ds : List S68) (hr : Kd.C k68 w A n ds) (hc : n ≤ c) (hq : Kd.C k68 w B n ds) (hd : n ≤ d) (h1 : n ≤ 50000000) :
    Calls Try.prog 86 #[.slice A n c, .slice B n d] w fun e w' => e = .returned (.bool true) ∧ Below w.heap.size w w' := by
  have hl : n = ds.length := hr.1.symm
  have HR := Aside0.mk hr
  have HQ := Aside0.mk hq
  have HB := Aside0.mk (Below.refl w.heap.size w)
  clear hr hq hc hd
  go_enter Try.func86, Try.ntmps86
  go_wp2
  go_loopg [5] n (fun kq v5 w' => ∃ (x : Nat), v5 = .int .i64 (x : Int) ∧ Aside0 (x + kq = n) ∧ Aside0 (Below w.heap.size w w'))
  case atStart => exact ⟨0, rfl, ⟨by omega⟩, HB⟩
  case round =>
    clear HB
    obtain ⟨x, rfl, HX, HB⟩ := hrel
    by_cases hlt : x < n
    · cases gk with
      | zero => have := HX.out; omega
      | succ k1 =>
      have hlm : x < ds.length := by omega
      obtain ⟨ad, eA, hx0, hx1⟩ := at_T68 HR.out (x : Int) (by omega) (by omega)
      obtain ⟨bd, eB, hz0, hz1⟩ := at_T68 HQ.out (x : Int) (by omega) (by omega)
      rw [Int.toNat_natCast, rd68 _ x hlm] at hx0 hx1 hz0 hz1
      subst eA
      subst eB
      generalize ds[x] = z at hx0 hx1 hz0 hz1
      have hy0 : ∀ y : Grow wr, y.W.cell? (ad.add (x * 2)) = some (.string z.f0) := fun y => y.cell (pw_cell_below HB.out hx0)
      have hy1 : ∀ y : Grow wr, y.W.cell? ⟨(ad.add (x * 2)).block, (ad.add (x * 2)).off + 1, none⟩ = some (.int .i64 z.f1) := fun y => y.cell (pw_cell_below HB.out hx1)
      have hy2 : ∀ y : Grow wr, y.W.cell? (bd.add (x * 2)) = some (.string z.f0) := fun y => y.cell (pw_cell_below HB.out hz0)
      have hy3 : ∀ y : Grow wr, y.W.cell? ⟨(bd.add (x * 2)).block, (bd.add (x * 2)).off + 1, none⟩ = some (.int .i64 z.f1) := fun y => y.cell (pw_cell_below HB.out hz1)
      have HT := Aside0.mk (fun y : Grow wr => eqD_any z.f0 z.f1 y.W)
      clear hlm hx0 hx1 hz0 hz1
      go_wp2
      refine wp_region_grow (by kernel_rfl) (by kernel_rfl) ?_
      repeat (go_big_quiet_step (first | (go_at_call 91; exact grow_call (HT.out _))))
      refine wpQuiet_nil ?_
      rintro _ ⟨yw, rfl⟩
      have HBy := Aside0.mk (below_then HB.out HB.out.size yw.hb)
      generalize yw.W = wy at HBy ⊢
      clear hy0 hy1 hy2 hy3 HT HB
      go_wp2
      go_roundg k1
      case measure => omega
      case rel => exact ⟨x + 1, by go_num, ⟨by have := HX.out; omega⟩, HBy⟩
    · have hlt' : ¬ (x : Int) < (n : Int) := by omega
      clear hlt
      go_wp2
      go_ret
      exact ⟨rfl, HB.out⟩
set_option maxHeartbeats 1000000 in
set_option maxRecDepth 100000 in
theorem eqI_any (w : World) (x0 x1 x2 x3 x4 x7 x8 : Int) (s : ByteArray) (A : Option Addr) (c n : Nat) (B : Option Addr) (d : Nat) (ds : List S68) (hr : Kd.C k68 w A n ds) (hc : n ≤ c) (hq : Kd.C k68 w B n ds) (hd : n ≤ d) (h1 : n ≤ 50000000) :
    Calls Try.prog 69 #[.agg #[.int .i64 x0, .int .i64 x1, .int .i64 x2, .int .i64 x3, .int .i64 x4, .string s, .slice A n c, .int .i64 x7, .int .i64 x8], .agg #[.int .i64 x0, .int .i64 x1, .int .i64 x2, .int .i64 x3, .int .i64 x4, .string s, .slice B n d, .int .i64 x7, .int .i64 x8]] w fun e w' => e = .returned (.bool true) ∧ Below w.heap.size w w' := by
  have HB := Aside0.mk (Below.refl w.heap.size w)
  have HT := Aside0.mk (fun (W : World) (hW : Below w.heap.size w W) => eqDs_any W A c n B d ds (Kd.C_below hr hW) hc (Kd.C_below hq hW) hd h1)
  clear hr hq hc hd h1
  go_enter Try.func69, Try.ntmps69
  go_wp2_with (go_at_call 86; refine (HT.out _ (by repeat (first | (with_reducible first | exact HB.out | apply below_alloc | apply pw_below_drewN | apply below_drew1) | exact HB.out))).mono ?_; rintro e w1 ⟨rfl, hb⟩; have HB2 := Aside0.mk (below_then (show Below w.heap.size w _ by repeat (first | (with_reducible first | exact HB.out | apply below_alloc | apply pw_below_drewN | apply below_drew1) | exact HB.out)) (below_size (by repeat (first | (with_reducible first | exact HB.out | apply below_alloc | apply pw_below_drewN | apply below_drew1) | exact HB.out))) hb); have z7 : World.cell? w1 ⟨w.heap.size, 7, none⟩ = some (.int .i64 x7) := (blk_cell (blk_below (blk_alloc (blk_new w _) _) hb) 7).trans rfl; have z8 : World.cell? w1 ⟨w.heap.size, 8, none⟩ = some (.int .i64 x8) := (blk_cell (blk_below (blk_alloc (blk_new w _) _) hb) 8).trans rfl; have u7 : World.cell? w1 ⟨w.heap.size + 1, 7, none⟩ = some (.int .i64 x7) := (blk_cell (blk_below (heap_alloc2_new w _ _) hb) 7).trans rfl; have u8 : World.cell? w1 ⟨w.heap.size + 1, 8, none⟩ = some (.int .i64 x8) := (blk_cell (blk_below (heap_alloc2_new w _ _) hb) 8).trans rfl; clear hb)
  go_ret
  exact ⟨rfl, HB2.out⟩
set_option maxHeartbeats 1000000 in
set_option maxRecDepth 100000 in
theorem eqIs_any (w : World) (A : Option Addr) (c n : Nat) (B : Option Addr) (d : Nat) (l : List S45) (hr : Kd.C k45 w A n l) (hc : n ≤ c) (hq : Kd.C k45 w B n l) (hd : n ≤ d) (hs : marksSmall l) :
    Calls Try.prog 42 #[.slice A n c, .slice B n d] w fun e w' => e = .returned (.bool true) ∧ Below w.heap.size w w' := by
  have hl : n = l.length := hr.1.symm
  have hn1 : n ≤ 1000 := by have := hs.1; omega
  have HR := Aside0.mk hr
  have HQ := Aside0.mk hq
  have HS := Aside0.mk hs
  have HB := Aside0.mk (Below.refl w.heap.size w)
  clear hr hq hc hd hs
  go_enter Try.func42, Try.ntmps42
  go_wp2
  go_loopg [5] n (fun kq v5 w' => ∃ (x : Nat), v5 = .int .i64 (x : Int) ∧ Aside0 (x + kq = n) ∧ Aside0 (Below w.heap.size w w'))
  case atStart => exact ⟨0, rfl, ⟨by omega⟩, HB⟩
  case round =>
    clear HB
    obtain ⟨x, rfl, HX, HB⟩ := hrel
    by_cases hlt : x < n
    · cases gk with
      | zero => have := HX.out; omega
      | succ k1 =>
      have hlx : x < l.length := by omega
      have hl6 : l[x].f6.length ≤ 1000 := HS.out.2 _ (List.getElem_mem hlx)
      obtain ⟨ad, A6, c6, eA, hx0, hx1, hx2, hx3, hx4, hx5, hx6, hx7, hx8, hc6, hR6⟩ := at_T45 HR.out (x : Int) (by omega) (by omega)
      obtain ⟨bd, B6, d6, eB, hz0, hz1, hz2, hz3, hz4, hz5, hz6, hz7, hz8, hd6, hQ6⟩ := at_T45 HQ.out (x : Int) (by omega) (by omega)
      rw [Int.toNat_natCast, rd45 _ x hlx] at hx0 hx1 hx2 hx3 hx4 hx5 hx6 hx7 hx8 hz0 hz1 hz2 hz3 hz4 hz5 hz6 hz7 hz8
      rw [rd45 _ x hlx] at hc6 hR6 hd6 hQ6
      generalize l[x] = z at hx0 hx1 hx2 hx3 hx4 hx5 hx6 hx7 hx8 hc6 hR6 hl6 hz0 hz1 hz2 hz3 hz4 hz5 hz6 hz7 hz8 hd6 hQ6
      subst eA
      subst eB
      have hy0 := fun y : Grow wr => y.cell (pw_cell_below HB.out hx0)
      have hy1 := fun y : Grow wr => y.cell (pw_cell_below HB.out hx1)
      have hy2 := fun y : Grow wr => y.cell (pw_cell_below HB.out hx2)
      have hy3 := fun y : Grow wr => y.cell (pw_cell_below HB.out hx3)
      have hy4 := fun y : Grow wr => y.cell (pw_cell_below HB.out hx4)
      have hy5 := fun y : Grow wr => y.cell (pw_cell_below HB.out hx5)
      have hy6 := fun y : Grow wr => y.cell (pw_cell_below HB.out hx6)
      have hy7 := fun y : Grow wr => y.cell (pw_cell_below HB.out hx7)
      have hy8 := fun y : Grow wr => y.cell (pw_cell_below HB.out hx8)
      have hv0 := fun y : Grow wr => y.cell (pw_cell_below HB.out hz0)
      have hv1 := fun y : Grow wr => y.cell (pw_cell_below HB.out hz1)
      have hv2 := fun y : Grow wr => y.cell (pw_cell_below HB.out hz2)
      have hv3 := fun y : Grow wr => y.cell (pw_cell_below HB.out hz3)
      have hv4 := fun y : Grow wr => y.cell (pw_cell_below HB.out hz4)
      have hv5 := fun y : Grow wr => y.cell (pw_cell_below HB.out hz5)
      have hv6 := fun y : Grow wr => y.cell (pw_cell_below HB.out hz6)
      have hv7 := fun y : Grow wr => y.cell (pw_cell_below HB.out hz7)
      have hv8 := fun y : Grow wr => y.cell (pw_cell_below HB.out hz8)
      have HT := Aside0.mk (fun y : Grow wr => eqI_any y.W z.f0 z.f1 z.f2 z.f3 z.f4 z.f7 z.f8 z.f5 A6 c6 z.f6.length B6 d6 z.f6 (Kd.C_below hR6 (below_then HB.out HB.out.size y.hb)) hc6 (Kd.C_below hQ6 (below_then HB.out HB.out.size y.hb)) hd6 (by omega))
      clear hlx hx0 hx1 hx2 hx3 hx4 hx5 hx6 hx7 hx8 hz0 hz1 hz2 hz3 hz4 hz5 hz6 hz7 hz8 hR6 hQ6 hc6 hd6
      go_wp2
      refine wp_region_grow (by kernel_rfl) (by kernel_rfl) ?_
      repeat (go_big_quiet_step (first | (go_at_call 69; exact grow_call (HT.out _))))
      refine wpQuiet_nil ?_
      rintro _ ⟨yw, rfl⟩
      have HBy := Aside0.mk (below_then HB.out HB.out.size yw.hb)
      generalize yw.W = wy at HBy ⊢
      clear hy0 hy1 hy2 hy3 hy4 hy5 hy6 hy7 hy8 hv0 hv1 hv2 hv3 hv4 hv5 hv6 hv7 hv8 HT HB
      go_wp2
      go_roundg k1
      case measure => omega
      case rel => exact ⟨x + 1, by go_num, ⟨by have := HX.out; omega⟩, HBy⟩
    · have hlt' : ¬ (x : Int) < (n : Int) := by omega
      clear hlt
      go_wp2
      go_ret
      exact ⟨rfl, HB.out⟩
set_option maxHeartbeats 1000000 in
set_option maxRecDepth 100000 in
theorem eqVol_any (w : World) (nx : Int) (A : Option Addr) (c n : Nat) (B : Option Addr) (d : Nat) (l : List S45) (hr : Kd.C k45 w A n l) (hc : n ≤ c) (hq : Kd.C k45 w B n l) (hd : n ≤ d) (hs : marksSmall l) :
    Calls Try.prog 13 #[.agg #[.int .i64 nx, .slice A n c], .agg #[.int .i64 nx, .slice B n d]] w fun e w' => e = .returned (.bool true) ∧ Below w.heap.size w w' := by
  have HB := Aside0.mk (Below.refl w.heap.size w)
  have HT := Aside0.mk (fun (W : World) (hW : Below w.heap.size w W) => eqIs_any W A c n B d l (Kd.C_below hr hW) hc (Kd.C_below hq hW) hd hs)
  clear hr hq hc hd hs
  go_enter Try.func13, Try.ntmps13
  go_wp2_with (go_at_call 42; refine (HT.out _ (by repeat (first | (with_reducible first | exact HB.out | apply below_alloc | apply pw_below_drewN | apply below_drew1) | exact HB.out))).mono ?_; rintro e w1 ⟨rfl, hb⟩; have HB2 := Aside0.mk (below_then (show Below w.heap.size w _ by repeat (first | (with_reducible first | exact HB.out | apply below_alloc | apply pw_below_drewN | apply below_drew1) | exact HB.out)) (below_size (by repeat (first | (with_reducible first | exact HB.out | apply below_alloc | apply pw_below_drewN | apply below_drew1) | exact HB.out))) hb); clear hb)
  go_ret
  exact ⟨rfl, HB2.out⟩
end Go.Proofs.Ytiopcpkfjikfdaa.PFnExactVolOk
