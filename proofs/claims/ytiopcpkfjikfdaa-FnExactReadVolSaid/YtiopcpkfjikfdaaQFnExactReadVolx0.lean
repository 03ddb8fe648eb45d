/- By hand. -/
import Derived.Test.YtiopcpkfjikfdaaRvT
import Derived.Test.YtiopcpkfjikfdaaRv8
import Derived.Test.YtiopcpkfjikfdaaRvM
import Derived.Test.YtiopcpkfjikfdaaMath
import Derived.Test.YtiopcpkfjikfdaaStr
namespace Go.Proofs.Ytiopcpkfjikfdaa.PFnExactVolOk
open Go.RowKit Go.Proofs.YtiopcpkfjikfdaaW.PrintWords Go.Proofs.YtiopcpkfjikfdaaW.PrintLast Go.Proofs.YtiopcpkfjikfdaaW.PrintMore
open Go.Proofs.Ytiopcpkfjikfdaa.Mth Go.Proofs.Ytiopcpkfjikfdaa.Str
set_option linter.unusedVariables false
set_option linter.unusedSimpArgs false
/-! ### what the reference reads of an inode -/
theorem vars1_some (s : ByteArray) (hs : s.size ≤ 140737488351232) (o : Option Nat) (hi : inside s o) (q : Nat) (h : (pnum (bytesOf s) o).2 = some q) : Ev (fun k => spec_l8Vars.f k s (posI o) 1) ([((pnum (bytesOf s) o).1 : Int)], (q : Int)) := by
  have h1 := l8vars_spec s hs (posI o) (posI_in s hs o hi) 1 (by decide)
  rw [varsAt_some s 1 o [] q hi h] at h1
  exact h1
theorem vars1_none (s : ByteArray) (hs : s.size ≤ 140737488351232) (o : Option Nat) (hi : inside s o) (h : (pnum (bytesOf s) o).2 = none) : ∃ L, Ev (fun k => spec_l8Vars.f k s (posI o) 1) (L, -1) := by
  have h1 := l8vars_spec s hs (posI o) (posI_in s hs o hi) 1 (by decide)
  have h2 := varsAt_none s 1 o [] hi h
  refine ⟨(varsAt (bytesOf s) (posI o) 1 []).1, ?_⟩
  rw [← h2]
  exact h1
theorem l8_l0 (s : ByteArray) (hs : s.size ≤ 140737488351232) (n : Nat) (hn : n ≤ 1000) (b0 b1 b2 b3 b4 b7 b8 : Int) (b5 : ByteArray) : ∀ (d j p : Nat) (acc : List S68), j + d = n → acc.length ≤ j → p ≤ s.size →
    ∃ ds r, Ev (fun k => spec_l8Inode.l0 k s (p : Int) [(n : Int)] (j : Int) b0 b1 b2 b3 b4 b5 acc b7 b8) (b0, b1, b2, b3, b4, b5, ds, b7, b8, r) ∧ (∀ q, (pdirs s d (some p) acc).2 = some q → ds = (pdirs s d (some p) acc).1 ∧ r = (q : Int)) ∧ ((pdirs s d (some p) acc).2 = none → r = -1) := by
  intro d
  induction d with
  | zero =>
    intro j p acc hj ha hp
    have e0 : rd [(n : Int)] 0 = (n : Int) := rfl
    refine ⟨acc, (p : Int), Ev.step (fun _ => spec_l8Inode.l0.eq_2 ..) (ev_pos (by simp) (ev_neg (by rw [e0]; omega) (ev_now rfl))), fun q h => ⟨rfl, ?_⟩, fun h => absurd h (by simp [pdirs])⟩
    have h : some p = some q := h
    rw [Option.some.inj h]
  | succ d ih =>
    intro j p acc hj ha hp
    have e0 : rd [(n : Int)] 0 = (n : Int) := rfl
    have ht := take_spec s hs (some p) hp
    have hi := ptake_in s (some p)
    have ep : posI (some p) = (p : Int) := rfl
    rw [ep] at ht
    rw [pdirs]
    generalize ptake s (some p) = b at ht hi ⊢
    have e3 : wrap64 ((j : Int) + 1) = ((j + 1 : Nat) : Int) := w64 (by omega) (by omega)
    cases hq : (pnum (bytesOf s) b.2).2 with
    | none =>
      obtain ⟨L, h1⟩ := vars1_none s hs b.2 hi hq
      refine ⟨acc, -1, Ev.step (fun _ => spec_l8Inode.l0.eq_2 ..) (ev_pos (by simp) (ev_pos (by rw [e0]; omega) (Ev.bind ht (Ev.bind h1 (ev_pos (show (-1 : Int) < 0 by decide) (ev_now rfl)))))), fun q h => ?_, fun _ => rfl⟩
      rw [pdirs_none] at h
      exact absurd h (by simp)
    | some q =>
      have h1 := vars1_some s hs b.2 hi q hq
      have hin := pnum_in s b.2 hi
      rw [hq] at hin
      obtain ⟨ds, r, h2, h3, h4⟩ := ih (j + 1) q (acc ++ [(⟨b.1, ((pnum (bytesOf s) b.2).1 : Int)⟩ : S68)]) (by omega) (by rw [List.length_append]; simp; omega) hin
      refine ⟨ds, r, Ev.step (fun _ => spec_l8Inode.l0.eq_2 ..) (ev_pos (by simp) (ev_pos (by rw [e0]; omega) (Ev.bind ht (Ev.bind h1 (ev_neg (by simp only; omega) (ev_pos (by simp) (ev_pos (by omega) ?_))))))), h3, h4⟩
      simp only
      rw [e3]
      exact h2
def IRes (s : ByteArray) (o : Option Nat) (y : S45) (r : Int) : Prop := (∀ q, (pinode s o).2 = some q → y = (pinode s o).1 ∧ r = (q : Int)) ∧ ((pinode s o).2 = none → r = -1)
theorem l8Inode_ev (s : ByteArray) (hs : s.size ≤ 140737488351232) (o : Option Nat) (hi : inside s o) : ∃ y r, Ev (fun k => spec_l8Inode.f k s (posI o)) (y.f0, y.f1, y.f2, y.f3, y.f4, y.f5, y.f6, y.f7, y.f8, r) ∧ IRes s o y r := by
  unfold spec_l8Inode.f
  have h1 := l8vars_spec s hs (posI o) (posI_in s hs o hi) 7 (by decide)
  cases h7 : (pnums (bytesOf s) 7 o).2 with
  | none =>
    have h2 := varsAt_none s 7 o [] hi h7
    refine ⟨⟨0, 0, 0, 0, 0, ⟨#[]⟩, [], 0, 0⟩, -1, Ev.bind h1 (ev_pos (by rw [h2]; decide) (ev_now rfl)), fun q h => ?_, fun _ => rfl⟩
    exfalso
    have e : (pinode s o).2 = none := by
      show (pdirs s _ (pmany (bytesOf s) (ptake s (pnums (bytesOf s) 7 o).2).2 12).2 _).2 = none
      rw [h7, ptake_none]
      exact pdirs_none s _ _
    rw [e] at h; cases h
  | some q7 =>
    have i7 := pnums_in s 7 o hi
    rw [varsAt_some s 7 o [] q7 hi h7] at h1
    rw [h7] at i7
    have hl : ([] : List Int) ++ (pnums (bytesOf s) 7 o).1 = (pnums (bytesOf s) 7 o).1 := List.nil_append _
    rw [hl] at h1
    have e6 : pinode s o = (⟨rd (pnums (bytesOf s) 7 o).1 0, rd (pnums (bytesOf s) 7 o).1 1, rd (pnums (bytesOf s) 7 o).1 2, rd (pnums (bytesOf s) 7 o).1 3, rd (pnums (bytesOf s) 7 o).1 4, (ptake s (pnums (bytesOf s) 7 o).2).1, (pdirs s (pmany (bytesOf s) (ptake s (pnums (bytesOf s) 7 o).2).2 12).1 (pmany (bytesOf s) (ptake s (pnums (bytesOf s) 7 o).2).2 12).2 []).1, rd (pnums (bytesOf s) 7 o).1 5, rd (pnums (bytesOf s) 7 o).1 6⟩, (pdirs s (pmany (bytesOf s) (ptake s (pnums (bytesOf s) 7 o).2).2 12).1 (pmany (bytesOf s) (ptake s (pnums (bytesOf s) 7 o).2).2 12).2 []).2) := rfl
    have hlen : (pnums (bytesOf s) 7 o).1.length = 7 := rfl
    rw [h7] at e6
    unfold IRes
    rw [e6]
    generalize (pnums (bytesOf s) 7 o).1 = L at h1 hlen ⊢
    have ht := take_spec s hs (some q7) i7
    have it := ptake_in s (some q7)
    have eq7 : posI (some q7) = (q7 : Int) := rfl
    rw [eq7] at ht
    generalize ptake s (some q7) = t at ht it ⊢
    have go : ∀ y r, Ev (fun k => (spec_l8Take.f k s (q7 : Int)).bind fun bt218 => (if bt218.2 < 0 then (some (rd L 0, rd L 1, rd L 2, rd L 3, rd L 4, (⟨#[]⟩ : ByteArray), ([] : List (S68)), rd L 5, rd L 6, (-1))) else ((spec_l8Vars.f k s bt218.2 1).bind fun bt220 => (if bt220.2 < 0 then (spec_l8Inode.j0 k s bt220.2 bt220.1 true (rd L 0) (rd L 1) (rd L 2) (rd L 3) (rd L 4) bt218.1 (rd L 5) (rd L 6)) else (if 0 < (bt220.1.length : Int) then (spec_l8Inode.j0 k s bt220.2 bt220.1 (decide ((rd bt220.1 0) > 12)) (rd L 0) (rd L 1) (rd L 2) (rd L 3) (rd L 4) bt218.1 (rd L 5) (rd L 6)) else (none)))))) y →
        y = r → Ev (fun k => (spec_l8Vars.f k s (posI o) 7).bind fun bt206 => (if bt206.2 < 0 then (some (0, 0, 0, 0, 0, (⟨#[]⟩ : ByteArray), ([] : List (S68)), 0, 0, (-1))) else (if 0 < (bt206.1.length : Int) then (if 1 < (bt206.1.length : Int) then (if 2 < (bt206.1.length : Int) then (if 3 < (bt206.1.length : Int) then (if 4 < (bt206.1.length : Int) then (if 5 < (bt206.1.length : Int) then (if 6 < (bt206.1.length : Int) then ((spec_l8Take.f k s bt206.2).bind fun bt218 => (if bt218.2 < 0 then (some (rd bt206.1 0, rd bt206.1 1, rd bt206.1 2, rd bt206.1 3, rd bt206.1 4, (⟨#[]⟩ : ByteArray), ([] : List (S68)), rd bt206.1 5, rd bt206.1 6, (-1))) else ((spec_l8Vars.f k s bt218.2 1).bind fun bt220 => (if bt220.2 < 0 then (spec_l8Inode.j0 k s bt220.2 bt220.1 true (rd bt206.1 0) (rd bt206.1 1) (rd bt206.1 2) (rd bt206.1 3) (rd bt206.1 4) bt218.1 (rd bt206.1 5) (rd bt206.1 6)) else (if 0 < (bt220.1.length : Int) then (spec_l8Inode.j0 k s bt220.2 bt220.1 (decide ((rd bt220.1 0) > 12)) (rd bt206.1 0) (rd bt206.1 1) (rd bt206.1 2) (rd bt206.1 3) (rd bt206.1 4) bt218.1 (rd bt206.1 5) (rd bt206.1 6)) else (none)))))) else (none)) else (none)) else (none)) else (none)) else (none)) else (none)) else (none)))) r := by
      rintro y r hy rfl
      exact Ev.bind h1 (ev_neg (by simp only; omega) (ev_pos (by simp only; omega) (ev_pos (by simp only; omega) (ev_pos (by simp only; omega) (ev_pos (by simp only; omega) (ev_pos (by simp only; omega) (ev_pos (by simp only; omega) (ev_pos (by simp only; omega) hy))))))))
    cases h2 : t.2 with
    | none =>
      rw [h2] at ht
      refine ⟨⟨rd L 0, rd L 1, rd L 2, rd L 3, rd L 4, ⟨#[]⟩, [], rd L 5, rd L 6⟩, -1, go _ _ (Ev.bind ht (ev_pos (show (-1 : Int) < 0 by decide) (ev_now rfl))) rfl, fun q h => ?_, fun _ => rfl⟩
      exfalso
      have e : (pdirs s (pmany (bytesOf s) none 12).1 (pmany (bytesOf s) none 12).2 []).2 = none := pdirs_none s _ _
      rw [e] at h; cases h
    | some qt =>
      rw [h2] at ht it
      have eqt : posI (some qt) = (qt : Int) := rfl
      have hng : ¬ (qt : Int) < 0 := by omega
      cases hq : (pnum (bytesOf s) (some qt)).2 with
      | none =>
        obtain ⟨M, h3⟩ := vars1_none s hs (some qt) it hq
        refine ⟨⟨rd L 0, rd L 1, rd L 2, rd L 3, rd L 4, t.1, [], rd L 5, rd L 6⟩, -1, go _ _ (Ev.bind ht (ev_neg hng (Ev.bind h3 (ev_pos (show (-1 : Int) < 0 by decide) (Ev.step (fun _ => spec_l8Inode.j0.eq_2 ..) (ev_pos rfl (ev_now rfl))))))) rfl, fun q h => ?_, fun _ => rfl⟩
        exfalso
        have e : (pmany (bytesOf s) (some qt) 12).2 = none := by
          unfold pmany; split
          · rfl
          · exact hq
        rw [e, pdirs_none] at h; cases h
      | some qn =>
        have h3 := vars1_some s hs (some qt) it qn hq
        have hin := pnum_in s (some qt) it
        rw [hq] at hin
        by_cases hc : 12 < (pnum (bytesOf s) (some qt)).1
        · refine ⟨⟨rd L 0, rd L 1, rd L 2, rd L 3, rd L 4, t.1, [], rd L 5, rd L 6⟩, -1, go _ _ (Ev.bind ht (ev_neg hng (Ev.bind h3 (ev_neg (by simp only; omega) (ev_pos (by simp) (Ev.step (fun _ => spec_l8Inode.j0.eq_2 ..) (ev_pos (by
            have e0 : rd [((pnum (bytesOf s) (some qt)).1 : Int)] 0 = ((pnum (bytesOf s) (some qt)).1 : Int) := rfl
            simp only
            rw [e0]
            exact decide_eq_true (by omega)) (ev_now rfl)))))))) rfl, fun q h => ?_, fun _ => rfl⟩
          exfalso
          have e : (pmany (bytesOf s) (some qt) 12).2 = none := by unfold pmany; rw [if_pos hc]
          rw [e, pdirs_none] at h; cases h
        · have em : pmany (bytesOf s) (some qt) 12 = ((pnum (bytesOf s) (some qt)).1, some qn) := by unfold pmany; rw [if_neg hc, ← hq]
          rw [em]
          obtain ⟨ds, r, h4, h5, h6⟩ := l8_l0 s hs (pnum (bytesOf s) (some qt)).1 (by omega) (rd L 0) (rd L 1) (rd L 2) (rd L 3) (rd L 4) (rd L 5) (rd L 6) t.1 (pnum (bytesOf s) (some qt)).1 0 qn [] (Nat.zero_add _) (Nat.le_refl _) hin
          refine ⟨⟨rd L 0, rd L 1, rd L 2, rd L 3, rd L 4, t.1, ds, rd L 5, rd L 6⟩, r, go _ _ (Ev.bind ht (ev_neg hng (Ev.bind h3 (ev_neg (by simp only; omega) (ev_pos (by simp) (Ev.step (fun _ => spec_l8Inode.j0.eq_2 ..) (ev_neg (by
            have e0 : rd [((pnum (bytesOf s) (some qt)).1 : Int)] 0 = ((pnum (bytesOf s) (some qt)).1 : Int) := rfl
            simp only
            rw [e0]
            simp; omega) h4))))))) rfl, fun q h => ?_, h6⟩
          obtain ⟨h7, h8⟩ := h5 q h
          exact ⟨by rw [h7], h8⟩
theorem l8Inode_any (s : ByteArray) (hs : s.size ≤ 140737488351232) (o : Option Nat) (hi : inside s o) (w : World) :
    Calls Try.prog 56 #[.string s, .int .i64 (posI o)] w fun e w' => ∃ v6 y r, e = .returned (.tuple #[.agg #[.int .i64 y.f0, .int .i64 y.f1, .int .i64 y.f2, .int .i64 y.f3, .int .i64 y.f4, .string y.f5, v6, .int .i64 y.f7, .int .i64 y.f8], .int .i64 r]) ∧ IRes s o y r ∧ Kd.R k68 68 w' w.heap.size (fun _ => True) v6 y.f6 ∧ Below w.heap.size w w' := by
  obtain ⟨y, r, ⟨K, hK⟩, hR⟩ := l8Inode_ev s hs o hi
  refine (spec_l8Inode.calls K s _ _ _ _ _ _ _ _ _ _ _ w (hK K (Nat.le_refl _))).mono ?_
  rintro e w' ⟨v6, rfl, hr, hb⟩
  exact ⟨v6, y, r, rfl, hR, hr, hb⟩
/-! ### what the reference reads: the volume -/
structure SG (w W : World) (g2 gv : Nat) (nx : Int) (v : Value) (l : List S45) (P : Nat → Prop) (L : Value) (ns : List Int) : Prop where
  hb : Below w.heap.size w W
  b2 : W.heap[g2]? = some (.cells #[.int .i64 0, .slice none 0 0] 29 (0, 0))
  bv : W.heap[gv]? = some (.cells #[.int .i64 nx, v] 29 (0, 0))
  sv : Kd.S k45 45 W w.heap.size P v l
  hl : Kd.R (Kd.int .i64) 3 W w.heap.size (fun _ => True) L ns
  n2 : w.heap.size ≤ g2
  nv : w.heap.size ≤ gv
theorem cells_two {W : World} {b : Nat} {P : Nat → Prop} {ad : Addr} {c : Nat} {x y : Int} (h : Kd.R (Kd.int .i64) 3 W b P (.slice (some ad) 2 c) [x, y]) : W.cell? ad = some (.int .i64 x) ∧ W.cell? ⟨ad.block, ad.off + 1, none⟩ = some (.int .i64 y) := by
  obtain ⟨a0, e0, h0⟩ := Kd.at_int (Kd.R_reads' h).2.2 0 (by decide) (by simp)
  obtain ⟨a1, e1, h1⟩ := Kd.at_int (Kd.R_reads' h).2.2 1 (by decide) (by simp)
  obtain rfl : ad = a0 := by injection e0
  obtain rfl : ad = a1 := by injection e1
  rw [show ((0 : Int)).toNat = 0 from rfl, Addr.add_zero'] at h0
  simp only [show (1 : Int).toNat = 1 from rfl, Nat.reduceMul, Nat.reduceEqDiff, Go.Addr.add, ↓reduceIte] at h1
  exact ⟨h0, h1⟩
namespace SG
variable {w W W1 : World} {g2 gv gi : Nat} {nx : Int} {v v' L : Value} {l l' : List S45} {P P' : Nat → Prop} {ns : List Int} {cs : Array Value}
theorem grow (h : SG w W g2 gv nx v l P L ns) (hb : Below W.heap.size W W1) : SG w W1 g2 gv nx v l P L ns :=
  ⟨below_then h.hb h.hb.size hb, blk_below h.b2 hb, blk_below h.bv hb, Kd.S_below h.sv hb, Kd.R_below h.hl hb, h.n2, h.nv⟩
theorem boxed (h : SG w W g2 gv nx v l P L ns) (hg : gi = W.heap.size) (hb : Below W.heap.size W W1) : SG w W1 g2 gv nx v l (fun k => P k ∧ k ≠ gi) L ns :=
  grow ⟨h.hb, h.b2, h.bv, Kd.S_mono (Kd.S_bound h.sv) (fun k hk => ⟨hk.1, by have := hk.2.2.1; omega⟩), h.hl, h.n2, h.nv⟩ hb
theorem weak (h : SG w W g2 gv nx v l P L ns) (hP : ∀ k, P k → k < W.heap.size → P' k) : SG w W g2 gv nx v l P' L ns :=
  ⟨h.hb, h.b2, h.bv, Kd.S_mono (Kd.S_bound h.sv) (fun k hk => hP k hk.1 hk.2.2.1), h.hl, h.n2, h.nv⟩
theorem grownS (h : SG w W g2 gv nx v l P L ns) (hg : W.grownBy W1 v.ownBlock) :
    Below w.heap.size w W1 ∧ W1.heap[g2]? = some (.cells #[.int .i64 0, .slice none 0 0] 29 (0, 0)) ∧ W1.heap[gv]? = some (.cells #[.int .i64 nx, v] 29 (0, 0)) ∧ Kd.R (Kd.int .i64) 3 W1 w.heap.size (fun _ => True) L ns :=
  ⟨pw_below_grown h.hb _ h.hb.size hg (fun k e => Kd.R_base (Kd.S_R h.sv) k e), blk_grown h.b2 hg (Kd.S_ne h.sv h.b2 (by decide)), blk_grown h.bv hg (Kd.S_ne h.sv h.bv (by decide)), Kd.R_over' h.hl (Kd.S_typed h.sv) (by decide) hg⟩
end SG
set_option maxHeartbeats 4000000 in
set_option maxRecDepth 100000 in
theorem readVolS_any (s : ByteArray) (hs : s.size ≤ 1048576) (w : World) :
    Calls Try.prog 22 #[.string s] w fun e w' => ∃ v, e = .returned (.tuple #[.agg #[.int .i64 (readVolN s).1, v], .bool (readVolN s).2.2]) ∧ Kd.S k45 45 w' w.heap.size (fun _ => True) v (readVolN s).2.1 ∧ Below w.heap.size w w' := by
  have hu29 := Try.underlying29
  have hu45 := Try.underlying45
  have HB := Aside0.mk (Below.refl w.heap.size w)
  have i0 : inside s (some 0) := Nat.zero_le _
  have hv2 := l8vars_spec s (by omega) (posI (some 0)) (posI_in s (by omega) _ i0) 2 (by decide)
  have HS := Aside0.mk (show s.size ≤ 140737488351232 by omega)
  cases h2 : (pnums (bytesOf s) 2 (some 0)).2 with
  | none =>
    have hm1 := varsAt_none s 2 (some 0) [] i0 h2
    have HR := Aside0.mk (show readVolN s = (0, [], false) from by
      have e : (pvol s).2 = none := by
        show (pinos s (pmany (bytesOf s) (pnum (bytesOf s) (some 0)).2 24).1 (pmany (bytesOf s) (pnum (bytesOf s) (some 0)).2 24).2 []).2 = none
        have e2 : (pmany (bytesOf s) (pnum (bytesOf s) (some 0)).2 24).2 = none := by
          unfold pmany; split
          · rfl
          · exact h2
        rw [e2]; exact pinos_none s _ _
      unfold readVolN; rw [if_neg (by rw [e]; simp)])
    obtain ⟨K, hK⟩ := hv2
    have hK2 := hK K (Nat.le_refl _)
    rw [show varsAt (bytesOf s) (posI (some 0)) 2 [] = ((varsAt (bytesOf s) (posI (some 0)) 2 []).1, -1) from by rw [← hm1]] at hK2
    have CV := Aside0.mk (fun W => spec_l8Vars.calls K s _ _ _ _ W hK2)
    clear hK hK2 hm1 h2 hs i0
    go_enter Try.func22, Try.ntmps22
    go_wp2_with (first | ((with_reducible refine gate_dst (N := 2) rfl ?_); refine box_event ?hg (N := 2) ?hd (cs := #[.int .i64 0, .slice none 0 0]) (t := 29) ?hr ?_; (case hd => rfl); (case hg => rfl); (case hr => first | (go_simp; done) | (go_simp; rfl)); intro g2 hg w2 hbox hb; have B2 := Aside0.mk hbox; have G2 := Aside0.mk (by rw [hg]; exact Nat.le_refl _ : w.heap.size ≤ g2); have n0_ := Aside0.mk (below_step HB.out hb); clear HB; have HB := n0_; clear n0_ hg hb hbox) | (go_at_call 55; refine (CV.out _).mono ?_; rintro e w3 ⟨vl, rfl, hR, hb⟩; have n0_ := Aside0.mk (blk_below B2.out hb); have n1_ := Aside0.mk (below_step HB.out hb); have n2_ := Aside0.mk (Kd.R_lower (Kd.R_mono hR (fun _ _ => trivial)) HB.out.size); clear B2 HB CV hR hb; have B2 := n0_; have HB := n1_; have HL := n2_; clear n0_ n1_ n2_; have z0 : w3.cell? ⟨g2, 0, none⟩ = some (.int .i64 0) := (blk_cell B2.out 0).trans rfl; have zf0 := blk_frozen B2.out 0; have z1 : w3.cell? ⟨g2, 1, none⟩ = some (.slice none 0 0) := (blk_cell B2.out 1).trans rfl; have zf1 := blk_frozen B2.out 1) | ((with_reducible refine gate_store (t := 29) (p := 2) rfl ?_); refine store_event (t := 29) (p := 2) (v := ?vo100) (w1 := (World.setCell (World.setCell w3 ⟨g2, 0, none⟩ (.int .i64 0)) ⟨g2, 1, none⟩ (.slice none 0 0))) ?hg ?ho ?hn ?hr ?_; (case ho => rfl); (case hg => rfl); (case hn => rfl); (case hr => first | (go_simp; done) | (go_simp; rfl)); intro w6 hw; have F6 := Aside0.mk hw; clear hw))
    have hb6 : Below w.heap.size w w6 := by rw [F6.out]; exact below_set (below_set HB.out G2.out) G2.out
    have hg6 : w6.heap[g2]? = some (.cells #[.int .i64 0, .slice none 0 0] 29 (0, 0)) := by rw [F6.out]; exact blk_put (blk_put B2.out 0 _ rfl) 1 _ rfl
    refine bodyPost_ret (results_ct rfl _ _ g2 29 #[.int .i64 0, .slice none 0 0] (0, 0) _ rfl hg6 Try.underlying29 rfl (by kernel_rfl)) rfl ?_
    exact ⟨_, by rw [HR.out]; rfl, by rw [HR.out]; exact Kd.S_nil _ _ _ _ _, hb6⟩
  | some q =>
    rw [varsAt_some s 2 (some 0) [] q i0 h2] at hv2
    have hq : q ≤ s.size := by have := pnums_in s 2 (some 0) i0; rw [h2] at this; exact this
    obtain ⟨a, ha⟩ : ∃ x, x = pnum (bytesOf s) (some 0) := ⟨_, rfl⟩
    obtain ⟨n, hn⟩ : ∃ x, x = pnum (bytesOf s) a.2 := ⟨_, rfl⟩
    have hns : [] ++ (pnums (bytesOf s) 2 (some 0)).1 = [(a.1 : Int), (n.1 : Int)] := by rw [hn, ha]; rfl
    have hnq : n.2 = some q := by rw [hn, ha]; exact h2
    rw [hns] at hv2
    obtain ⟨K, hK⟩ := hv2
    have CV := Aside0.mk (fun W => spec_l8Vars.calls K s _ _ _ _ W (hK K (Nat.le_refl _)))
    have HV : pvol s = (((a.1 : Int), (pinos s (if 24 < n.1 then (0, none) else n).1 (if 24 < n.1 then (0, none) else n).2 []).1), (pinos s (if 24 < n.1 then (0, none) else n).1 (if 24 < n.1 then (0, none) else n).2 []).2) := by rw [hn, ha]; rfl
    clear hK h2 hns i0 ha hn
    by_cases hc : 24 < n.1
    · rw [if_pos hc] at HV
      have HR := Aside0.mk (show readVolN s = (0, [], false) from by unfold readVolN; rw [if_neg (by rw [HV]; simp [pinos])])
      clear HV hs hq
      go_enter Try.func22, Try.ntmps22
      go_wp2_with (first | ((with_reducible refine gate_dst (N := 2) rfl ?_); refine box_event ?hg (N := 2) ?hd (cs := #[.int .i64 0, .slice none 0 0]) (t := 29) ?hr ?_; (case hd => rfl); (case hg => rfl); (case hr => first | (go_simp; done) | (go_simp; rfl)); intro g2 hg w2 hbox hb; have B2 := Aside0.mk hbox; have G2 := Aside0.mk (by rw [hg]; exact Nat.le_refl _ : w.heap.size ≤ g2); have n0_ := Aside0.mk (below_step HB.out hb); clear HB; have HB := n0_; clear n0_ hg hb hbox) | (go_at_call 55; refine (CV.out _).mono ?_; rintro e w3 ⟨vl, rfl, hR, hb⟩; have n0_ := Aside0.mk (blk_below B2.out hb); have n1_ := Aside0.mk (below_step HB.out hb); have n2_ := Aside0.mk (Kd.R_lower (Kd.R_mono hR (fun _ _ => trivial)) HB.out.size); clear B2 HB CV hR hb; have B2 := n0_; have HB := n1_; have HL := n2_; clear n0_ n1_ n2_; have z0 : w3.cell? ⟨g2, 0, none⟩ = some (.int .i64 0) := (blk_cell B2.out 0).trans rfl; have zf0 := blk_frozen B2.out 0; have z1 : w3.cell? ⟨g2, 1, none⟩ = some (.slice none 0 0) := (blk_cell B2.out 1).trans rfl; have zf1 := blk_frozen B2.out 1; obtain ⟨AL, cL, eL⟩ := Kd.R_slice HL.out; subst eL; simp only [List.length_cons, List.length_nil, Nat.zero_add, Nat.reduceAdd] at HL; obtain ⟨ad, eAL, hl0_⟩ := Kd.at_int (Kd.R_reads' HL.out).2.2 0 (by decide) (by simp); subst eAL; clear hl0_; obtain ⟨hl0, hl1⟩ := cells_two HL.out) | ((with_reducible refine gate_store (t := 29) (p := 2) rfl ?_); refine store_event (t := 29) (p := 2) (v := ?vo101) (w1 := (World.setCell (World.setCell w3 ⟨g2, 0, none⟩ (.int .i64 0)) ⟨g2, 1, none⟩ (.slice none 0 0))) ?hg ?ho ?hn ?hr ?_; (case ho => rfl); (case hg => rfl); (case hn => rfl); (case hr => first | (go_simp; done) | (go_simp; rfl)); intro w6 hw; have F6 := Aside0.mk hw; clear hw))
      have hb6 : Below w.heap.size w w6 := by rw [F6.out]; exact below_set (below_set HB.out G2.out) G2.out
      have hg6 : w6.heap[g2]? = some (.cells #[.int .i64 0, .slice none 0 0] 29 (0, 0)) := by rw [F6.out]; exact blk_put (blk_put B2.out 0 _ rfl) 1 _ rfl
      refine bodyPost_ret (results_ct rfl _ _ g2 29 #[.int .i64 0, .slice none 0 0] (0, 0) _ rfl hg6 Try.underlying29 rfl (by kernel_rfl)) rfl ?_
      exact ⟨_, by rw [HR.out]; rfl, by rw [HR.out]; exact Kd.S_nil _ _ _ _ _, hb6⟩
    · rw [if_neg hc, hnq] at HV
      obtain ⟨D, hD⟩ : ∃ D, D = pinos s n.1 (some q) [] := ⟨_, rfl⟩
      rw [← hD] at HV
      have HD := Aside0.mk hD
      have HV := Aside0.mk HV
      have HQ := Aside0.mk hq
      have hn24 : n.1 ≤ 24 := by omega
      have HS1 := Aside0.mk hs
      clear hD hs hq hnq
      go_enter Try.func22, Try.ntmps22
      go_wp2_with (first | ((with_reducible refine gate_dst (N := 2) rfl ?_); refine box_event ?hg (N := 2) ?hd (cs := #[.int .i64 0, .slice none 0 0]) (t := 29) ?hr ?_; (case hd => rfl); (case hg => rfl); (case hr => first | (go_simp; done) | (go_simp; rfl)); intro g2 hg w2 hbox hb; have B2 := Aside0.mk hbox; have G2 := Aside0.mk (by rw [hg]; exact Nat.le_refl _ : w.heap.size ≤ g2); have n0_ := Aside0.mk (below_step HB.out hb); clear HB; have HB := n0_; clear n0_ hg hb hbox) | (go_at_call 55; refine (CV.out _).mono ?_; rintro e w3 ⟨vl, rfl, hR, hb⟩; have n0_ := Aside0.mk (blk_below B2.out hb); have n1_ := Aside0.mk (below_step HB.out hb); have n2_ := Aside0.mk (Kd.R_lower (Kd.R_mono hR (fun _ _ => trivial)) HB.out.size); clear B2 HB CV hR hb; have B2 := n0_; have HB := n1_; have HL := n2_; clear n0_ n1_ n2_; have z0 : w3.cell? ⟨g2, 0, none⟩ = some (.int .i64 0) := (blk_cell B2.out 0).trans rfl; have zf0 := blk_frozen B2.out 0; have z1 : w3.cell? ⟨g2, 1, none⟩ = some (.slice none 0 0) := (blk_cell B2.out 1).trans rfl; have zf1 := blk_frozen B2.out 1; obtain ⟨AL, cL, eL⟩ := Kd.R_slice HL.out; subst eL; simp only [List.length_cons, List.length_nil, Nat.zero_add, Nat.reduceAdd] at HL; obtain ⟨ad, eAL, hl0_⟩ := Kd.at_int (Kd.R_reads' HL.out).2.2 0 (by decide) (by simp); subst eAL; clear hl0_; obtain ⟨hl0, hl1⟩ := cells_two HL.out) | ((with_reducible refine gate_dst (N := 6) rfl ?_); refine box_event ?hg (N := 6) ?hd (cs := #[.int .i64 0, .slice none 0 0]) (t := 29) ?hr ?_; (case hd => rfl); (case hg => rfl); (case hr => first | (go_simp; done) | (go_simp; rfl)); intro gv hg w4 hbox hb; have n0_ := Aside0.mk hbox; have n1_ := Aside0.mk hg; have n2_ := Aside0.mk hb; have hz0 : w4.cell? ⟨gv, 0, none⟩ = some (.int .i64 0) := (blk_cell hbox 0).trans rfl; have hzf0 := blk_frozen hbox 0; have hz1 : w4.cell? ⟨gv, 1, none⟩ = some (.slice none 0 0) := (blk_cell hbox 1).trans rfl; have hzf1 := blk_frozen hbox 1; clear hg hb hbox) | ((with_reducible refine gate_store (t := 29) (p := 6) rfl ?_); refine store_event (t := 29) (p := 6) (v := ?vo102) (w1 := (World.setCell (World.setCell w4 ⟨gv, 0, none⟩ (.int .i64 (a.1 : Int))) ⟨gv, 1, none⟩ (.slice none 0 0))) ?hg ?ho ?hn ?hr ?_; (case ho => rfl); (case hg => rfl); (case hn => rfl); (case hr => first | (go_simp; done) | (go_simp; rfl)); intro w5 hw; have m0_ := box29 n1_.out n2_.out n0_.out (.int .i64 (a.1 : Int)) (.slice none 0 0); rw [← hw] at m0_; have GV := Aside0.mk (Nat.le_trans HB.out.size (Nat.le_of_eq n1_.out.symm) : w.heap.size ≤ gv); have NE := Aside0.mk (show g2 ≠ gv from by have := blk_lt B2.out; have := n1_.out; omega); have V := Aside0.mk (show SG w w5 g2 gv (a.1 : Int) (.slice none 0 0) [] (fun _ => True) (.slice (some ad) 2 cL) [(a.1 : Int), (n.1 : Int)] from ⟨below_step HB.out m0_.2, blk_below B2.out m0_.2, m0_.1, Kd.S_nil _ _ _ _ _, Kd.R_below HL.out m0_.2, G2.out, GV.out⟩); clear B2 HB HL z0 z1 zf0 zf1 hl0 hl1 n0_ n1_ n2_ hz0 hz1 hzf0 hzf1 hw m0_))
      go_loopg [7, 5] n.1 (fun kq v7 v5 w' => ∃ (i p : Nat) (v : Value) (acc : List S45), v7 = .int .i64 (i : Int) ∧ v5 = .int .i64 (p : Int) ∧ Aside0 (p ≤ s.size ∧ i + kq = n.1 ∧ acc.length = i ∧ pinos s kq (some p) acc = D) ∧ Aside0 (SG w w' g2 gv (a.1 : Int) v acc (fun _ => True) (.slice (some ad) 2 cL) [(a.1 : Int), (n.1 : Int)]))
      case atStart => exact ⟨0, q, _, [], rfl, rfl, ⟨HQ.out, by omega, rfl, HD.out.symm⟩, V⟩
      case round =>
        clear V HD
        obtain ⟨i, p, v, acc, rfl, rfl, HX, V⟩ := hrel
        obtain ⟨AV, cV, e0⟩ := Kd.S_slice V.out.sv
        subst e0
        obtain ⟨hl0, hl1⟩ := cells_two V.out.hl
        by_cases hlt : i < n.1
        · cases gk with
          | zero => have := HX.out.2.1; omega
          | succ k1 =>
          have HP := Aside0.mk HX.out.2.2.2
          obtain ⟨y, r, ⟨K2, hK2⟩, hIR⟩ := l8Inode_ev s HS.out (some p) HX.out.1
          have hal : acc.length ≤ 24 := by have := HX.out; omega
          have HAL := Aside0.mk hal
          have CI := Aside0.mk (fun W => spec_l8Inode.calls K2 s _ _ _ _ _ _ _ _ _ _ _ W (hK2 K2 (Nat.le_refl _)))
          clear hal hK2
          cases hpi : (pinode s (some p)).2 with
          | none =>
            obtain rfl := hIR.2 hpi
            have HR := Aside0.mk (show readVolN s = (0, [], false) from by
              have e : D.2 = none := by rw [← HP.out, pinos, hpi]; exact pinos_none s _ _
              unfold readVolN; rw [if_neg (by rw [HV.out]; simp only; rw [e]; simp)])
            clear hIR hpi
            go_wp2_with (first | (go_at_call 56; refine (CI.out _).mono ?_; rintro e x0 ⟨v6, rfl, hR, hb⟩; obtain ⟨A6, c6, e6⟩ := Kd.R_slice hR; subst e6; have n0_ := Aside0.mk ((V.out.weak (P' := fun k => some k ≠ (.slice A6 y.f6.length c6 : Value).ownBlock) (fun k _ hlt e_ => by have := Kd.R_base hR k e_.symm; omega)).grow hb); have DS := Aside0.mk (Kd.R_lower hR V.out.hb.size); clear V CI hR hb hl0 hl1; have V := n0_; clear n0_) | ((with_reducible refine gate_dst (N := 8) rfl ?_); refine box_event ?hg (N := 8) ?hd (cs := #[.int .i64 0, .int .i64 0, .int .i64 0, .int .i64 0, .int .i64 0, .string (⟨#[]⟩ : ByteArray), .slice none 0 0, .int .i64 0, .int .i64 0]) (t := 45) ?hr ?_; (case hd => rfl); (case hg => rfl); (case hr => first | (go_simp; done) | (go_simp; rfl)); intro gi hg x1 hbox hb; have n0_ := Aside0.mk hbox; have n1_ := Aside0.mk hg; have n2_ := Aside0.mk hb; have hz0 : x1.cell? ⟨gi, 0, none⟩ = some (.int .i64 0) := (blk_cell hbox 0).trans rfl; have hzf0 := blk_frozen hbox 0; have hz1 : x1.cell? ⟨gi, 1, none⟩ = some (.int .i64 0) := (blk_cell hbox 1).trans rfl; have hzf1 := blk_frozen hbox 1; have hz2 : x1.cell? ⟨gi, 2, none⟩ = some (.int .i64 0) := (blk_cell hbox 2).trans rfl; have hzf2 := blk_frozen hbox 2; have hz3 : x1.cell? ⟨gi, 3, none⟩ = some (.int .i64 0) := (blk_cell hbox 3).trans rfl; have hzf3 := blk_frozen hbox 3; have hz4 : x1.cell? ⟨gi, 4, none⟩ = some (.int .i64 0) := (blk_cell hbox 4).trans rfl; have hzf4 := blk_frozen hbox 4; have hz5 : x1.cell? ⟨gi, 5, none⟩ = some (.string (⟨#[]⟩ : ByteArray)) := (blk_cell hbox 5).trans rfl; have hzf5 := blk_frozen hbox 5; have hz6 : x1.cell? ⟨gi, 6, none⟩ = some (.slice none 0 0) := (blk_cell hbox 6).trans rfl; have hzf6 := blk_frozen hbox 6; have hz7 : x1.cell? ⟨gi, 7, none⟩ = some (.int .i64 0) := (blk_cell hbox 7).trans rfl; have hzf7 := blk_frozen hbox 7; have hz8 : x1.cell? ⟨gi, 8, none⟩ = some (.int .i64 0) := (blk_cell hbox 8).trans rfl; have hzf8 := blk_frozen hbox 8; clear hg hb hbox) | ((with_reducible refine gate_store (t := 45) (p := 8) rfl ?_); refine store_event (t := 45) (p := 8) (v := ?vo103) (w1 := (World.setCell (World.setCell (World.setCell (World.setCell (World.setCell (World.setCell (World.setCell (World.setCell (World.setCell x1 ⟨gi, 0, none⟩ (.int .i64 y.f0)) ⟨gi, 1, none⟩ (.int .i64 y.f1)) ⟨gi, 2, none⟩ (.int .i64 y.f2)) ⟨gi, 3, none⟩ (.int .i64 y.f3)) ⟨gi, 4, none⟩ (.int .i64 y.f4)) ⟨gi, 5, none⟩ (.string y.f5)) ⟨gi, 6, none⟩ (.slice A6 y.f6.length c6)) ⟨gi, 7, none⟩ (.int .i64 y.f7)) ⟨gi, 8, none⟩ (.int .i64 y.f8))) ?hg ?ho ?hn ?hr ?_; (case ho => rfl); (case hg => rfl); (case hn => rfl); (case hr => first | (go_simp; done) | (go_simp; rfl)); intro x2 hw; have m0_ := box45 n1_.out n2_.out n0_.out (.int .i64 y.f0) (.int .i64 y.f1) (.int .i64 y.f2) (.int .i64 y.f3) (.int .i64 y.f4) (.string y.f5) (.slice A6 y.f6.length c6) (.int .i64 y.f7) (.int .i64 y.f8); rw [← hw] at m0_; have m1_ := Aside0.mk (V.out.boxed n1_.out m0_.2); have m2_ := Aside0.mk (Kd.R_below DS.out m0_.2); have BI := Aside0.mk m0_.1; clear V DS n0_ n1_ n2_ hz0 hzf0 hz1 hzf1 hz2 hzf2 hz3 hzf3 hz4 hzf4 hz5 hzf5 hz6 hzf6 hz7 hzf7 hz8 hzf8 hw m0_; have V := m1_; have DS := m2_; clear m1_ m2_; have z0 : x2.cell? ⟨g2, 0, none⟩ = some (.int .i64 0) := (blk_cell V.out.b2 0).trans rfl; have zf0 := blk_frozen V.out.b2 0; have z1 : x2.cell? ⟨g2, 1, none⟩ = some (.slice none 0 0) := (blk_cell V.out.b2 1).trans rfl; have zf1 := blk_frozen V.out.b2 1) | ((with_reducible refine gate_store (t := 29) (p := 2) rfl ?_); refine store_event (t := 29) (p := 2) (v := ?vo104) (w1 := (World.setCell (World.setCell x2 ⟨g2, 0, none⟩ (.int .i64 0)) ⟨g2, 1, none⟩ (.slice none 0 0))) ?hg ?ho ?hn ?hr ?_; (case ho => rfl); (case hg => rfl); (case hn => rfl); (case hr => first | (go_simp; done) | (go_simp; rfl)); intro w6 hw; have F6 := Aside0.mk hw; clear hw))
            have hb6 : Below w.heap.size w w6 := by rw [F6.out]; exact below_set (below_set V.out.hb V.out.n2) V.out.n2
            have hg6 : w6.heap[g2]? = some (.cells #[.int .i64 0, .slice none 0 0] 29 (0, 0)) := by rw [F6.out]; exact blk_put (blk_put V.out.b2 0 _ rfl) 1 _ rfl
            refine bodyPost_ret (results_ct rfl _ _ g2 29 #[.int .i64 0, .slice none 0 0] (0, 0) _ rfl hg6 Try.underlying29 rfl (by kernel_rfl)) rfl ?_
            exact ⟨_, by rw [HR.out]; rfl, by rw [HR.out]; exact Kd.S_nil _ _ _ _ _, hb6⟩
          | some q1 =>
            obtain ⟨hy, hr⟩ := hIR.1 q1 hpi
            subst hr
            have hq1 : q1 ≤ s.size := by have := pinode_in s (some p); rw [hpi] at this; exact this
            have HPN := Aside0.mk (show pinos s k1 (some q1) (acc ++ [y]) = D from by have h_ := HP.out; rw [pinos, hpi, ← hy] at h_; exact h_)
            have HQ1 := Aside0.mk hq1
            have hq10 : ¬ (q1 : Int) < 0 := by omega
            clear hIR hpi hy hq1
            go_wp2_with (first | (go_at_call 56; refine (CI.out _).mono ?_; rintro e x0 ⟨v6, rfl, hR, hb⟩; obtain ⟨A6, c6, e6⟩ := Kd.R_slice hR; subst e6; have n0_ := Aside0.mk ((V.out.weak (P' := fun k => some k ≠ (.slice A6 y.f6.length c6 : Value).ownBlock) (fun k _ hlt e_ => by have := Kd.R_base hR k e_.symm; omega)).grow hb); have DS := Aside0.mk (Kd.R_lower hR V.out.hb.size); clear V CI hR hb hl0 hl1; have V := n0_; clear n0_) | ((with_reducible refine gate_dst (N := 8) rfl ?_); refine box_event ?hg (N := 8) ?hd (cs := #[.int .i64 0, .int .i64 0, .int .i64 0, .int .i64 0, .int .i64 0, .string (⟨#[]⟩ : ByteArray), .slice none 0 0, .int .i64 0, .int .i64 0]) (t := 45) ?hr ?_; (case hd => rfl); (case hg => rfl); (case hr => first | (go_simp; done) | (go_simp; rfl)); intro gi hg x1 hbox hb; have n0_ := Aside0.mk hbox; have n1_ := Aside0.mk hg; have n2_ := Aside0.mk hb; have hz0 : x1.cell? ⟨gi, 0, none⟩ = some (.int .i64 0) := (blk_cell hbox 0).trans rfl; have hzf0 := blk_frozen hbox 0; have hz1 : x1.cell? ⟨gi, 1, none⟩ = some (.int .i64 0) := (blk_cell hbox 1).trans rfl; have hzf1 := blk_frozen hbox 1; have hz2 : x1.cell? ⟨gi, 2, none⟩ = some (.int .i64 0) := (blk_cell hbox 2).trans rfl; have hzf2 := blk_frozen hbox 2; have hz3 : x1.cell? ⟨gi, 3, none⟩ = some (.int .i64 0) := (blk_cell hbox 3).trans rfl; have hzf3 := blk_frozen hbox 3; have hz4 : x1.cell? ⟨gi, 4, none⟩ = some (.int .i64 0) := (blk_cell hbox 4).trans rfl; have hzf4 := blk_frozen hbox 4; have hz5 : x1.cell? ⟨gi, 5, none⟩ = some (.string (⟨#[]⟩ : ByteArray)) := (blk_cell hbox 5).trans rfl; have hzf5 := blk_frozen hbox 5; have hz6 : x1.cell? ⟨gi, 6, none⟩ = some (.slice none 0 0) := (blk_cell hbox 6).trans rfl; have hzf6 := blk_frozen hbox 6; have hz7 : x1.cell? ⟨gi, 7, none⟩ = some (.int .i64 0) := (blk_cell hbox 7).trans rfl; have hzf7 := blk_frozen hbox 7; have hz8 : x1.cell? ⟨gi, 8, none⟩ = some (.int .i64 0) := (blk_cell hbox 8).trans rfl; have hzf8 := blk_frozen hbox 8; clear hg hb hbox) | ((with_reducible refine gate_store (t := 45) (p := 8) rfl ?_); refine store_event (t := 45) (p := 8) (v := ?vo105) (w1 := (World.setCell (World.setCell (World.setCell (World.setCell (World.setCell (World.setCell (World.setCell (World.setCell (World.setCell x1 ⟨gi, 0, none⟩ (.int .i64 y.f0)) ⟨gi, 1, none⟩ (.int .i64 y.f1)) ⟨gi, 2, none⟩ (.int .i64 y.f2)) ⟨gi, 3, none⟩ (.int .i64 y.f3)) ⟨gi, 4, none⟩ (.int .i64 y.f4)) ⟨gi, 5, none⟩ (.string y.f5)) ⟨gi, 6, none⟩ (.slice A6 y.f6.length c6)) ⟨gi, 7, none⟩ (.int .i64 y.f7)) ⟨gi, 8, none⟩ (.int .i64 y.f8))) ?hg ?ho ?hn ?hr ?_; (case ho => rfl); (case hg => rfl); (case hn => rfl); (case hr => first | (go_simp; done) | (go_simp; rfl)); intro x2 hw; have m0_ := box45 n1_.out n2_.out n0_.out (.int .i64 y.f0) (.int .i64 y.f1) (.int .i64 y.f2) (.int .i64 y.f3) (.int .i64 y.f4) (.string y.f5) (.slice A6 y.f6.length c6) (.int .i64 y.f7) (.int .i64 y.f8); rw [← hw] at m0_; have m1_ := Aside0.mk (V.out.boxed n1_.out m0_.2); have m2_ := Aside0.mk (Kd.R_below DS.out m0_.2); have BI := Aside0.mk m0_.1; clear V DS n0_ n1_ n2_ hz0 hzf0 hz1 hzf1 hz2 hzf2 hz3 hzf3 hz4 hzf4 hz5 hzf5 hz6 hzf6 hz7 hzf7 hz8 hzf8 hw m0_; have V := m1_; have DS := m2_; clear m1_ m2_; have hv1 : x2.cell? ⟨gv, 1, none⟩ = some (.slice AV acc.length cV) := (blk_cell V.out.bv 1).trans rfl; have hvf1 := blk_frozen V.out.bv 1; have hi0 : x2.cell? ⟨gi, 0, none⟩ = some (.int .i64 y.f0) := (blk_cell BI.out 0).trans rfl; have hi1 : x2.cell? ⟨gi, 1, none⟩ = some (.int .i64 y.f1) := (blk_cell BI.out 1).trans rfl; have hi2 : x2.cell? ⟨gi, 2, none⟩ = some (.int .i64 y.f2) := (blk_cell BI.out 2).trans rfl; have hi3 : x2.cell? ⟨gi, 3, none⟩ = some (.int .i64 y.f3) := (blk_cell BI.out 3).trans rfl; have hi4 : x2.cell? ⟨gi, 4, none⟩ = some (.int .i64 y.f4) := (blk_cell BI.out 4).trans rfl; have hi5 : x2.cell? ⟨gi, 5, none⟩ = some (.string y.f5) := (blk_cell BI.out 5).trans rfl; have hi6 : x2.cell? ⟨gi, 6, none⟩ = some (.slice A6 y.f6.length c6) := (blk_cell BI.out 6).trans rfl; have hi7 : x2.cell? ⟨gi, 7, none⟩ = some (.int .i64 y.f7) := (blk_cell BI.out 7).trans rfl; have hi8 : x2.cell? ⟨gi, 8, none⟩ = some (.int .i64 y.f8) := (blk_cell BI.out 8).trans rfl) | ((with_reducible refine gate_builtin (b := .append) (xs := #[.tmp 45, .tmp 47]) rfl ?_); at_builtin; refine Kd.S_append k45 w.heap.size rfl (.tmp 45) (.tmp 47) 27 45 (.agg #[(.int .i64 0), (.int .i64 0), (.int .i64 0), (.int .i64 0), (.int .i64 0), (.string ⟨#[]⟩), (.slice none 0 0), (.int .i64 0), (.int .i64 0)]) 96 rfl Try.underlying27 info45 rfl (by decide) (by omega) (.slice AV acc.length cV) acc y [.int .i64 y.f0, .int .i64 y.f1, .int .i64 y.f2, .int .i64 y.f3, .int .i64 y.f4, .string y.f5, .slice A6 y.f6.length c6, .int .i64 y.f7, .int .i64 y.f8] (fun _ => True) (fun k_ => some k_ = (.slice A6 y.f6.length c6 : Value).ownBlock) rfl (by first | rfl | (go_simp; done) | (go_simp; rfl)) ?aP (fun k_ hk_ => ⟨trivial, ((Kd.R_apart' DS.out (Kd.S_typed V.out.sv) (by decide)).1 k_ hk_.symm).2⟩) ?aF ?aO (Below.refl _ _) ?aS ?aL ?_; (case aP => exact k45_mkM _ _ _ y (Kd.R_mono (Kd.R_tight rfl DS.out) (fun _ h_ => h_))); (case aF => exact (fun _ _ => trivial)); (case aO => exact (Kd.S_mono V.out.sv (fun k hk => ⟨trivial, fun e_ => hk.1 e_⟩))); (case aS => exact V.out.hb.size); (case aL => have := HAL.out; omega); intro v7 z5 ho hb hg hat; have G := Aside0.mk (V.out.grownS hg); have n0_ := Aside0.mk (And.intro V.out.n2 V.out.nv); have SO := Aside0.mk ho; clear V BI DS hv1 hvf1 hi0 hi1 hi2 hi3 hi4 hi5 hi6 hi7 hi8 ho hb hg hat; have VN := n0_; clear n0_; obtain ⟨A8, c8, e8⟩ := Kd.S_slice SO.out; subst e8; simp only [List.length_append, List.length_singleton] at SO; have hv1 : z5.cell? ⟨gv, 1, none⟩ = some (.slice AV acc.length cV) := (blk_cell G.out.2.2.1 1).trans rfl; have hvf1 := blk_frozen G.out.2.2.1 1))
            go_roundg k1
            case measure => omega
            case rel => exact ⟨i + 1, q1, .slice A8 (acc.length + 1) c8, acc ++ [y], by go_num, rfl, ⟨HQ1.out, by have := HX.out; omega, by have := HX.out; simp; omega, HPN.out⟩, ⟨⟨below_set G.out.1 VN.out.2, blk_far G.out.2.1 NE.out _, blk_put G.out.2.2.1 1 _ rfl, Kd.S_mono (Kd.S_far (Kd.S_types SO.out G.out.2.2.1 (by decide)) (fun _ hk => hk.2) _) (fun _ _ => trivial), Kd.R_mono (Kd.R_far (Kd.R_types G.out.2.2.2 G.out.2.2.1 (by decide)) (fun _ hk => hk.2) _) (fun _ _ => trivial), VN.out.1, VN.out.2⟩⟩⟩
        · have hlt2 : ¬ (i : Int) < (n.1 : Int) := by omega
          have hgk : gk = 0 := by have := HX.out.2.1; omega
          subst hgk
          have hDD : D = (acc, some p) := HX.out.2.2.2.symm
          have HVV := HV.out
          rw [hDD] at HVV
          have hsm := pvol_small s
          rw [HVV] at hsm
          have CS := Aside0.mk (fun W (h : Kd.S k45 45 W w.heap.size (fun _ => True) (.slice AV acc.length cV) acc) => showS_any (a.1 : Int) AV cV acc W (Kd.S_reads' h).2.2 (Kd.S_reads' h).2.1 ⟨hsm.1, fun x hx => ⟨(hsm.2 x hx).1, Nat.le_trans (hsm.2 x hx).2.1 HS1.out, fun d hd => Nat.le_trans ((hsm.2 x hx).2.2 d hd) HS1.out⟩⟩)
          have hiff := show_iff s p HS.out (by rw [HVV])
          rw [HVV] at hiff
          simp only at hiff
          have HRN := Aside0.mk (show readVolN s = if p = s.size ∧ volOkB (a.1 : Int) acc = true then ((a.1 : Int), acc, true) else (0, [], false) from by
            unfold readVolN; rw [HVV]; simp only [Option.some.injEq])
          generalize showT (a.1 : Int) acc = T at CS hiff
          have hv0 : wr.cell? ⟨gv, 0, none⟩ = some (.int .i64 (a.1 : Int)) := (blk_cell V.out.bv 0).trans rfl
          have hv1 : wr.cell? ⟨gv, 1, none⟩ = some (.slice AV acc.length cV) := (blk_cell V.out.bv 1).trans rfl
          have hne1 := NE.out
          clear hsm hDD HVV hlt
          by_cases hT : T = s
          · have HR := Aside0.mk (show readVolN s = ((a.1 : Int), acc, true) from by rw [HRN.out, if_pos (hiff.1 hT)])
            subst hT
            clear hiff HRN
            go_wp2_with (first | (go_at_call 20; refine (CS.out _ V.out.sv).mono ?_; rintro e x5 ⟨rfl, hb⟩; have n0_ := Aside0.mk (V.out.grow hb); clear V CS hv0 hv1 hl0 hl1 hb; have V := n0_; clear n0_; have hv0 : x5.cell? ⟨gv, 0, none⟩ = some (.int .i64 (a.1 : Int)) := (blk_cell V.out.bv 0).trans rfl; have hv1 : x5.cell? ⟨gv, 1, none⟩ = some (.slice AV acc.length cV) := (blk_cell V.out.bv 1).trans rfl; have z0 : x5.cell? ⟨g2, 0, none⟩ = some (.int .i64 0) := (blk_cell V.out.b2 0).trans rfl; have zf0 := blk_frozen V.out.b2 0; have z1 : x5.cell? ⟨g2, 1, none⟩ = some (.slice none 0 0) := (blk_cell V.out.b2 1).trans rfl; have zf1 := blk_frozen V.out.b2 1) | ((with_reducible refine gate_store (t := 29) (p := 2) rfl ?_); refine store_event (t := 29) (p := 2) (v := ?vo106) (w1 := (World.setCell (World.setCell x5 ⟨g2, 0, none⟩ (.int .i64 (a.1 : Int))) ⟨g2, 1, none⟩ (.slice AV acc.length cV))) ?hg ?ho ?hn ?hr ?_; (case ho => rfl); (case hg => rfl); (case hn => rfl); (case hr => first | (go_simp; done) | (go_simp; rfl)); intro w6 hw; have F6 := Aside0.mk hw; clear hw))
            have hb6 : Below w.heap.size w w6 := by rw [F6.out]; exact below_set (below_set V.out.hb V.out.n2) V.out.n2
            have hg6 : w6.heap[g2]? = some (.cells #[.int .i64 (a.1 : Int), .slice AV acc.length cV] 29 (0, 0)) := by rw [F6.out]; exact blk_put (blk_put V.out.b2 0 _ rfl) 1 _ rfl
            have hs6 : Kd.S k45 45 w6 w.heap.size (fun _ => True) (.slice AV acc.length cV) acc := by
              rw [F6.out]
              exact Kd.S_mono (Kd.S_far (p := ⟨g2, 1, none⟩) (Kd.S_far (p := ⟨g2, 0, none⟩) (Kd.S_types V.out.sv V.out.b2 (by decide)) (fun _ hk => hk.2) _) (fun _ hk => hk.2) _) (fun _ _ => trivial)
            refine bodyPost_ret (results_ct rfl _ _ g2 29 #[.int .i64 (a.1 : Int), .slice AV acc.length cV] (0, 0) _ rfl hg6 Try.underlying29 rfl (by kernel_rfl)) rfl ?_
            exact ⟨_, by rw [HR.out]; rfl, by rw [HR.out]; exact hs6, hb6⟩
          · have HR := Aside0.mk (show readVolN s = (0, [], false) from by rw [HRN.out, if_neg (fun h => hT (hiff.2 h))])
            have e1 : ¬ T.toList = s.toList := fun e => hT (toList_eq_iff.1 e)
            have b1 : (T.toList == s.toList) = false := by simpa using e1
            clear hiff HRN hT
            go_wp2_with (first | (go_at_call 20; refine (CS.out _ V.out.sv).mono ?_; rintro e x5 ⟨rfl, hb⟩; have n0_ := Aside0.mk (V.out.grow hb); clear V CS hv0 hv1 hl0 hl1 hb; have V := n0_; clear n0_; have hv0 : x5.cell? ⟨gv, 0, none⟩ = some (.int .i64 (a.1 : Int)) := (blk_cell V.out.bv 0).trans rfl; have hv1 : x5.cell? ⟨gv, 1, none⟩ = some (.slice AV acc.length cV) := (blk_cell V.out.bv 1).trans rfl; have z0 : x5.cell? ⟨g2, 0, none⟩ = some (.int .i64 0) := (blk_cell V.out.b2 0).trans rfl; have zf0 := blk_frozen V.out.b2 0; have z1 : x5.cell? ⟨g2, 1, none⟩ = some (.slice none 0 0) := (blk_cell V.out.b2 1).trans rfl; have zf1 := blk_frozen V.out.b2 1) | ((with_reducible refine gate_store (t := 29) (p := 2) rfl ?_); refine store_event (t := 29) (p := 2) (v := ?vo107) (w1 := (World.setCell (World.setCell x5 ⟨g2, 0, none⟩ (.int .i64 0)) ⟨g2, 1, none⟩ (.slice none 0 0))) ?hg ?ho ?hn ?hr ?_; (case ho => rfl); (case hg => rfl); (case hn => rfl); (case hr => first | (go_simp; done) | (go_simp; rfl)); intro w6 hw; have F6 := Aside0.mk hw; clear hw))
            have hb6 : Below w.heap.size w w6 := by rw [F6.out]; exact below_set (below_set V.out.hb V.out.n2) V.out.n2
            have hg6 : w6.heap[g2]? = some (.cells #[.int .i64 0, .slice none 0 0] 29 (0, 0)) := by rw [F6.out]; exact blk_put (blk_put V.out.b2 0 _ rfl) 1 _ rfl
            refine bodyPost_ret (results_ct rfl _ _ g2 29 #[.int .i64 0, .slice none 0 0] (0, 0) _ rfl hg6 Try.underlying29 rfl (by kernel_rfl)) rfl ?_
            exact ⟨_, by rw [HR.out]; rfl, by rw [HR.out]; exact Kd.S_nil _ _ _ _ _, hb6⟩
/-! ### laws_FnExactReadVol: function 8 (by hand) -/
theorem readVolN_small (s : ByteArray) : marksSmall (readVolN s).2.1 := by
 unfold readVolN
 split
 ·obtain ⟨h1, h2⟩ := pvol_small s
  exact ⟨Nat.le_trans h1 (by decide), fun x hx => Nat.le_trans (h2 x hx).1 (by decide)⟩
 ·exact ⟨by decide, fun x hx => by simp at hx⟩
def laws_FnExactReadVol.f (k : Nat) (a0 : ByteArray) : Option Bool := some true
theorem laws_FnExactReadVol.mono : ∀ a0 k, LeO (laws_FnExactReadVol.f k a0) (laws_FnExactReadVol.f (k + 1) a0) := fun _ _ => LeO.refl _
set_option maxHeartbeats 4000000 in
set_option maxRecDepth 100000 in
theorem laws_FnExactReadVol.calls (k : Nat) (a0 : ByteArray) (r : Bool) (w : World) (hr_ : r = true) (h : laws_FnExactReadVol.f k a0 = some r) :
  Calls Try.prog 8 #[.string a0] w fun e w' => e = .returned (.bool r) ∧ Below w.heap.size w w' := by
 subst hr_
 clear h
 have hu29 := Try.underlying29
 by_cases hs : a0.size ≤ 1048576
 ·have hsb : decide ((1048576 : Int) < (a0.size : Int)) = false := decide_eq_false (by omega)
  have hsn : decide (1048576 < a0.size) = false := decide_eq_false (by omega)
  have HMS := Aside0.mk (readVolN_small a0)
  have CSP := Aside0.mk (fun W => readVolS_any a0 hs W)
  have CIM := Aside0.mk (fun W => readVolI_any a0 hs W)
  generalize readVolN a0 = R at HMS CSP CIM
  obtain ⟨nx, l, ok⟩ := R
  simp only at HMS CSP CIM
  have hk := mkIn_le l 1 HMS.out.2
  obtain ⟨kk, hkk⟩ : ∃ q, q = mkIn 1 l := ⟨_, rfl⟩
  have hk0 : 0 ≤ kk := by omega
  have HKK := Aside0.mk hkk
  clear hk hkk hs
  go_enter Try.func8, Try.ntmps8
  go_wp2_with (first | (go_at_call 22; refine (CSP.out _).mono ?_; rintro e w1 ⟨v1, rfl, hS, hb⟩; obtain ⟨A1, c1, rfl⟩ := Kd.S_slice hS; have H1 := Aside0.mk (And.intro hS hb); clear hS hb) | ((with_reducible refine gate_dst (N := 3) rfl ?_); refine box_event ?hg (N := 3) ?hd (cs := #[.int .i64 0, .slice none 0 0]) (t := 29) ?hr ?_; (case hd => rfl); (case hg => rfl); (case hr => first | (go_simp; done) | (go_simp; rfl)); intro g1 hg wB1 hbox hb; have X1 := Aside0.mk (And.intro hg (And.intro hb hbox)); have hz0 : wB1.cell? ⟨g1, 0, none⟩ = some (.int .i64 0) := (blk_cell hbox 0).trans rfl; have hz1 : wB1.cell? ⟨g1, 1, none⟩ = some (.slice none 0 0) := (blk_cell hbox 1).trans rfl; have hy0 := blk_frozen hbox 0; have hy1 := blk_frozen hbox 1; clear hg hb hbox) | ((with_reducible refine gate_store (t := 29) (p := 3) rfl ?_); refine store_event (t := 29) (p := 3) (v := ?vo1) (w1 := ((World.setCell wB1 ⟨g1, 0, none⟩ (.int .i64 nx)).setCell ⟨g1, 1, none⟩ (.slice A1 l.length c1))) ?hg ?ho ?hn ?hr ?_; (case ho => rfl); (case hg => rfl); (case hn => rfl); (case hr => first | (go_simp; done) | (go_simp; rfl)); intro W2 hw; have n0_ := RB.boxed (base := w.heap.size) (nx := nx) H1.out.1 H1.out.2 (Nat.le_refl _) X1.out.1 X1.out.2.1 X1.out.2.2; rw [← hw] at n0_; have R1 := Aside0.mk n0_.1; have HB := Aside0.mk n0_.2; clear H1 X1 hz0 hz1 hy0 hy1 hw n0_) | (go_at_call 23; refine (CIM.out W2).mono ?_; rintro e w3 ⟨v2, rfl, hS, hb⟩; obtain ⟨A2, c2, rfl⟩ := Kd.S_slice hS; have H2 := Aside0.mk (And.intro hS hb); clear hS hb) | ((with_reducible refine gate_dst (N := 5) rfl ?_); refine box_event ?hg (N := 5) ?hd (cs := #[.int .i64 0, .slice none 0 0]) (t := 29) ?hr ?_; (case hd => rfl); (case hg => rfl); (case hr => first | (go_simp; done) | (go_simp; rfl)); intro g2 hg wB2 hbox hb; have X2 := Aside0.mk (And.intro hg (And.intro hb hbox)); have hz0 : wB2.cell? ⟨g2, 0, none⟩ = some (.int .i64 0) := (blk_cell hbox 0).trans rfl; have hz1 : wB2.cell? ⟨g2, 1, none⟩ = some (.slice none 0 0) := (blk_cell hbox 1).trans rfl; have hy0 := blk_frozen hbox 0; have hy1 := blk_frozen hbox 1; clear hg hb hbox) | ((with_reducible refine gate_store (t := 29) (p := 5) rfl ?_); refine store_event (t := 29) (p := 5) (v := ?vo2) (w1 := ((World.setCell wB2 ⟨g2, 0, none⟩ (.int .i64 nx)).setCell ⟨g2, 1, none⟩ (.slice A2 l.length c2))) ?hg ?ho ?hn ?hr ?_; (case ho => rfl); (case hg => rfl); (case hn => rfl); (case hr => first | (go_simp; done) | (go_simp; rfl)); intro W4 hw; have n0_ := RB.boxed (base := w.heap.size) (nx := nx) H2.out.1 H2.out.2 HB.out.size X2.out.1 X2.out.2.1 X2.out.2.2; rw [← hw] at n0_; have n1_ := Aside0.mk (RB.step R1.out n0_.2); have n2_ := Aside0.mk (below_then HB.out HB.out.size n0_.2); have NE := Aside0.mk R1.out.lt; clear R1 HB; have R1 := n1_; have HB := n2_; have R2 := Aside0.mk n0_.1; clear H2 X2 hz0 hz1 hy0 hy1 hw n0_ n1_ n2_; have ha0 := R1.out.c0; have ha1 := R1.out.c1; have hb0 := R2.out.c0; have hb1 := R2.out.c1) | (go_at_call 13; refine (eqVol_any W4 nx A2 c2 l.length A1 c1 l (Kd.S_reads' R2.out.hs).2.2 (Kd.S_reads' R2.out.hs).2.1 (Kd.S_reads' R1.out.hs).2.2 (Kd.S_reads' R1.out.hs).2.1 HMS.out).mono ?_; rintro e w5 ⟨rfl, hb⟩; have n0_ := Aside0.mk (RB.step R1.out hb); have n1_ := Aside0.mk (RB.step R2.out hb); have n2_ := Aside0.mk (below_then HB.out HB.out.size hb); clear R1 R2 HB ha0 ha1 hb0 hb1 hb; have R1 := n0_; have R2 := n1_; have HB := n2_; clear n0_ n1_ n2_; have hb0 := R2.out.c0; have hb1 := R2.out.c1) | (go_at_call 24; refine (markVol_any (fun k => W2.heap.size ≤ k ∧ k < g2) nx (.slice A2 l.length c2) l 1 w w5 HB.out R2.out.hs (by decide) (by decide) HMS.out).mono ?_; rintro e w6 ⟨rfl, hS, hb, hk⟩; rw [← HKK.out]; have n0_ := Aside0.mk (RB.kept R1.out hk (fun k hk_ => .inr (Nat.lt_of_lt_of_le NE.out hk_.1))); have n1_ := Aside0.mk (RB.marked R2.out hk hS); have n2_ := Aside0.mk hb; clear R1 R2 HB hb0 hb1 hS hb hk; have R1 := n0_; have R2 := n1_; have HB := n2_; clear n0_ n1_ n2_; have hb0 := R2.out.c0; have hb1 := R2.out.c1) | (go_at_call 25; refine (heldVol_any _ nx (.slice A2 l.length c2) l 1 w.heap.size w6 R2.out.hs (by decide) (by decide) HMS.out).mono ?_; rintro e w7 ⟨rfl, hb⟩; rw [← HKK.out]; have n0_ := Aside0.mk (RB.step R1.out hb); have n1_ := Aside0.mk (RB.step R2.out hb); have n2_ := Aside0.mk (below_then HB.out HB.out.size hb); clear R1 R2 HB hb0 hb1 hb; have R1 := n0_; have R2 := n1_; have HB := n2_; clear n0_ n1_ n2_) | (go_at_call 23; refine (CIM.out w7).mono ?_; rintro e w8 ⟨v3, rfl, hS, hb⟩; obtain ⟨A3, c3, rfl⟩ := Kd.S_slice hS; have H3 := Aside0.mk (And.intro hS hb); clear hS hb) | ((with_reducible refine gate_dst (N := 9) rfl ?_); refine box_event ?hg (N := 9) ?hd (cs := #[.int .i64 0, .slice none 0 0]) (t := 29) ?hr ?_; (case hd => rfl); (case hg => rfl); (case hr => first | (go_simp; done) | (go_simp; rfl)); intro g3 hg wB3 hbox hb; have X3 := Aside0.mk (And.intro hg (And.intro hb hbox)); have hz0 : wB3.cell? ⟨g3, 0, none⟩ = some (.int .i64 0) := (blk_cell hbox 0).trans rfl; have hz1 : wB3.cell? ⟨g3, 1, none⟩ = some (.slice none 0 0) := (blk_cell hbox 1).trans rfl; have hy0 := blk_frozen hbox 0; have hy1 := blk_frozen hbox 1; clear hg hb hbox) | ((with_reducible refine gate_store (t := 29) (p := 9) rfl ?_); refine store_event (t := 29) (p := 9) (v := ?vo3) (w1 := ((World.setCell wB3 ⟨g3, 0, none⟩ (.int .i64 nx)).setCell ⟨g3, 1, none⟩ (.slice A3 l.length c3))) ?hg ?ho ?hn ?hr ?_; (case ho => rfl); (case hg => rfl); (case hn => rfl); (case hr => first | (go_simp; done) | (go_simp; rfl)); intro W9 hw; have n0_ := RB.boxed (base := w.heap.size) (nx := nx) H3.out.1 H3.out.2 HB.out.size X3.out.1 X3.out.2.1 X3.out.2.2; rw [← hw] at n0_; have n1_ := Aside0.mk (RB.step R1.out n0_.2); have n2_ := Aside0.mk (below_then HB.out HB.out.size n0_.2); have n3_ := Aside0.mk (RB.step R2.out n0_.2); clear R1 R2 HB; have R1 := n1_; have HB := n2_; have R2 := n3_; have R3 := Aside0.mk n0_.1; clear H3 X3 hz0 hz1 hy0 hy1 hw n0_ n1_ n2_ n3_; have ha0 := R1.out.c0; have ha1 := R1.out.c1; have hb0 := R3.out.c0; have hb1 := R3.out.c1) | (go_at_call 13; refine (eqVol_any W9 nx A3 c3 l.length A1 c1 l (Kd.S_reads' R3.out.hs).2.2 (Kd.S_reads' R3.out.hs).2.1 (Kd.S_reads' R1.out.hs).2.2 (Kd.S_reads' R1.out.hs).2.1 HMS.out).mono ?_; rintro e w10 ⟨rfl, hb⟩; have n0_ := Aside0.mk (RB.step R1.out hb); have n1_ := Aside0.mk (RB.step R2.out hb); have n2_ := Aside0.mk (below_then HB.out HB.out.size hb); clear R1 R2 R3 HB ha0 ha1 hb0 hb1 hb; have R1 := n0_; have R2 := n1_; have HB := n2_; clear n0_ n1_ n2_; have hb0 := R2.out.c0; have hb1 := R2.out.c1) | (go_at_call 25; refine (heldVol_any _ nx (.slice A2 l.length c2) l 1 w.heap.size w10 R2.out.hs (by decide) (by decide) HMS.out).mono ?_; rintro e w11 ⟨rfl, hb⟩; rw [← HKK.out]; have n0_ := Aside0.mk (RB.step R1.out hb); have n1_ := Aside0.mk (RB.step R2.out hb); have n2_ := Aside0.mk (below_then HB.out HB.out.size hb); clear R1 R2 HB hb0 hb1 hb; have R1 := n0_; have R2 := n1_; have HB := n2_; clear n0_ n1_ n2_))
  go_ret
  exact ⟨rfl, HB.out⟩
 ·have hsb : decide ((1048576 : Int) < (a0.size : Int)) = true := decide_eq_true (by omega)
  have hsn : decide (1048576 < a0.size) = true := decide_eq_true (by omega)
  clear hs
  go_enter Try.func8, Try.ntmps8
  go_wp2
  go_ret
  exact ⟨rfl, Below.refl _ _⟩
end Go.Proofs.Ytiopcpkfjikfdaa.PFnExactVolOk
