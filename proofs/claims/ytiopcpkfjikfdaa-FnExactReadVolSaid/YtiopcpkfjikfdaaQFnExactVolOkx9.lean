/- Written by a program of mine (qprint.py, over the kit's print.py, and texts by hand) for the law FnExactVolOk: the functions that it reaches, as Lean functions, and that the program answers as they do. -/
import Derived.Test.YtiopcpkfjikfdaaQFnExactVolOkx0
import Derived.Test.YtiopcpkfjikfdaaQFnExactVolOkx3
import Derived.Test.YtiopcpkfjikfdaaQFnExactVolOkx4
import Derived.Test.YtiopcpkfjikfdaaQFnExactVolOkx5
import Derived.Test.YtiopcpkfjikfdaaQFnExactVolOkx6
import Derived.Test.YtiopcpkfjikfdaaQFnExactVolOkx7
import Derived.Test.YtiopcpkfjikfdaaQFnExactVolOkx8
namespace Go.Proofs.Ytiopcpkfjikfdaa.PFnExactVolOk
open Go.RowKit Go.Proofs.YtiopcpkfjikfdaaW.PrintWords Go.Proofs.YtiopcpkfjikfdaaW.PrintLast Go.Proofs.YtiopcpkfjikfdaaW.PrintMore
attribute [local go_sem] max2_int min2_int max_two min_two max_three min_three max_four min_four   -- for this text's walks alone
set_option linter.unusedVariables false
set_option linter.unusedSimpArgs false

section
open Go.Proofs.Ytiopcpkfjikfdaa.Mth Go.Proofs.Ytiopcpkfjikfdaa.Str
/-! ### the reference's own: is a volume right -/
def reachAtS (l : List S45) (i : Nat) : Bool := (belowBits l 1).getD i false && !((iAt l i).f1 == 2 && !(namedN l (iAt l i).f0 == 1))
def endS (l : List S45) : Bool := decide (totalN l ≤ 400) && !(overFrom l l.length 0)
def reachFromS (l : List S45) : Nat → Nat → Bool
  | 0, _ => endS l
  | k + 1, i => reachAtS l i && reachFromS l k (i + 1)
def inosFromS (nx : Int) (l : List S45) : Nat → Nat → Bool
  | 0, _ => reachFromS l (l.length - 1) 1
  | k + 1, i => inoAtB nx l i && inosFromS nx l k (i + 1)
def volOkS (nx : Int) (l : List S45) : Bool := rgB nx 2 100000 && (rgB (l.length : Int) 1 24 && ((iAt l 0).f0 == 1 && ((iAt l 0).f1 == 2 && inosFromS nx l l.length 0)))
theorem belowS_any (nx : Int) (A : Option Addr) (c : Nat) (l : List S45) (id : Int) (w : World) (hr : Kd.C k45 w A l.length l) (hc : l.length ≤ c) (hs : volSmall l) : Calls Try.prog 29 #[.agg #[.int .i64 nx, .slice A l.length c], .int .i64 id] w fun e w' => ∃ v0_ : Value, e = .returned (v0_) ∧ Kd.R Kd.bool 4 w' w.heap.size (fun _ => True) v0_ (belowBits l id) ∧ Below w.heap.size w w' := by
  obtain ⟨K, hK⟩ := below_ev nx l hs id
  exact spec_l4Below.calls K nx A c l id _ w hr hc (hK K (Nat.le_refl _))
theorem namedS_any (nx : Int) (A : Option Addr) (c : Nat) (l : List S45) (id : Int) (w : World) (hr : Kd.C k45 w A l.length l) (hc : l.length ≤ c) (hs : volSmall l) : Calls Try.prog 30 #[.agg #[.int .i64 nx, .slice A l.length c], .int .i64 id] w fun e w' => e = .returned (.int .i64 ((namedN l id : Nat) : Int)) ∧ Below w.heap.size w w' := by
  obtain ⟨K, hK⟩ := named_ev nx l hs id
  exact spec_l4Named.calls K nx A c l id _ w hr hc (hK K (Nat.le_refl _))
theorem bytesS_any (nx : Int) (A : Option Addr) (c : Nat) (l : List S45) (w : World) (hr : Kd.C k45 w A l.length l) (hc : l.length ≤ c) (hs : volSmall l) : Calls Try.prog 31 #[.agg #[.int .i64 nx, .slice A l.length c]] w fun e w' => e = .returned (.int .i64 ((totalN l : Nat) : Int)) ∧ Below w.heap.size w w' := by
  obtain ⟨K, hK⟩ := bytes_ev nx l hs
  exact spec_l4Bytes.calls K nx A c l _ w hr hc (hK K (Nat.le_refl _))
theorem overS_any (nx : Int) (A : Option Addr) (c : Nat) (l : List S45) (w : World) (hr : Kd.C k45 w A l.length l) (hc : l.length ≤ c) (hs : volSmall l) : Calls Try.prog 32 #[.agg #[.int .i64 nx, .slice A l.length c]] w fun e w' => e = .returned (.bool (overFrom l l.length 0)) ∧ Below w.heap.size w w' := by
  obtain ⟨K, hK⟩ := over_ev nx l hs
  exact spec_l4Over.calls K nx A c l _ w hr hc (hK K (Nat.le_refl _))
set_option maxHeartbeats 8000000 in
set_option maxRecDepth 100000 in
theorem volOkS_any (w : World) (nx : Int) (A : Option Addr) (c : Nat) (l : List S45) (hr : Kd.C k45 w A l.length l) (hc : l.length ≤ c) (hs : volSmall l) :
    Calls Try.prog 10 #[.agg #[.int .i64 nx, .slice A l.length c]] w fun e w' => e = .returned (.bool (volOkS nx l)) ∧ Below w.heap.size w w' := by
  have hu29 := Try.underlying29
  have hu45 := Try.underlying45
  have hm : l.length ≤ 9223372036854775807 := hr.2.1
  have HV0 := Aside0.mk (show VolAt (w.alloc (.cells #[.int .i64 nx, .slice A l.length c] 29)) w.heap.size nx A c l from ⟨heap_alloc_new w _, Kd.C_below hr (below_alloc (Below.refl _ _) _), hc, hs⟩)
  cases r1 : rgB nx 2 100000 with
  | false =>
    have HF := Aside0.mk (show volOkS nx l = false from by unfold volOkS; simp [r1])
    clear HV0 hr hc hs
    go_enter Try.func10, Try.ntmps10
    go_wp2_with (go_at_call 27; refine (l1In_any _ _ _ _).mono ?_; rintro e w1 ⟨rfl, ⟨n, rfl⟩⟩)
    go_ret
    exact ⟨by rw [HF.out]; rfl, (by repeat (first | exact Below.refl _ _ | apply below_alloc | apply pw_below_drewN | apply below_drew1))⟩
  | true =>
  cases r2 : rgB (l.length : Int) 1 24 with
  | false =>
    have HF := Aside0.mk (show volOkS nx l = false from by unfold volOkS; simp [r1, r2])
    clear HV0 hr hc hs
    go_enter Try.func10, Try.ntmps10
    go_wp2_with (go_at_call 27; refine (l1In_any _ _ _ _).mono ?_; rintro e w1 ⟨rfl, ⟨n, rfl⟩⟩)
    go_ret
    exact ⟨by rw [HF.out]; rfl, (by repeat (first | exact Below.refl _ _ | apply below_alloc | apply pw_below_drewN | apply below_drew1))⟩
  | true =>
  have hl1 : 1 ≤ l.length ∧ l.length ≤ 24 := by have h1 := of_decide_eq_true r2; omega
  have hnx : 2 ≤ nx ∧ nx ≤ 100000 := of_decide_eq_true r1
  obtain ⟨ad, A6, c6, eA, hx0, hx1, -, -, -, -, -, -, -, -, -⟩ := at_T45 hr 0 (by omega) (by omega)
  subst eA
  have hz : ad.add 0 = ad := by cases ad; simp [Addr.add]
  have hz2 : rd_T45 l 0 = iAt l 0 := rfl
  rw [show (0 : Int).toNat * 9 = 0 from rfl, hz, hz2] at hx0 hx1
  replace hx0 := pw_cell_below (below_alloc (Below.refl w.heap.size w) (.cells #[.int .i64 nx, .slice (some ad) l.length c] 29)) hx0
  replace hx1 := pw_cell_below (below_alloc (Below.refl w.heap.size w) (.cells #[.int .i64 nx, .slice (some ad) l.length c] 29)) hx1
  have hp0 : (0 < l.length) = True := eq_true (by omega)
  have hp1 : ((0 : Int) < (l.length : Int)) = True := eq_true (by omega)
  clear hz hz2
  cases r3 : ((iAt l 0).f0 == 1) with
  | false =>
    have r3n : ((iAt l 0).f0 != 1) = true := by rw [bne, r3]; rfl
    have HF := Aside0.mk (show volOkS nx l = false from by unfold volOkS; simp [r1, r2, r3])
    clear HV0 hr hc hs hl1 hnx
    go_enter Try.func10, Try.ntmps10
    go_wp2_with (go_at_call 27; refine (l1In_any _ _ _ _).mono ?_; rintro e w1 ⟨rfl, ⟨n, rfl⟩⟩)
    go_ret
    exact ⟨by rw [HF.out]; rfl, (by repeat (first | exact Below.refl _ _ | apply below_alloc | apply pw_below_drewN | apply below_drew1))⟩
  | true =>
  have r3n : ((iAt l 0).f0 != 1) = false := by rw [bne, r3]; rfl
  cases r4 : ((iAt l 0).f1 == 2) with
  | false =>
    have r4n : ((iAt l 0).f1 != 2) = true := by rw [bne, r4]; rfl
    have HF := Aside0.mk (show volOkS nx l = false from by unfold volOkS; simp [r1, r2, r3, r4])
    clear HV0 hr hc hs hl1 hnx
    go_enter Try.func10, Try.ntmps10
    go_wp2_with (go_at_call 27; refine (l1In_any _ _ _ _).mono ?_; rintro e w1 ⟨rfl, ⟨n, rfl⟩⟩)
    go_ret
    exact ⟨by rw [HF.out]; rfl, (by repeat (first | exact Below.refl _ _ | apply below_alloc | apply pw_below_drewN | apply below_drew1))⟩
  | true =>
  have r4n : ((iAt l 0).f1 != 2) = false := by rw [bne, r4]; rfl
  have HF := Aside0.mk (show volOkS nx l = inosFromS nx l l.length 0 from by unfold volOkS; simp [r1, r2, r3, r4])
  have HL1 := Aside0.mk hl1
  have HNX := Aside0.mk hnx
  clear hr hc hs hl1 hnx
  go_enter Try.func10, Try.ntmps10
  go_wp2_with (go_at_call 27; refine (l1In_any _ _ _ _).mono ?_; rintro e w1 ⟨rfl, ⟨n, rfl⟩⟩)
  have HBw := Aside0.mk (below_alloc (Below.refl w.heap.size w) (.cells #[.int .i64 nx, .slice (some ad) l.length c] 29))
  generalize w.alloc (.cells #[.int .i64 nx, .slice (some ad) l.length c] 29) = w1 at HV0 HBw hx0 hx1 ⊢
  generalize w.heap.size = gb at HV0 ⊢
  have HSm := Aside0.mk HV0.out.small
  clear r2 hx0 hx1 hp0 hp1 r3 r3n r4 r4n
  have HF2 := Aside0.mk HF.out.symm
  clear HF
  go_loopg [3] l.length (fun kq v38 w' => ∃ (x : Nat), v38 = .int .i64 (x : Int) ∧ Aside0 (x + kq = l.length ∧ inosFromS nx l kq x = volOkS nx l) ∧ Aside0 (Below w1.heap.size w1 w'))
  case atStart => exact ⟨0, rfl, ⟨by omega, HF2.out⟩, ⟨by repeat (first | exact Below.refl _ _ | apply pw_below_drewN)⟩⟩
  case round =>
    obtain ⟨x, rfl, HX, HB⟩ := hrel
    have hcv := (HV0.out.below HB.out).c1
    have hl : gk ≤ l.length ∧ x ≤ l.length := by have := HX.out.1; omega
    by_cases hlt : x < l.length
    · cases gk with
      | zero => have := HX.out.1; omega
      | succ k1 =>
      obtain ⟨ad2, A6, c6, eA, hx0, hx1, hx2, hx3, hx4, hx5, hx6, hx7, hx8, hl6, hi6⟩ := ino_at HV0.out HB.out x hlt
      obtain rfl : ad = ad2 := by injection eA
      obtain ⟨xi, hxi⟩ : ∃ q, q = l[x] := ⟨_, rfl⟩
      have hxm : xi ∈ l := hxi ▸ List.getElem_mem hlt
      have HSx := Aside0.mk (show dSmall xi.f6 ∧ xi.f5.size ≤ 1048576 from ⟨⟨HSm.out.2.1 _ hxm, HSm.out.2.2.2 _ hxm⟩, HSm.out.2.2.1 _ hxm⟩)
      rw [← hxi] at hx0 hx1 hx2 hx3 hx4 hx5 hx6 hx7 hx8 hl6 hi6
      have HNF := Aside0.mk (show inosFromS nx l (k1 + 1) x = (rgB xi.f0 1 (nx - 1) && ((x == 0 || decide ((iAt l (x - 1)).f0 < xi.f0)) && inodeOkB l xi) && inosFromS nx l k1 (x + 1)) from by
        rw [inosFromS, inoAtB, iAt_eq l x hlt, ← hxi])
      obtain ⟨pf, hpf⟩ : ∃ q, q = (iAt l (x - 1)).f0 := ⟨_, rfl⟩
      rw [← hpf] at HNF
      have HJ := Aside0.mk (show 0 < x → ∃ j : Int, wrap64 ((x : Int) - 1) = j ∧ 0 ≤ j ∧ j < (l.length : Int) ∧ ∀ W, Below w1.heap.size w1 W → W.cell? (ad.add (j.toNat * 9)) = some (.int .i64 pf) from fun hx => ⟨((x - 1 : Nat) : Int), by unfold wrap64; omega, by omega, by omega, fun W hW => by
        obtain ⟨ad3, -, -, e1, h1, -⟩ := ino_at HV0.out hW (x - 1) (by omega)
        obtain rfl : ad = ad3 := by injection e1
        rw [← iAt_eq l (x - 1) (by omega), ← hpf] at h1
        rw [Int.toNat_natCast]; exact h1⟩)
      have HI0 := Aside0.mk (fun (W : World) (hW : Below w1.heap.size w1 W) => by have h1 := inodeS_any W nx (some ad) c l (HV0.out.below hW).row HV0.out.cap HV0.out.small xi.f0 xi.f1 xi.f2 xi.f3 xi.f4 xi.f7 xi.f8 xi.f5 A6 c6 xi.f6 (Kd.C_below hi6 hW) HSx.out.1 HSx.out.2; rw [inodeOkS_eq] at h1; exact h1)
      obtain ⟨nq, hnq⟩ : ∃ q, q = nx - 1 := ⟨_, rfl⟩
      have hnw : IntKind.i64.wrap (nx - 1) = nq := by rw [hnq, i64_w]; unfold wrap64; have := HNX.out; omega
      rw [← hnq] at HNF
      have HIB : inodeOkB l xi = inodeOkV l xi.f1 xi.f2 xi.f3 xi.f4 xi.f7 xi.f8 xi.f5 xi.f6 := rfl
      rw [HIB] at HNF
      have hmN : xi.f6.length ≤ 9223372036854775807 := hi6.2.1
      clear HIB hnq hpf hxi hxm hi6 hl6 hl eA
      obtain ⟨f0, f1, f2, f3, f4, f5, f6, f7, f8⟩ := xi
      dsimp only at hx0 hx1 hx2 hx3 hx4 hx5 hx6 hx7 hx8 HNF HI0 hmN
      have HW := fun W => l1In_any f0 1 nq W
      go_wp2
      generalize hq : wr.alloc (.cells #[.int .i64 f0, .int .i64 f1, .int .i64 f2, .int .i64 f3, .int .i64 f4, .string f5, .slice A6 f6.length c6, .int .i64 f7, .int .i64 f8] 45) = wi
      have HBi := Aside0.mk (show Below w1.heap.size w1 wi from by rw [← hq]; exact below_alloc HB.out _)
      have HBX := Aside0.mk (show wi.heap[wr.heap.size]? = some (.cells #[.int .i64 f0, .int .i64 f1, .int .i64 f2, .int .i64 f3, .int .i64 f4, .string f5, .slice A6 f6.length c6, .int .i64 f7, .int .i64 f8] 45 (0, 0)) from by rw [← hq]; exact heap_alloc_new wr _)
      generalize wr.heap.size = gd at HBX ⊢
      have hd0 : ∀ y : Grow wi, y.W.cell? ⟨gd, 0, none⟩ = some (.int .i64 f0) := fun y => y.cell ((blk_cell HBX.out 0).trans rfl)
      have hd1 : ∀ y : Grow wi, y.W.cell? ⟨gd, 1, none⟩ = some (.int .i64 f1) := fun y => y.cell ((blk_cell HBX.out 1).trans rfl)
      have hd2 : ∀ y : Grow wi, y.W.cell? ⟨gd, 2, none⟩ = some (.int .i64 f2) := fun y => y.cell ((blk_cell HBX.out 2).trans rfl)
      have hd3 : ∀ y : Grow wi, y.W.cell? ⟨gd, 3, none⟩ = some (.int .i64 f3) := fun y => y.cell ((blk_cell HBX.out 3).trans rfl)
      have hd4 : ∀ y : Grow wi, y.W.cell? ⟨gd, 4, none⟩ = some (.int .i64 f4) := fun y => y.cell ((blk_cell HBX.out 4).trans rfl)
      have hd5 : ∀ y : Grow wi, y.W.cell? ⟨gd, 5, none⟩ = some (.string f5) := fun y => y.cell ((blk_cell HBX.out 5).trans rfl)
      have hd6 : ∀ y : Grow wi, y.W.cell? ⟨gd, 6, none⟩ = some (.slice A6 f6.length c6) := fun y => y.cell ((blk_cell HBX.out 6).trans rfl)
      have hd7 : ∀ y : Grow wi, y.W.cell? ⟨gd, 7, none⟩ = some (.int .i64 f7) := fun y => y.cell ((blk_cell HBX.out 7).trans rfl)
      have hd8 : ∀ y : Grow wi, y.W.cell? ⟨gd, 8, none⟩ = some (.int .i64 f8) := fun y => y.cell ((blk_cell HBX.out 8).trans rfl)
      have hv0 : ∀ y : Grow wi, y.W.cell? ⟨gb, 0, none⟩ = some (.int .i64 nx) := fun y => y.cell (HV0.out.below HBi.out).c0
      have hv1 : ∀ y : Grow wi, y.W.cell? ⟨gb, 1, none⟩ = some (.slice (some ad) l.length c) := fun y => y.cell (HV0.out.below HBi.out).c1
      have HI1 := Aside0.mk (fun (y : Grow wi) => HI0.out y.W (below_then HBi.out HBi.out.size y.hb))
      clear hx0 hx1 hx2 hx3 hx4 hx5 hx6 hx7 hx8 HB hq HI0 HBX hcv
      cases b1 : rgB f0 1 nq with
      | false =>
        rw [b1] at HW
        have HG := Aside0.mk (show inosFromS nx l (k1 + 1) x = false from by rw [HNF.out, b1]; rfl)
        have HI := HI1
        clear HI1 b1
        refine wp_region_grow (by kernel_rfl) (by kernel_rfl) ?_
        repeat (go_big_quiet_step (first | (go_at_call 27; exact grow_draw (HW _)) | (go_at_call 28; exact grow_call (HI.out _))))
        refine wpQuiet_nil ?_
        rintro _ ⟨yw, rfl⟩
        have HBy := Aside0.mk (below_then HBi.out HBi.out.size yw.hb)
        generalize yw.W = wy at HBy ⊢

        go_wp2
        go_ret
        exact ⟨by rw [← HX.out.2, HG.out]; rfl, below_then HBw.out HBw.out.size HBy.out⟩
      | true =>
        rw [b1] at HW
        by_cases b4 : 0 < x
        · obtain ⟨j, hj, hj0, hj1, hjc⟩ := HJ.out b4
          have hjw : IntKind.i64.wrap ((x : Int) - 1) = j := (i64_w _).trans hj
          have b4d : decide (0 < x) = true := decide_eq_true b4
          have b4i : decide (0 < (x : Int)) = true := decide_eq_true (by omega)
          have hp0 : ∀ y : Grow wi, y.W.cell? (ad.add (j.toNat * 9)) = some (.int .i64 pf) := fun y => hjc y.W (below_then HBi.out HBi.out.size y.hb)
          replace hj0 := eq_true hj0
          replace hj1 := eq_true hj1
          have hx0 : (x == 0) = false := by rw [beq_eq_false_iff_ne]; omega
          by_cases b5 : pf < f0
          · have b5d : decide (f0 ≤ pf) = false := decide_eq_false (by omega)
            have b5e : decide (pf < f0) = true := decide_eq_true b5
            cases b6 : inodeOkV l f1 f2 f3 f4 f7 f8 f5 f6 with
            | false =>
              have HG := Aside0.mk (show inosFromS nx l (k1 + 1) x = false from by rw [HNF.out, b1, hx0, b5e, b6]; rfl)
              rw [b6] at HI1
              have HI := HI1
              clear HI1 b1 b5 b5e b6 hx0 b4 hj hjc
              refine wp_region_grow (by kernel_rfl) (by kernel_rfl) ?_
              repeat (go_big_quiet_step (first | (go_at_call 27; exact grow_draw (HW _)) | (go_at_call 28; exact grow_call (HI.out _))))
              refine wpQuiet_nil ?_
              rintro _ ⟨yw, rfl⟩
              have HBy := Aside0.mk (below_then HBi.out HBi.out.size yw.hb)
              generalize yw.W = wy at HBy ⊢

              go_wp2
              go_ret
              exact ⟨by rw [← HX.out.2, HG.out]; rfl, below_then HBw.out HBw.out.size HBy.out⟩
            | true =>
              have HG := Aside0.mk (show inosFromS nx l (k1 + 1) x = inosFromS nx l k1 (x + 1) from by rw [HNF.out, b1, hx0, b5e, b6]; rfl)
              rw [b6] at HI1
              have HI := HI1
              clear HI1 b1 b5 b5e b6 hx0 b4 hj hjc
              refine wp_region_grow (by kernel_rfl) (by kernel_rfl) ?_
              repeat (go_big_quiet_step (first | (go_at_call 27; exact grow_draw (HW _)) | (go_at_call 28; exact grow_call (HI.out _))))
              refine wpQuiet_nil ?_
              rintro _ ⟨yw, rfl⟩
              have HBy := Aside0.mk (below_then HBi.out HBi.out.size yw.hb)
              generalize yw.W = wy at HBy ⊢

              go_wp2
              go_roundg k1
              case measure => omega
              case rel => exact ⟨x + 1, by go_num, ⟨by have := HX.out.1; omega, by rw [← HX.out.2, HG.out]⟩, HBy⟩
          · have b5d : decide (f0 ≤ pf) = true := decide_eq_true (by omega)
            have b5e : decide (pf < f0) = false := decide_eq_false b5
            have HG := Aside0.mk (show inosFromS nx l (k1 + 1) x = false from by rw [HNF.out, b1, hx0, b5e]; rfl)
            have HI := HI1
            clear HI1 b1 b5 b5e hx0 b4 hj hjc
            refine wp_region_grow (by kernel_rfl) (by kernel_rfl) ?_
            repeat (go_big_quiet_step (first | (go_at_call 27; exact grow_draw (HW _)) | (go_at_call 28; exact grow_call (HI.out _))))
            refine wpQuiet_nil ?_
            rintro _ ⟨yw, rfl⟩
            have HBy := Aside0.mk (below_then HBi.out HBi.out.size yw.hb)
            generalize yw.W = wy at HBy ⊢

            go_wp2
            go_ret
            exact ⟨by rw [← HX.out.2, HG.out]; rfl, below_then HBw.out HBw.out.size HBy.out⟩
        · have hx0 : x = 0 := by omega
          subst hx0
          cases b6 : inodeOkV l f1 f2 f3 f4 f7 f8 f5 f6 with
          | false =>
            have HG := Aside0.mk (show inosFromS nx l (k1 + 1) 0 = false from by rw [HNF.out, b1, b6]; rfl)
            rw [b6] at HI1
            have HI := HI1
            clear HI1 b1 b6
            refine wp_region_grow (by kernel_rfl) (by kernel_rfl) ?_
            repeat (go_big_quiet_step (first | (go_at_call 27; exact grow_draw (HW _)) | (go_at_call 28; exact grow_call (HI.out _))))
            refine wpQuiet_nil ?_
            rintro _ ⟨yw, rfl⟩
            have HBy := Aside0.mk (below_then HBi.out HBi.out.size yw.hb)
            generalize yw.W = wy at HBy ⊢

            go_wp2
            go_ret
            exact ⟨by rw [← HX.out.2, HG.out]; rfl, below_then HBw.out HBw.out.size HBy.out⟩
          | true =>
            have HG := Aside0.mk (show inosFromS nx l (k1 + 1) 0 = inosFromS nx l k1 (0 + 1) from by rw [HNF.out, b1, b6]; rfl)
            rw [b6] at HI1
            have HI := HI1
            clear HI1 b1 b6
            refine wp_region_grow (by kernel_rfl) (by kernel_rfl) ?_
            repeat (go_big_quiet_step (first | (go_at_call 27; exact grow_draw (HW _)) | (go_at_call 28; exact grow_call (HI.out _))))
            refine wpQuiet_nil ?_
            rintro _ ⟨yw, rfl⟩
            have HBy := Aside0.mk (below_then HBi.out HBi.out.size yw.hb)
            generalize yw.W = wy at HBy ⊢

            go_wp2
            go_roundg k1
            case measure => omega
            case rel => exact ⟨0 + 1, by go_num, ⟨by have := HX.out.1; omega, by rw [← HX.out.2, HG.out]⟩, HBy⟩
    · have HF3 := Aside0.mk (show reachFromS l (l.length - 1) 1 = volOkS nx l from by
        have h1 := HX.out
        have e : gk = 0 := by omega
        rw [e] at h1; exact h1.2)
      clear hl
      have HBl := Aside0.mk (belowS_any nx (some ad) c l 1 wr (HV0.out.below HB.out).row HV0.out.cap HV0.out.small)
      have hcv0 := (HV0.out.below HB.out).c0
      go_wp2_with (go_at_call 29; refine HBl.out.mono ?_; rintro e w2 ⟨v, rfl, ho, hb⟩; obtain ⟨A5, c5, rfl, hl5, hr5⟩ := Kd.R_reads ho; have HR5 := Aside0.mk hr5; have HBa := Aside0.mk (below_then HB.out HB.out.size hb); clear ho hb hr5)
      have HLb := belowBits_len l 1
      obtain ⟨bs, hbs⟩ : ∃ q, q = belowBits l 1 := ⟨_, rfl⟩
      rw [← hbs] at HR5 HLb ⊢
      rw [← hbs] at hl5
      have HBs := Aside0.mk hbs
      have HLs := Aside0.mk HLb
      clear hbs HLb HB hcv hcv0
      go_loopg [6] (l.length - 1) (fun kq v6 w' => ∃ (x : Nat), v6 = .int .i64 (x : Int) ∧ Aside0 (x + kq = l.length ∧ reachFromS l kq x = volOkS nx l) ∧ Aside0 (Below w1.heap.size w1 w') ∧ Aside0 (Below w2.heap.size w2 w'))
      case atStart => exact ⟨1, rfl, ⟨by have := HL1.out; omega, HF3.out⟩, HBa, ⟨Below.refl _ _⟩⟩
      case round =>
        clear HX
        obtain ⟨x, rfl, HX, HB, HB2⟩ := hrel
        have hcv := (HV0.out.below HB.out).c1
        have hcv0 := (HV0.out.below HB.out).c0
        have hl : gk ≤ l.length ∧ x ≤ l.length := by have := HX.out.1; omega
        by_cases hlt : x < l.length
        · cases gk with
          | zero => have := HX.out.1; omega
          | succ k1 =>
          obtain ⟨ad5, eA, hb5⟩ := Kd.at_bool (Kd.C_below HR5.out HB2.out) (x : Int) (by omega) (by have := HLs.out; omega)
          subst eA
          rw [Int.toNat_natCast, rdB] at hb5
          obtain ⟨ad1, A6, c6, eA, hx0, hx1, -, -, -, -, -, -, -, -, -⟩ := ino_at HV0.out HB.out x hlt
          obtain rfl : ad = ad1 := by injection eA
          rw [← iAt_eq l x hlt] at hx0 hx1
          have HNF := Aside0.mk (show reachFromS l (k1 + 1) x = (bs.getD x false && !((iAt l x).f1 == 2 && !(namedN l (iAt l x).f0 == 1)) && reachFromS l k1 (x + 1)) from by
            rw [reachFromS, reachAtS, HBs.out])
          generalize (iAt l x).f0 = f0 at hx0 HNF
          generalize (iAt l x).f1 = f1 at hx1 HNF
          generalize bs.getD x false = b0 at hb5 HNF
          have HNm0 := fun (y : Grow wr) => namedS_any nx (some ad) c l f0 y.W (HV0.out.below (below_then HB.out HB.out.size y.hb)).row HV0.out.cap HV0.out.small
          have hd5 : ∀ y : Grow wr, y.W.cell? (ad5.add x) = some (.bool b0) := fun y => y.cell hb5
          have hd0 : ∀ y : Grow wr, y.W.cell? (ad.add (x * 9)) = some (.int .i64 f0) := fun y => y.cell hx0
          have hd1 : ∀ y : Grow wr, y.W.cell? ⟨(ad.add (x * 9)).block, (ad.add (x * 9)).off + 1, none⟩ = some (.int .i64 f1) := fun y => y.cell hx1
          have hv0 : ∀ y : Grow wr, y.W.cell? ⟨gb, 0, none⟩ = some (.int .i64 nx) := fun y => y.cell hcv0
          have hv1 : ∀ y : Grow wr, y.W.cell? ⟨gb, 1, none⟩ = some (.slice (some ad) l.length c) := fun y => y.cell hcv
          have p0 : (0 ≤ (x : Int)) = True := eq_true (by omega)
          have p1 : ((x : Int) < (l.length : Int)) = True := eq_true (by omega)
          have p2 : (x < l.length) = True := eq_true hlt
          have p3 : ((x : Int) < (bs.length : Int)) = True := eq_true (by have := HLs.out; omega)
          have p4 : (x < bs.length) = True := eq_true (by have := HLs.out; omega)
          clear hb5 hx0 hx1 hl eA
          cases b0 with
          | false =>
            have HG := Aside0.mk (show reachFromS l (k1 + 1) x = false from by rw [HNF.out]; rfl)
            have HNm := Aside0.mk HNm0
            clear HNm0
            go_wp2
            refine wp_region_grow (by kernel_rfl) (by kernel_rfl) ?_
            repeat (go_big_quiet_step (first | (go_at_call 30; exact grow_call (HNm.out _))))
            refine wpQuiet_nil ?_
            rintro _ ⟨yw, rfl⟩
            have HBy := Aside0.mk (below_then HB.out HB.out.size yw.hb)
            have HBz := Aside0.mk (below_then HB2.out HB2.out.size yw.hb)
            generalize yw.W = wy at HBy HBz ⊢

            go_wp2
            go_ret
            exact ⟨by rw [← HX.out.2, HG.out]; rfl, below_then HBw.out HBw.out.size HBy.out⟩
          | true =>
            cases q2 : (f1 == 2) with
            | false =>
              have HG := Aside0.mk (show reachFromS l (k1 + 1) x = reachFromS l k1 (x + 1) from by rw [HNF.out, q2]; rfl)
              have HNm := Aside0.mk HNm0
              clear HNm0
              go_wp2
              refine wp_region_grow (by kernel_rfl) (by kernel_rfl) ?_
              repeat (go_big_quiet_step (first | (go_at_call 30; exact grow_call (HNm.out _))))
              refine wpQuiet_nil ?_
              rintro _ ⟨yw, rfl⟩
              have HBy := Aside0.mk (below_then HB.out HB.out.size yw.hb)
              have HBz := Aside0.mk (below_then HB2.out HB2.out.size yw.hb)
              generalize yw.W = wy at HBy HBz ⊢

              go_wp2
              go_roundg k1
              case measure => omega
              case rel => exact ⟨x + 1, by go_num, ⟨by have := HX.out.1; omega, by rw [← HX.out.2, HG.out]⟩, HBy, HBz⟩
            | true =>
              have hNe : (namedN l f0 == 1) = (((namedN l f0 : Nat) : Int) == 1) := by
                apply Bool.eq_iff_iff.2; simp only [beq_iff_eq]; omega
              rw [hNe] at HNF
              clear hNe
              generalize ((namedN l f0 : Nat) : Int) = nn at HNF HNm0
              have HNm := Aside0.mk HNm0
              clear HNm0
              cases q3 : (nn == 1) with
              | false =>
                have q3n : (nn != 1) = true := by rw [bne, q3]; rfl
                have HG := Aside0.mk (show reachFromS l (k1 + 1) x = false from by rw [HNF.out, q2, q3]; rfl)
                go_wp2
                refine wp_region_grow (by kernel_rfl) (by kernel_rfl) ?_
                repeat (go_big_quiet_step (first | (go_at_call 30; exact grow_call (HNm.out _))))
                refine wpQuiet_nil ?_
                rintro _ ⟨yw, rfl⟩
                have HBy := Aside0.mk (below_then HB.out HB.out.size yw.hb)
                have HBz := Aside0.mk (below_then HB2.out HB2.out.size yw.hb)
                generalize yw.W = wy at HBy HBz ⊢

                go_wp2
                go_ret
                exact ⟨by rw [← HX.out.2, HG.out]; rfl, below_then HBw.out HBw.out.size HBy.out⟩
              | true =>
                have q3n : (nn != 1) = false := by rw [bne, q3]; rfl
                have HG := Aside0.mk (show reachFromS l (k1 + 1) x = reachFromS l k1 (x + 1) from by rw [HNF.out, q2, q3]; rfl)
                go_wp2
                refine wp_region_grow (by kernel_rfl) (by kernel_rfl) ?_
                repeat (go_big_quiet_step (first | (go_at_call 30; exact grow_call (HNm.out _))))
                refine wpQuiet_nil ?_
                rintro _ ⟨yw, rfl⟩
                have HBy := Aside0.mk (below_then HB.out HB.out.size yw.hb)
                have HBz := Aside0.mk (below_then HB2.out HB2.out.size yw.hb)
                generalize yw.W = wy at HBy HBz ⊢

                go_wp2
                go_roundg k1
                case measure => omega
                case rel => exact ⟨x + 1, by go_num, ⟨by have := HX.out.1; omega, by rw [← HX.out.2, HG.out]⟩, HBy, HBz⟩
        · have HE := Aside0.mk (show endS l = volOkS nx l from by
            have h1 := HX.out
            have e : gk = 0 := by omega
            rw [e] at h1; exact h1.2)
          have HT0 := bytesS_any nx (some ad) c l wr (HV0.out.below HB.out).row HV0.out.cap HV0.out.small
          have HO0 := fun W (hW : Below w1.heap.size w1 W) => overS_any nx (some ad) c l W (HV0.out.below hW).row HV0.out.cap HV0.out.small
          have hTe : decide (totalN l ≤ 400) = decide (((totalN l : Nat) : Int) ≤ 400) := decide_eq_decide.2 (by omega)
          have HE2 := Aside0.mk (show volOkS nx l = (decide (((totalN l : Nat) : Int) ≤ 400) && !(overFrom l l.length 0)) from by rw [← HE.out, endS, hTe])
          clear hTe hl
          generalize ((totalN l : Nat) : Int) = tt at HT0 HE2
          have HTt := Aside0.mk HT0
          cases q4 : decide (tt ≤ 400) with
          | false =>
            have HG := Aside0.mk (show volOkS nx l = false from by rw [HE2.out, q4]; rfl)
            clear HT0 HO0
            go_wp2_with (go_at_call 31; refine HTt.out.mono ?_; rintro e w3 ⟨rfl, hb⟩; have HBn := Aside0.mk (below_then HB.out HB.out.size hb); clear hb)
            go_ret
            exact ⟨by rw [HG.out]; rfl, below_then HBw.out HBw.out.size HBn.out⟩
          | true =>
            have HG := Aside0.mk (show volOkS nx l = !(overFrom l l.length 0) from by rw [HE2.out, q4, Bool.true_and])
            generalize overFrom l l.length 0 = ov at HO0 HG
            have HOv := Aside0.mk HO0
            clear HT0 HO0
            go_wp2_with (first | (go_at_call 31; refine HTt.out.mono ?_; rintro e w3 ⟨rfl, hb⟩; have HBn := Aside0.mk (below_then HB.out HB.out.size hb); have hc9 := (HV0.out.below HBn.out).c1; have hc8 := (HV0.out.below HBn.out).c0; clear hb) | (go_at_call 32; refine (HOv.out _ HBn.out).mono ?_; rintro e w4 ⟨rfl, hb⟩; have HBo := Aside0.mk (below_then HBn.out HBn.out.size hb); clear hb))
            go_ret
            exact ⟨by rw [HG.out]; rfl, below_then HBw.out HBw.out.size HBo.out⟩
end

def volSmallB (l : List S45) : Bool := decide (l.length ≤ 1048576) && l.all fun x => decide (x.f6.length ≤ 1048576) && (decide (x.f5.size ≤ 1048576) && x.f6.all fun d => decide (d.f0.size ≤ 1048576))
theorem volSmallB_iff (l : List S45) : volSmallB l = true ↔ volSmall l := by
  unfold volSmallB volSmall
  simp only [Bool.and_eq_true, decide_eq_true_eq, List.all_eq_true]
  constructor
  · rintro ⟨h0, h⟩
    exact ⟨h0, fun x hx => (h x hx).1, fun x hx => (h x hx).2.1, fun x hx => (h x hx).2.2⟩
  · rintro ⟨h0, h1, h2, h3⟩
    exact ⟨h0, fun x hx => ⟨h1 x hx, h2 x hx, h3 x hx⟩⟩
/-! ### spec_VolOk: function 10 (by hand) -/
def spec_VolOk.f (a0_0 : Int) (l0_1 : List (S45)) : Option (Bool) := if volSmallB l0_1 = true then some (volOkS a0_0 l0_1) else none
theorem spec_VolOk.calls (a0_0 : Int) (A0_1 : Option Addr) (c0_1 : Nat) (l0_1 : List (S45)) (r : Bool) (w : World) (hr0_1 : Kd.C k45 w A0_1 l0_1.length l0_1) (hc0_1 : l0_1.length ≤ c0_1) (h : spec_VolOk.f a0_0 l0_1 = some r) :
  Calls Try.prog 10 #[.agg #[.int .i64 a0_0, .slice A0_1 l0_1.length c0_1]] w fun e w' => e = .returned (.bool r) ∧ Below w.heap.size w w' := by
 unfold spec_VolOk.f at h
 by_cases hs : volSmallB l0_1 = true
 ·rw [if_pos hs] at h
  obtain rfl := Option.some.inj h
  exact volOkS_any w a0_0 A0_1 c0_1 l0_1 hr0_1 hc0_1 ((volSmallB_iff l0_1).1 hs)
 ·rw [if_neg hs] at h
  exact absurd h (by simp)

/-! ### impl_VolOk: function 12 (by hand) -/
def impl_VolOk.f (a0_0 : Int) (l0_1 : List (S45)) : Option (Bool) := if volSmallB l0_1 = true then some (volOkB a0_0 l0_1) else none
theorem impl_VolOk.calls (a0_0 : Int) (A0_1 : Option Addr) (c0_1 : Nat) (l0_1 : List (S45)) (r : Bool) (w : World) (hr0_1 : Kd.C k45 w A0_1 l0_1.length l0_1) (hc0_1 : l0_1.length ≤ c0_1) (h : impl_VolOk.f a0_0 l0_1 = some r) :
  Calls Try.prog 12 #[.agg #[.int .i64 a0_0, .slice A0_1 l0_1.length c0_1]] w fun e w' => e = .returned (.bool r) ∧ Below w.heap.size w w' := by
 unfold impl_VolOk.f at h
 by_cases hs : volSmallB l0_1 = true
 ·rw [if_pos hs] at h
  obtain rfl := Option.some.inj h
  exact volOk_any w a0_0 A0_1 c0_1 l0_1 hr0_1 hc0_1 ((volSmallB_iff l0_1).1 hs)
 ·rw [if_neg hs] at h
  exact absurd h (by simp)

end Go.Proofs.Ytiopcpkfjikfdaa.PFnExactVolOk
