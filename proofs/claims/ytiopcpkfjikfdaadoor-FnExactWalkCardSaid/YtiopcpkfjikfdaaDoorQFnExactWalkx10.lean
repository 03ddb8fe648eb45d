/- Written by a program of mine (qprint.py, over the kit's print.py, and texts by hand) for the law FnExactWalk: the functions that it reaches, as Lean functions, and that the program answers as they do. -/
import Derived.Test.YtiopcpkfjikfdaaDoorQFnExactWalkx0
import Derived.Test.YtiopcpkfjikfdaaDoorQFnExactWalkx2
import Derived.Test.YtiopcpkfjikfdaaDoorQFnExactWalkx4
import Derived.Test.YtiopcpkfjikfdaaDoorQFnExactWalkx5
import Derived.Test.YtiopcpkfjikfdaaDoorQFnExactWalkx6
import Derived.Test.YtiopcpkfjikfdaaDoorQFnExactWalkx7
import Derived.Test.YtiopcpkfjikfdaaDoorQFnExactWalkx8
import Derived.Test.YtiopcpkfjikfdaaDoorQFnExactWalkx9
namespace Go.Proofs.YtiopcpkfjikfdaaDoor.PFnExactWalk
open Go.RowKit Go.Proofs.YtiopcpkfjikfdaaDoorW.PrintWords Go.Proofs.YtiopcpkfjikfdaaDoorW.PrintLast Go.Proofs.YtiopcpkfjikfdaaDoorW.PrintMore
attribute [local go_sem] max2_int min2_int max_two min_two max_three min_three max_four min_four   -- for this text's walks alone
set_option linter.unusedVariables false
set_option linter.unusedSimpArgs false

section
open Go.Proofs.YtiopcpkfjikfdaaDoor.Mth Go.Proofs.YtiopcpkfjikfdaaDoor.Str
/-! ### the reference's own: is a volume right -/
def reachAtS (l : List S90) (i : Nat) : Bool := (belowBits l 1).getD i false && !((iAt l i).f1 == 2 && !(namedN l (iAt l i).f0 == 1))
def endS (l : List S90) : Bool := decide (totalN l ≤ 400) && !(overFrom l l.length 0)
def reachFromS (l : List S90) : Nat → Nat → Bool
 | 0, _ => endS l
 | k + 1, i => reachAtS l i && reachFromS l k (i + 1)
def inosFromS (nx : Int) (l : List S90) : Nat → Nat → Bool
 | 0, _ => reachFromS l (l.length - 1) 1
 | k + 1, i => inoAtB nx l i && inosFromS nx l k (i + 1)
def volOkS (nx : Int) (l : List S90) : Bool := rgB nx 2 100000 && (rgB (l.length : Int) 1 24 && ((iAt l 0).f0 == 1 && ((iAt l 0).f1 == 2 && inosFromS nx l l.length 0)))
theorem belowS_any (nx : Int) (A : Option Addr) (c : Nat) (l : List S90) (id : Int) (w : World) (hr : Kd.C k90 w A l.length l) (hc : l.length ≤ c) (hs : volSmall l) : Calls Tryd.prog 59 #[.agg #[.int .i64 nx, .slice A l.length c], .int .i64 id] w fun e w' => ∃ v0_ : Value, e = .returned (v0_) ∧ Kd.R Kd.bool 4 w' w.heap.size (fun _ => True) v0_ (belowBits l id) ∧ Below w.heap.size w w' := by
 obtain ⟨K, hK⟩ := below_ev nx l hs id
 exact spec_l4Below.calls K nx A c l id _ w hr hc (hK K (Nat.le_refl _))
theorem namedS_any (nx : Int) (A : Option Addr) (c : Nat) (l : List S90) (id : Int) (w : World) (hr : Kd.C k90 w A l.length l) (hc : l.length ≤ c) (hs : volSmall l) : Calls Tryd.prog 60 #[.agg #[.int .i64 nx, .slice A l.length c], .int .i64 id] w fun e w' => e = .returned (.int .i64 ((namedN l id : Nat) : Int)) ∧ Below w.heap.size w w' := by
 obtain ⟨K, hK⟩ := named_ev nx l hs id
 exact spec_l4Named.calls K nx A c l id _ w hr hc (hK K (Nat.le_refl _))
theorem bytesS_any (nx : Int) (A : Option Addr) (c : Nat) (l : List S90) (w : World) (hr : Kd.C k90 w A l.length l) (hc : l.length ≤ c) (hs : volSmall l) : Calls Tryd.prog 61 #[.agg #[.int .i64 nx, .slice A l.length c]] w fun e w' => e = .returned (.int .i64 ((totalN l : Nat) : Int)) ∧ Below w.heap.size w w' := by
 obtain ⟨K, hK⟩ := bytes_ev nx l hs
 exact spec_l4Bytes.calls K nx A c l _ w hr hc (hK K (Nat.le_refl _))
theorem overS_any (nx : Int) (A : Option Addr) (c : Nat) (l : List S90) (w : World) (hr : Kd.C k90 w A l.length l) (hc : l.length ≤ c) (hs : volSmall l) : Calls Tryd.prog 62 #[.agg #[.int .i64 nx, .slice A l.length c]] w fun e w' => e = .returned (.bool (overFrom l l.length 0)) ∧ Below w.heap.size w w' := by
 obtain ⟨K, hK⟩ := over_ev nx l hs
 exact spec_l4Over.calls K nx A c l _ w hr hc (hK K (Nat.le_refl _))
set_option maxHeartbeats 8000000 in
set_option maxRecDepth 100000 in
theorem volOkS_any (w : World) (nx : Int) (A : Option Addr) (c : Nat) (l : List S90) (hr : Kd.C k90 w A l.length l) (hc : l.length ≤ c) (hs : volSmall l) :
  Calls Tryd.prog 39 #[.agg #[.int .i64 nx, .slice A l.length c]] w fun e w' => e = .returned (.bool (volOkS nx l)) ∧ Below w.heap.size w w' := by
 have hu29 := Tryd.underlying45
 have hu45 := Tryd.underlying90
 have hm : l.length ≤ 9223372036854775807 := hr.2.1
 have HV0 := zM (show VolAt (w.alloc (.cells #[.int .i64 nx, .slice A l.length c] 45)) w.heap.size nx A c l from ⟨heap_alloc_new w _, Kd.C_below hr (zA (Below.refl _ _) _), hc, hs⟩)
 cases r1 : rgB nx 2 100000 with
 | false =>
  have HF := zM (show volOkS nx l = false from by unfold volOkS; simp [r1])
  clear HV0 hr hc hs
  go_enter Tryd.func39, Tryd.ntmps39
  go_wp2_with (go_at_call 35; refine (l1In_any _ _ _ _).mono ?_; rintro e w1 ⟨rfl, ⟨n, rfl⟩⟩)
  go_ret
  exact ⟨by rw [HF.out]; rfl, (by repeat (first | exact Below.refl _ _ | apply zA | apply zN | apply zD))⟩
 | true =>
 cases r2 : rgB (l.length : Int) 1 24 with
 | false =>
  have HF := zM (show volOkS nx l = false from by unfold volOkS; simp [r1, r2])
  clear HV0 hr hc hs
  go_enter Tryd.func39, Tryd.ntmps39
  go_wp2_with (go_at_call 35; refine (l1In_any _ _ _ _).mono ?_; rintro e w1 ⟨rfl, ⟨n, rfl⟩⟩)
  go_ret
  exact ⟨by rw [HF.out]; rfl, (by repeat (first | exact Below.refl _ _ | apply zA | apply zN | apply zD))⟩
 | true =>
 have hl1 : 1 ≤ l.length ∧ l.length ≤ 24 := by have h1 := zO r2; omega
 have hnx : 2 ≤ nx ∧ nx ≤ 100000 := zO r1
 obtain ⟨ad, A6, c6, eA, hx0, hx1, -, -, -, -, -, -, -, -, -⟩ := at_T90 hr 0 (by omega) (by omega)
 subst eA
 have hz : ad.add 0 = ad := by cases ad; simp [Addr.add]
 have hz2 : rd_T90 l 0 = iAt l 0 := rfl
 rw [show (0 : Int).toNat * 9 = 0 from rfl, hz, hz2] at hx0 hx1
 replace hx0 := pw_cell_below (zA (Below.refl w.heap.size w) (.cells #[.int .i64 nx, .slice (some ad) l.length c] 45)) hx0
 replace hx1 := pw_cell_below (zA (Below.refl w.heap.size w) (.cells #[.int .i64 nx, .slice (some ad) l.length c] 45)) hx1
 have hp0 : (0 < l.length) = True := eq_true (by omega)
 have hp1 : ((0 : Int) < (l.length : Int)) = True := eq_true (by omega)
 clear hz hz2
 cases r3 : ((iAt l 0).f0 == 1) with
 | false =>
  have r3n : ((iAt l 0).f0 != 1) = true := by rw [bne, r3]; rfl
  have HF := zM (show volOkS nx l = false from by unfold volOkS; simp [r1, r2, r3])
  clear HV0 hr hc hs hl1 hnx
  go_enter Tryd.func39, Tryd.ntmps39
  go_wp2_with (go_at_call 35; refine (l1In_any _ _ _ _).mono ?_; rintro e w1 ⟨rfl, ⟨n, rfl⟩⟩)
  go_ret
  exact ⟨by rw [HF.out]; rfl, (by repeat (first | exact Below.refl _ _ | apply zA | apply zN | apply zD))⟩
 | true =>
 have r3n : ((iAt l 0).f0 != 1) = false := by rw [bne, r3]; rfl
 cases r4 : ((iAt l 0).f1 == 2) with
 | false =>
  have r4n : ((iAt l 0).f1 != 2) = true := by rw [bne, r4]; rfl
  have HF := zM (show volOkS nx l = false from by unfold volOkS; simp [r1, r2, r3, r4])
  clear HV0 hr hc hs hl1 hnx
  go_enter Tryd.func39, Tryd.ntmps39
  go_wp2_with (go_at_call 35; refine (l1In_any _ _ _ _).mono ?_; rintro e w1 ⟨rfl, ⟨n, rfl⟩⟩)
  go_ret
  exact ⟨by rw [HF.out]; rfl, (by repeat (first | exact Below.refl _ _ | apply zA | apply zN | apply zD))⟩
 | true =>
 have r4n : ((iAt l 0).f1 != 2) = false := by rw [bne, r4]; rfl
 have HF := zM (show volOkS nx l = inosFromS nx l l.length 0 from by unfold volOkS; simp [r1, r2, r3, r4])
 have HL1 := zM hl1
 have HNX := zM hnx
 clear hr hc hs hl1 hnx
 go_enter Tryd.func39, Tryd.ntmps39
 go_wp2_with (go_at_call 35; refine (l1In_any _ _ _ _).mono ?_; rintro e w1 ⟨rfl, ⟨n, rfl⟩⟩)
 have HBw := zM (zA (Below.refl w.heap.size w) (.cells #[.int .i64 nx, .slice (some ad) l.length c] 45))
 generalize w.alloc (.cells #[.int .i64 nx, .slice (some ad) l.length c] 45) = w1 at HV0 HBw hx0 hx1 ⊢
 generalize w.heap.size = gb at HV0 ⊢
 have HSm := zM HV0.out.small
 clear r2 hx0 hx1 hp0 hp1 r3 r3n r4 r4n
 have HF2 := zM HF.out.symm
 clear HF
 go_loopg [3] l.length (fun kq v38 w' => ∃ (x : Nat), v38 = .int .i64 (x : Int) ∧ Aside0 (x + kq = l.length ∧ inosFromS nx l kq x = volOkS nx l) ∧ Aside0 (Below w1.heap.size w1 w'))
 case atStart => exact ⟨0, rfl, ⟨by omega, HF2.out⟩, ⟨by repeat (first | exact Below.refl _ _ | apply zN)⟩⟩
 case round =>
  obtain ⟨x, rfl, HX, HB⟩ := hrel
  have hcv := (HV0.out.below HB.out).c1
  have hl : gk ≤ l.length ∧ x ≤ l.length := by have := HX.out.1; omega
  by_cases hlt : x < l.length
  ·cases gk with
   | zero => have := HX.out.1; omega
   | succ k1 =>
   obtain ⟨ad2, A6, c6, eA, hx0, hx1, hx2, hx3, hx4, hx5, hx6, hx7, hx8, hl6, hi6⟩ := ino_at HV0.out HB.out x hlt
   obtain rfl : ad = ad2 := by injection eA
   obtain ⟨xi, hxi⟩ : ∃ q, q = l[x] := ⟨_, rfl⟩
   have hxm : xi ∈ l := hxi ▸ List.getElem_mem hlt
   have HSx := zM (show dSmall xi.f6 ∧ xi.f5.size ≤ 1048576 from ⟨⟨HSm.out.2.1 _ hxm, HSm.out.2.2.2 _ hxm⟩, HSm.out.2.2.1 _ hxm⟩)
   rw [← hxi] at hx0 hx1 hx2 hx3 hx4 hx5 hx6 hx7 hx8 hl6 hi6
   have HNF := zM (show inosFromS nx l (k1 + 1) x = (rgB xi.f0 1 (nx - 1) && ((x == 0 || decide ((iAt l (x - 1)).f0 < xi.f0)) && inodeOkB l xi) && inosFromS nx l k1 (x + 1)) from by
    rw [inosFromS, inoAtB, iAt_eq l x hlt, ← hxi])
   obtain ⟨pf, hpf⟩ : ∃ q, q = (iAt l (x - 1)).f0 := ⟨_, rfl⟩
   rw [← hpf] at HNF
   have HJ := zM (show 0 < x → ∃ j : Int, wrap64 ((x : Int) - 1) = j ∧ 0 ≤ j ∧ j < (l.length : Int) ∧ ∀ W, Below w1.heap.size w1 W → W.cell? (ad.add (j.toNat * 9)) = some (.int .i64 pf) from fun hx => ⟨((x - 1 : Nat) : Int), by unfold wrap64; omega, by omega, by omega, fun W hW => by
    obtain ⟨ad3, -, -, e1, h1, -⟩ := ino_at HV0.out hW (x - 1) (by omega)
    obtain rfl : ad = ad3 := by injection e1
    rw [← iAt_eq l (x - 1) (by omega), ← hpf] at h1
    rw [Int.toNat_natCast]; exact h1⟩)
   have HI0 := zM (fun (W : World) (hW : Below w1.heap.size w1 W) => by have h1 := inodeS_any W nx (some ad) c l (HV0.out.below hW).row HV0.out.cap HV0.out.small xi.f0 xi.f1 xi.f2 xi.f3 xi.f4 xi.f7 xi.f8 xi.f5 A6 c6 xi.f6 (Kd.C_below hi6 hW) HSx.out.1 HSx.out.2; rw [inodeOkS_eq] at h1; exact h1)
   obtain ⟨nq, hnq⟩ : ∃ q, q = nx - 1 := ⟨_, rfl⟩
   have hnw : IntKind.i64.wrap (nx - 1) = nq := by rw [hnq, i64_w]; unfold wrap64; have := HNX.out; omega
   rw [← hnq] at HNF
   have HIB : inodeOkB l xi = inodeOkV l xi.f1 xi.f2 xi.f3 xi.f4 xi.f7 xi.f8 xi.f5 xi.f6 := rfl
   rw [HIB] at HNF
   have hmN : xi.f6.length ≤ 9223372036854775807 := hi6.2.1
   clear HIB hnq hpf hxi hxm hi6 hl6 hl eA
   obtain ⟨f0, f1, f2, f3, f4, f5, f6, f7, f8⟩ := xi
   dsimp only at hx0 hx1 hx2 hx3 hx4 hx5 hx6 hx7 hx8 HNF HI0 hmN
   have HW := fun W => l1In_any f0 1 nq W
   go_wp2
   generalize hq : wr.alloc (.cells #[.int .i64 f0, .int .i64 f1, .int .i64 f2, .int .i64 f3, .int .i64 f4, .string f5, .slice A6 f6.length c6, .int .i64 f7, .int .i64 f8] 90) = wi
   have HBi := zM (show Below w1.heap.size w1 wi from by rw [← hq]; exact zA HB.out _)
   have HBX := zM (show wi.heap[wr.heap.size]? = some (.cells #[.int .i64 f0, .int .i64 f1, .int .i64 f2, .int .i64 f3, .int .i64 f4, .string f5, .slice A6 f6.length c6, .int .i64 f7, .int .i64 f8] 90 (0, 0)) from by rw [← hq]; exact heap_alloc_new wr _)
   generalize wr.heap.size = gd at HBX ⊢
   have hd0 : ∀ y : Grow wi, y.W.cell? ⟨gd, 0, none⟩ = some (.int .i64 f0) := fun y => y.cell ((zC HBX.out 0).trans rfl)
   have hd1 : ∀ y : Grow wi, y.W.cell? ⟨gd, 1, none⟩ = some (.int .i64 f1) := fun y => y.cell ((zC HBX.out 1).trans rfl)
   have hd2 : ∀ y : Grow wi, y.W.cell? ⟨gd, 2, none⟩ = some (.int .i64 f2) := fun y => y.cell ((zC HBX.out 2).trans rfl)
   have hd3 : ∀ y : Grow wi, y.W.cell? ⟨gd, 3, none⟩ = some (.int .i64 f3) := fun y => y.cell ((zC HBX.out 3).trans rfl)
   have hd4 : ∀ y : Grow wi, y.W.cell? ⟨gd, 4, none⟩ = some (.int .i64 f4) := fun y => y.cell ((zC HBX.out 4).trans rfl)
   have hd5 : ∀ y : Grow wi, y.W.cell? ⟨gd, 5, none⟩ = some (.string f5) := fun y => y.cell ((zC HBX.out 5).trans rfl)
   have hd6 : ∀ y : Grow wi, y.W.cell? ⟨gd, 6, none⟩ = some (.slice A6 f6.length c6) := fun y => y.cell ((zC HBX.out 6).trans rfl)
   have hd7 : ∀ y : Grow wi, y.W.cell? ⟨gd, 7, none⟩ = some (.int .i64 f7) := fun y => y.cell ((zC HBX.out 7).trans rfl)
   have hd8 : ∀ y : Grow wi, y.W.cell? ⟨gd, 8, none⟩ = some (.int .i64 f8) := fun y => y.cell ((zC HBX.out 8).trans rfl)
   have hv0 : ∀ y : Grow wi, y.W.cell? ⟨gb, 0, none⟩ = some (.int .i64 nx) := fun y => y.cell (HV0.out.below HBi.out).c0
   have hv1 : ∀ y : Grow wi, y.W.cell? ⟨gb, 1, none⟩ = some (.slice (some ad) l.length c) := fun y => y.cell (HV0.out.below HBi.out).c1
   have HI1 := zM (fun (y : Grow wi) => HI0.out y.W (zH HBi.out HBi.out.size y.hb))
   clear hx0 hx1 hx2 hx3 hx4 hx5 hx6 hx7 hx8 HB hq HI0 HBX hcv
   cases b1 : rgB f0 1 nq with
   | false =>
    rw [b1] at HW
    have HG := zM (show inosFromS nx l (k1 + 1) x = false from by rw [HNF.out, b1]; rfl)
    have HI := HI1
    clear HI1 b1
    refine wp_region_grow (by kernel_rfl) (by kernel_rfl) ?_
    repeat (go_big_quiet_step (first | (go_at_call 35; exact grow_draw (HW _)) | (go_at_call 58; exact grow_call (HI.out _))))
    refine wpQuiet_nil ?_
    rintro _ ⟨yw, rfl⟩
    have HBy := zM (zH HBi.out HBi.out.size yw.hb)
    generalize yw.W = wy at HBy ⊢

    go_wp2
    go_ret
    exact ⟨by rw [← HX.out.2, HG.out]; rfl, zH HBw.out HBw.out.size HBy.out⟩
   | true =>
    rw [b1] at HW
    by_cases b4 : 0 < x
    ·obtain ⟨j, hj, hj0, hj1, hjc⟩ := HJ.out b4
     have hjw : IntKind.i64.wrap ((x : Int) - 1) = j := (i64_w _).trans hj
     have b4d : decide (0 < x) = true := zE b4
     have b4i : decide (0 < (x : Int)) = true := zE (by omega)
     have hp0 : ∀ y : Grow wi, y.W.cell? (ad.add (j.toNat * 9)) = some (.int .i64 pf) := fun y => hjc y.W (zH HBi.out HBi.out.size y.hb)
     replace hj0 := eq_true hj0
     replace hj1 := eq_true hj1
     have hx0 : (x == 0) = false := by rw [beq_eq_false_iff_ne]; omega
     by_cases b5 : pf < f0
     ·have b5d : decide (f0 ≤ pf) = false := zG (by omega)
      have b5e : decide (pf < f0) = true := zE b5
      cases b6 : inodeOkV l f1 f2 f3 f4 f7 f8 f5 f6 with
      | false =>
       have HG := zM (show inosFromS nx l (k1 + 1) x = false from by rw [HNF.out, b1, hx0, b5e, b6]; rfl)
       rw [b6] at HI1
       have HI := HI1
       clear HI1 b1 b5 b5e b6 hx0 b4 hj hjc
       refine wp_region_grow (by kernel_rfl) (by kernel_rfl) ?_
       repeat (go_big_quiet_step (first | (go_at_call 35; exact grow_draw (HW _)) | (go_at_call 58; exact grow_call (HI.out _))))
       refine wpQuiet_nil ?_
       rintro _ ⟨yw, rfl⟩
       have HBy := zM (zH HBi.out HBi.out.size yw.hb)
       generalize yw.W = wy at HBy ⊢

       go_wp2
       go_ret
       exact ⟨by rw [← HX.out.2, HG.out]; rfl, zH HBw.out HBw.out.size HBy.out⟩
      | true =>
       have HG := zM (show inosFromS nx l (k1 + 1) x = inosFromS nx l k1 (x + 1) from by rw [HNF.out, b1, hx0, b5e, b6]; rfl)
       rw [b6] at HI1
       have HI := HI1
       clear HI1 b1 b5 b5e b6 hx0 b4 hj hjc
       refine wp_region_grow (by kernel_rfl) (by kernel_rfl) ?_
       repeat (go_big_quiet_step (first | (go_at_call 35; exact grow_draw (HW _)) | (go_at_call 58; exact grow_call (HI.out _))))
       refine wpQuiet_nil ?_
       rintro _ ⟨yw, rfl⟩
       have HBy := zM (zH HBi.out HBi.out.size yw.hb)
       generalize yw.W = wy at HBy ⊢

       go_wp2
       go_roundg k1
       case measure => omega
       case rel => exact ⟨x + 1, by go_num, ⟨by have := HX.out.1; omega, by rw [← HX.out.2, HG.out]⟩, HBy⟩
     ·have b5d : decide (f0 ≤ pf) = true := zE (by omega)
      have b5e : decide (pf < f0) = false := zG b5
      have HG := zM (show inosFromS nx l (k1 + 1) x = false from by rw [HNF.out, b1, hx0, b5e]; rfl)
      have HI := HI1
      clear HI1 b1 b5 b5e hx0 b4 hj hjc
      refine wp_region_grow (by kernel_rfl) (by kernel_rfl) ?_
      repeat (go_big_quiet_step (first | (go_at_call 35; exact grow_draw (HW _)) | (go_at_call 58; exact grow_call (HI.out _))))
      refine wpQuiet_nil ?_
      rintro _ ⟨yw, rfl⟩
      have HBy := zM (zH HBi.out HBi.out.size yw.hb)
      generalize yw.W = wy at HBy ⊢

      go_wp2
      go_ret
      exact ⟨by rw [← HX.out.2, HG.out]; rfl, zH HBw.out HBw.out.size HBy.out⟩
    ·have hx0 : x = 0 := by omega
     subst hx0
     cases b6 : inodeOkV l f1 f2 f3 f4 f7 f8 f5 f6 with
     | false =>
      have HG := zM (show inosFromS nx l (k1 + 1) 0 = false from by rw [HNF.out, b1, b6]; rfl)
      rw [b6] at HI1
      have HI := HI1
      clear HI1 b1 b6
      refine wp_region_grow (by kernel_rfl) (by kernel_rfl) ?_
      repeat (go_big_quiet_step (first | (go_at_call 35; exact grow_draw (HW _)) | (go_at_call 58; exact grow_call (HI.out _))))
      refine wpQuiet_nil ?_
      rintro _ ⟨yw, rfl⟩
      have HBy := zM (zH HBi.out HBi.out.size yw.hb)
      generalize yw.W = wy at HBy ⊢

      go_wp2
      go_ret
      exact ⟨by rw [← HX.out.2, HG.out]; rfl, zH HBw.out HBw.out.size HBy.out⟩
     | true =>
      have HG := zM (show inosFromS nx l (k1 + 1) 0 = inosFromS nx l k1 (0 + 1) from by rw [HNF.out, b1, b6]; rfl)
      rw [b6] at HI1
      have HI := HI1
      clear HI1 b1 b6
      refine wp_region_grow (by kernel_rfl) (by kernel_rfl) ?_
      repeat (go_big_quiet_step (first | (go_at_call 35; exact grow_draw (HW _)) | (go_at_call 58; exact grow_call (HI.out _))))
      refine wpQuiet_nil ?_
      rintro _ ⟨yw, rfl⟩
      have HBy := zM (zH HBi.out HBi.out.size yw.hb)
      generalize yw.W = wy at HBy ⊢

      go_wp2
      go_roundg k1
      case measure => omega
      case rel => exact ⟨0 + 1, by go_num, ⟨by have := HX.out.1; omega, by rw [← HX.out.2, HG.out]⟩, HBy⟩
  ·have HF3 := zM (show reachFromS l (l.length - 1) 1 = volOkS nx l from by
    have h1 := HX.out
    have e : gk = 0 := by omega
    rw [e] at h1; exact h1.2)
   clear hl
   have HBl := zM (belowS_any nx (some ad) c l 1 wr (HV0.out.below HB.out).row HV0.out.cap HV0.out.small)
   have hcv0 := (HV0.out.below HB.out).c0
   go_wp2_with (go_at_call 59; refine HBl.out.mono ?_; rintro e w2 ⟨v, rfl, ho, hb⟩; obtain ⟨A5, c5, rfl, hl5, hr5⟩ := Kd.R_reads ho; have HR5 := zM hr5; have HBa := zM (zH HB.out HB.out.size hb); clear ho hb hr5)
   have HLb := belowBits_len l 1
   obtain ⟨bs, hbs⟩ : ∃ q, q = belowBits l 1 := ⟨_, rfl⟩
   rw [← hbs] at HR5 HLb ⊢
   rw [← hbs] at hl5
   have HBs := zM hbs
   have HLs := zM HLb
   clear hbs HLb HB hcv hcv0
   go_loopg [6] (l.length - 1) (fun kq v6 w' => ∃ (x : Nat), v6 = .int .i64 (x : Int) ∧ Aside0 (x + kq = l.length ∧ reachFromS l kq x = volOkS nx l) ∧ Aside0 (Below w1.heap.size w1 w') ∧ Aside0 (Below w2.heap.size w2 w'))
   case atStart => exact ⟨1, rfl, ⟨by have := HL1.out; omega, HF3.out⟩, HBa, ⟨Below.refl _ _⟩⟩
   case round =>
    clear HX
    obtain ⟨x, rfl, HX, HB, HB2⟩ := hrel
    have hcv := (HV0.out.below HB.out).c1
    have hcv0 := (HV0.out.below HB.out).c0
    have hl : gk ≤ l.length ∧ x ≤ l.length := by have := HX.out.1; omega
    by_cases hlt : x < l.length
    ·cases gk with
     | zero => have := HX.out.1; omega
     | succ k1 =>
     obtain ⟨ad5, eA, hb5⟩ := Kd.at_bool (Kd.C_below HR5.out HB2.out) (x : Int) (by omega) (by have := HLs.out; omega)
     subst eA
     rw [Int.toNat_natCast, rdB] at hb5
     obtain ⟨ad1, A6, c6, eA, hx0, hx1, -, -, -, -, -, -, -, -, -⟩ := ino_at HV0.out HB.out x hlt
     obtain rfl : ad = ad1 := by injection eA
     rw [← iAt_eq l x hlt] at hx0 hx1
     have HNF := zM (show reachFromS l (k1 + 1) x = (bs.getD x false && !((iAt l x).f1 == 2 && !(namedN l (iAt l x).f0 == 1)) && reachFromS l k1 (x + 1)) from by
      rw [reachFromS, reachAtS, HBs.out])
     generalize (iAt l x).f0 = f0 at hx0 HNF
     generalize (iAt l x).f1 = f1 at hx1 HNF
     generalize bs.getD x false = b0 at hb5 HNF
     have HNm0 := fun (y : Grow wr) => namedS_any nx (some ad) c l f0 y.W (HV0.out.below (zH HB.out HB.out.size y.hb)).row HV0.out.cap HV0.out.small
     have hd5 : ∀ y : Grow wr, y.W.cell? (ad5.add x) = some (.bool b0) := fun y => y.cell hb5
     have hd0 : ∀ y : Grow wr, y.W.cell? (ad.add (x * 9)) = some (.int .i64 f0) := fun y => y.cell hx0
     have hd1 : ∀ y : Grow wr, y.W.cell? ⟨(ad.add (x * 9)).block, (ad.add (x * 9)).off + 1, none⟩ = some (.int .i64 f1) := fun y => y.cell hx1
     have hv0 : ∀ y : Grow wr, y.W.cell? ⟨gb, 0, none⟩ = some (.int .i64 nx) := fun y => y.cell hcv0
     have hv1 : ∀ y : Grow wr, y.W.cell? ⟨gb, 1, none⟩ = some (.slice (some ad) l.length c) := fun y => y.cell hcv
     have p0 : (0 ≤ (x : Int)) = True := eq_true (by omega)
     have p1 : ((x : Int) < (l.length : Int)) = True := eq_true (by omega)
     have p2 : (x < l.length) = True := eq_true hlt
     have p3 : ((x : Int) < (bs.length : Int)) = True := eq_true (by have := HLs.out; omega)
     have p4 : (x < bs.length) = True := eq_true (by have := HLs.out; omega)
     clear hb5 hx0 hx1 hl eA
     cases b0 with
     | false =>
      have HG := zM (show reachFromS l (k1 + 1) x = false from by rw [HNF.out]; rfl)
      have HNm := zM HNm0
      clear HNm0
      go_wp2
      refine wp_region_grow (by kernel_rfl) (by kernel_rfl) ?_
      repeat (go_big_quiet_step (first | (go_at_call 60; exact grow_call (HNm.out _))))
      refine wpQuiet_nil ?_
      rintro _ ⟨yw, rfl⟩
      have HBy := zM (zH HB.out HB.out.size yw.hb)
      have HBz := zM (zH HB2.out HB2.out.size yw.hb)
      generalize yw.W = wy at HBy HBz ⊢

      go_wp2
      go_ret
      exact ⟨by rw [← HX.out.2, HG.out]; rfl, zH HBw.out HBw.out.size HBy.out⟩
     | true =>
      cases q2 : (f1 == 2) with
      | false =>
       have HG := zM (show reachFromS l (k1 + 1) x = reachFromS l k1 (x + 1) from by rw [HNF.out, q2]; rfl)
       have HNm := zM HNm0
       clear HNm0
       go_wp2
       refine wp_region_grow (by kernel_rfl) (by kernel_rfl) ?_
       repeat (go_big_quiet_step (first | (go_at_call 60; exact grow_call (HNm.out _))))
       refine wpQuiet_nil ?_
       rintro _ ⟨yw, rfl⟩
       have HBy := zM (zH HB.out HB.out.size yw.hb)
       have HBz := zM (zH HB2.out HB2.out.size yw.hb)
       generalize yw.W = wy at HBy HBz ⊢

       go_wp2
       go_roundg k1
       case measure => omega
       case rel => exact ⟨x + 1, by go_num, ⟨by have := HX.out.1; omega, by rw [← HX.out.2, HG.out]⟩, HBy, HBz⟩
      | true =>
       have hNe : (namedN l f0 == 1) = (((namedN l f0 : Nat) : Int) == 1) := by
        apply Bool.eq_iff_iff.2; simp only [beq_iff_eq]; omega
       rw [hNe] at HNF
       clear hNe
       generalize ((namedN l f0 : Nat) : Int) = nn at HNF HNm0
       have HNm := zM HNm0
       clear HNm0
       cases q3 : (nn == 1) with
       | false =>
        have q3n : (nn != 1) = true := by rw [bne, q3]; rfl
        have HG := zM (show reachFromS l (k1 + 1) x = false from by rw [HNF.out, q2, q3]; rfl)
        go_wp2
        refine wp_region_grow (by kernel_rfl) (by kernel_rfl) ?_
        repeat (go_big_quiet_step (first | (go_at_call 60; exact grow_call (HNm.out _))))
        refine wpQuiet_nil ?_
        rintro _ ⟨yw, rfl⟩
        have HBy := zM (zH HB.out HB.out.size yw.hb)
        have HBz := zM (zH HB2.out HB2.out.size yw.hb)
        generalize yw.W = wy at HBy HBz ⊢

        go_wp2
        go_ret
        exact ⟨by rw [← HX.out.2, HG.out]; rfl, zH HBw.out HBw.out.size HBy.out⟩
       | true =>
        have q3n : (nn != 1) = false := by rw [bne, q3]; rfl
        have HG := zM (show reachFromS l (k1 + 1) x = reachFromS l k1 (x + 1) from by rw [HNF.out, q2, q3]; rfl)
        go_wp2
        refine wp_region_grow (by kernel_rfl) (by kernel_rfl) ?_
        repeat (go_big_quiet_step (first | (go_at_call 60; exact grow_call (HNm.out _))))
        refine wpQuiet_nil ?_
        rintro _ ⟨yw, rfl⟩
        have HBy := zM (zH HB.out HB.out.size yw.hb)
        have HBz := zM (zH HB2.out HB2.out.size yw.hb)
        generalize yw.W = wy at HBy HBz ⊢

        go_wp2
        go_roundg k1
        case measure => omega
        case rel => exact ⟨x + 1, by go_num, ⟨by have := HX.out.1; omega, by rw [← HX.out.2, HG.out]⟩, HBy, HBz⟩
    ·have HE := zM (show endS l = volOkS nx l from by
      have h1 := HX.out
      have e : gk = 0 := by omega
      rw [e] at h1; exact h1.2)
     have HT0 := bytesS_any nx (some ad) c l wr (HV0.out.below HB.out).row HV0.out.cap HV0.out.small
     have HO0 := fun W (hW : Below w1.heap.size w1 W) => overS_any nx (some ad) c l W (HV0.out.below hW).row HV0.out.cap HV0.out.small
     have hTe : decide (totalN l ≤ 400) = decide (((totalN l : Nat) : Int) ≤ 400) := decide_eq_decide.2 (by omega)
     have HE2 := zM (show volOkS nx l = (decide (((totalN l : Nat) : Int) ≤ 400) && !(overFrom l l.length 0)) from by rw [← HE.out, endS, hTe])
     clear hTe hl
     generalize ((totalN l : Nat) : Int) = tt at HT0 HE2
     have HTt := zM HT0
     cases q4 : decide (tt ≤ 400) with
     | false =>
      have HG := zM (show volOkS nx l = false from by rw [HE2.out, q4]; rfl)
      clear HT0 HO0
      go_wp2_with (go_at_call 61; refine HTt.out.mono ?_; rintro e w3 ⟨rfl, hb⟩; have HBn := zM (zH HB.out HB.out.size hb); clear hb)
      go_ret
      exact ⟨by rw [HG.out]; rfl, zH HBw.out HBw.out.size HBn.out⟩
     | true =>
      have HG := zM (show volOkS nx l = !(overFrom l l.length 0) from by rw [HE2.out, q4, Bool.true_and])
      generalize overFrom l l.length 0 = ov at HO0 HG
      have HOv := zM HO0
      clear HT0 HO0
      go_wp2_with (first | (go_at_call 61; refine HTt.out.mono ?_; rintro e w3 ⟨rfl, hb⟩; have HBn := zM (zH HB.out HB.out.size hb); have hc9 := (HV0.out.below HBn.out).c1; have hc8 := (HV0.out.below HBn.out).c0; clear hb) | (go_at_call 62; refine (HOv.out _ HBn.out).mono ?_; rintro e w4 ⟨rfl, hb⟩; have HBo := zM (zH HBn.out HBn.out.size hb); clear hb))
      go_ret
      exact ⟨by rw [HG.out]; rfl, zH HBw.out HBw.out.size HBo.out⟩
end

def volSmallB (l : List S90) : Bool := decide (l.length ≤ 1048576) && l.all fun x => decide (x.f6.length ≤ 1048576) && (decide (x.f5.size ≤ 1048576) && x.f6.all fun d => decide (d.f0.size ≤ 1048576))
theorem volSmallB_iff (l : List S90) : volSmallB l = true ↔ volSmall l := by
 unfold volSmallB volSmall
 simp only [Bool.and_eq_true, decide_eq_true_eq, List.all_eq_true]
 constructor
 ·rintro ⟨h0, h⟩
  exact ⟨h0, fun x hx => (h x hx).1, fun x hx => (h x hx).2.1, fun x hx => (h x hx).2.2⟩
 ·rintro ⟨h0, h1, h2, h3⟩
  exact ⟨h0, fun x hx => ⟨h1 x hx, h2 x hx, h3 x hx⟩⟩
/-! ### spec_VolOk: function 39 (by hand) -/
def spec_VolOk.f (a0_0 : Int) (l0_1 : List (S90)) : Option (Bool) := if volSmallB l0_1 = true then some (volOkS a0_0 l0_1) else none
theorem spec_VolOk.calls (a0_0 : Int) (A0_1 : Option Addr) (c0_1 : Nat) (l0_1 : List (S90)) (r : Bool) (w : World) (hr0_1 : Kd.C k90 w A0_1 l0_1.length l0_1) (hc0_1 : l0_1.length ≤ c0_1) (h : spec_VolOk.f a0_0 l0_1 = some r) :
  Calls Tryd.prog 39 #[.agg #[.int .i64 a0_0, .slice A0_1 l0_1.length c0_1]] w fun e w' => e = .returned (.bool r) ∧ Below w.heap.size w w' := by
 unfold spec_VolOk.f at h
 by_cases hs : volSmallB l0_1 = true
 ·rw [if_pos hs] at h
  obtain rfl := zI h
  exact volOkS_any w a0_0 A0_1 c0_1 l0_1 hr0_1 hc0_1 ((volSmallB_iff l0_1).1 hs)
 ·rw [if_neg hs] at h
  exact absurd h (by simp)

/-! ### spec_CredOk: function 40 -/
mutual
def spec_CredOk.j0 : Nat → Bool → Int → Int → List Int → Option (Bool)
 | 0, _, _, _, _ => none
 | k + 1, x19, x158000, x158001, x158002 => if x19 = true then (some false) else (spec_CredOk.l0 k 0 x158000 x158001 x158002)
def spec_CredOk.l0 : Nat → Int → Int → Int → List Int → Option (Bool)
 | 0, _, _, _, _ => none
 | k + 1, x3, x158000, x158001, x158002 => if x3 < (x158002.length : Int) then (if 0 ≤ x3 then ((spec_l1In.f (rd x158002 x3) 0 1000).bind fun t161 => (if t161 = true then (spec_CredOk.l0 k (wrap64 (x3 + 1)) x158000 x158001 x158002) else (some false))) else (none)) else (some true)
end
def spec_CredOk.f (k : Nat) (a0_0 : Int) (a0_1 : Int) (l0_2 : List Int) : Option (Bool) := (spec_l1In.f a0_0 0 1000).bind fun t158 => (if t158 = true then ((spec_l1In.f a0_1 0 1000).bind fun t159 => (if t159 = true then (spec_CredOk.j0 k (decide ((l0_2.length : Int) > 4)) a0_0 a0_1 l0_2) else (spec_CredOk.j0 k true a0_0 a0_1 l0_2))) else (spec_CredOk.j0 k true a0_0 a0_1 l0_2))
theorem spec_CredOk.mono_l : ∀ k, (∀ y0 y1 y2 y3, LeO (spec_CredOk.j0 k y0 y1 y2 y3) (spec_CredOk.j0 (k + 1) y0 y1 y2 y3)) ∧ (∀ y0 y1 y2 y3, LeO (spec_CredOk.l0 k y0 y1 y2 y3) (spec_CredOk.l0 (k + 1) y0 y1 y2 y3))
 | 0 => ⟨fun _ _ _ _ r h => by simp [spec_CredOk.j0] at h, fun _ _ _ _ r h => by simp [spec_CredOk.l0] at h⟩
 | k + 1 => by
  obtain ⟨ih0, ih1⟩ := spec_CredOk.mono_l k
  refine ⟨?_, ?_⟩
  ·intro y0 y1 y2 y3
   unfold spec_CredOk.j0
   repeat' first | (with_reducible exact ih0 _ _ _ _) | (with_reducible exact ih1 _ _ _ _) | (with_reducible exact LeO.refl _) | (with_reducible exact LeO.none _) | (with_reducible refine LeO.ite ?_ ?_) | (with_reducible refine LeO.bind ?_ (fun _ => ?_)) | exact LeO.none _ | refine LeO.ite ?_ ?_ | refine LeO.bind ?_ (fun _ => ?_)
  ·intro y0 y1 y2 y3
   unfold spec_CredOk.l0
   repeat' first | (with_reducible exact ih0 _ _ _ _) | (with_reducible exact ih1 _ _ _ _) | (with_reducible exact LeO.refl _) | (with_reducible exact LeO.none _) | (with_reducible refine LeO.ite ?_ ?_) | (with_reducible refine LeO.bind ?_ (fun _ => ?_)) | exact LeO.none _ | refine LeO.ite ?_ ?_ | refine LeO.bind ?_ (fun _ => ?_)
theorem spec_CredOk.mono : ∀ a0 a1 a2 k, LeO (spec_CredOk.f k a0 a1 a2) (spec_CredOk.f (k + 1) a0 a1 a2) := by
 intro a0 a1 a2 k
 obtain ⟨ih0, ih1⟩ := spec_CredOk.mono_l k
 unfold spec_CredOk.f
 repeat' first | (with_reducible exact ih0 _ _ _ _) | (with_reducible exact ih1 _ _ _ _) | (with_reducible exact LeO.refl _) | (with_reducible exact LeO.none _) | (with_reducible refine LeO.ite ?_ ?_) | (with_reducible refine LeO.bind ?_ (fun _ => ?_)) | exact LeO.none _ | refine LeO.ite ?_ ?_ | refine LeO.bind ?_ (fun _ => ?_)
set_option maxHeartbeats 8000000 in
set_option maxRecDepth 100000 in
theorem spec_CredOk.calls (k : Nat) (a0_0 : Int) (a0_1 : Int) (A0_2 : Option Addr) (c0_2 : Nat) (l0_2 : List Int) (r : Bool) (w : World) (hr0_2 : Kd.C (Kd.int .i64) w A0_2 l0_2.length l0_2) (hc0_2 : l0_2.length ≤ c0_2) (h : spec_CredOk.f k a0_0 a0_1 l0_2 = some r) :
  Calls Tryd.prog 40 #[.agg #[.int .i64 a0_0, .int .i64 a0_1, .slice A0_2 l0_2.length c0_2]] w fun e w' => e = .returned (.bool r) ∧ Below w.heap.size w w' := by
 have hu47 := Tryd.underlying47
 have HR0_2 := zM hr0_2
 have HC0_2 := zM hc0_2
 clear hr0_2 hc0_2
 have HB := zM (Below.refl w.heap.size w)
 have H : ((spec_l1In.f a0_0 0 1000).bind fun t158 => (if t158 = true then ((spec_l1In.f a0_1 0 1000).bind fun t159 => (if t159 = true then (spec_CredOk.j0 k (decide ((l0_2.length : Int) > 4)) a0_0 a0_1 l0_2) else (spec_CredOk.j0 k true a0_0 a0_1 l0_2))) else (spec_CredOk.j0 k true a0_0 a0_1 l0_2))) = some r := h
 clear h
 have HC2 := zM H
 clear H
 go_enter Tryd.func40, Tryd.ntmps40
 go_upto_region 1 with (first | ((with_reducible refine gate_dst (N := 1) rfl ?_); (try (refine gate_guard (by rfl) ?_; dsimp only)); refine box_event ?hg (N := 1) ?hd (cs := #[.int .i64 a0_0, .int .i64 a0_1, .slice A0_2 l0_2.length c0_2]) (t := 47) ?hr ?_; (case hd => rfl); (case hg => rfl); (case hr => first | (go_simp; done) | (go_simp; rfl)); intro gb157 hg w3 hbox hb; have n0_ := zM (zP (by repeat (first | exact HB.out | apply zA | apply zN | apply zD)) hb); have n1_ := zM (hbox); have n2_ := zM ((by rw [hg]; exact (zZ (by repeat (first | exact HB.out | apply zA | apply zN | apply zD))) : w.heap.size ≤ gb157)); have n3_ := zM ((by rw [hg]; exact (zZ (by repeat (first | exact HB.out | apply zA | apply zN | apply zD))) : w.heap.size ≤ gb157)); clear HB; have HB := n0_; have BK157 := n1_; have GW157 := n2_; have GE157 := n3_; clear n0_ n1_ n2_ n3_; clear hb hbox hg))
 (try simp only [Act.put, List.setIfInBounds_toArray, List.set_cons_zero, List.set_cons_succ])
 go_cut [19] (fun v19 wc => ∃ (kq : Nat) (x19_1 : Bool), v19 = .bool x19_1 ∧ Aside0 (spec_CredOk.j0 kq x19_1 a0_0 a0_1 l0_2 = some r) ∧ Aside0 (kq ≤ k) ∧ Aside0 (wc.heap[gb157]? = some (.cells #[.int .i64 a0_0, .int .i64 a0_1, (.slice A0_2 l0_2.length c0_2)] 47 (0, 0))) ∧ Aside0 (Below w.heap.size w wc))
 case first =>
  have H := HC2.out
  clear HC2
  replace H := Option.bind_eq_some_iff.mp H
  obtain ⟨t158, A40, H⟩ := H
  replace H : (if t158 = true then ((spec_l1In.f a0_1 0 1000).bind fun t159 => (if t159 = true then (spec_CredOk.j0 k (decide ((l0_2.length : Int) > 4)) a0_0 a0_1 l0_2) else (spec_CredOk.j0 k true a0_0 a0_1 l0_2))) else (spec_CredOk.j0 k true a0_0 a0_1 l0_2)) = some r := H
  have A4 := zM A40
  clear A40
  by_cases c5 : t158 = true
  ·subst c5
   have H1 : ((spec_l1In.f a0_1 0 1000).bind fun t159 => (if t159 = true then (spec_CredOk.j0 k (decide ((l0_2.length : Int) > 4)) a0_0 a0_1 l0_2) else (spec_CredOk.j0 k true a0_0 a0_1 l0_2))) = some r := by rw [if_pos rfl] at H; exact H
   clear H
   have H := H1
   clear H1
   replace H := Option.bind_eq_some_iff.mp H
   obtain ⟨t159, A60, H⟩ := H
   replace H : (if t159 = true then (spec_CredOk.j0 k (decide ((l0_2.length : Int) > 4)) a0_0 a0_1 l0_2) else (spec_CredOk.j0 k true a0_0 a0_1 l0_2)) = some r := H
   have A6 := zM A60
   clear A60
   by_cases c7 : t159 = true
   ·subst c7
    have H1 : (spec_CredOk.j0 k (decide ((l0_2.length : Int) > 4)) a0_0 a0_1 l0_2) = some r := by rw [if_pos rfl] at H; exact H
    clear H
    have H := H1
    clear H1
    have H' := zM H
    clear H
    have hcz8_0 : w3.cell? ⟨gb157, 0, none⟩ = some (.int .i64 a0_0) := (zC BK157.out 0).trans rfl
    have hcz8_1 : w3.cell? ⟨gb157, 1, none⟩ = some (.int .i64 a0_1) := (zC BK157.out 1).trans rfl
    have hcz8_2 : w3.cell? ⟨gb157, 2, none⟩ = some (.slice A0_2 l0_2.length c0_2) := (zC BK157.out 2).trans rfl
    have hfz8_0 := zF BK157.out 0
    have hfz8_1 := zF BK157.out 1
    have hfz8_2 := zF BK157.out 2
    go_wp2_with (first | ((with_reducible refine gate_callee (f := 35) rfl ?_); refine goesL_ (some 6) rfl rfl Tryd.func35 (by kernel_rfl) rfl #[.int .i64 a0_0, .int .i64 0, .int .i64 1000] rfl (by (try simp only [List.map_toArray, List.map_cons, List.map_nil]); first | done | rfl | (simp only [List.length_drop, List.length_take]; rfl)) ?_; (with_reducible refine (spec_l1In.calls a0_0 0 1000 true _ A4.out).mono ?_); rintro e w' ⟨rfl, ⟨nd, rfl⟩⟩; refine ⟨_, rfl, ?_⟩) | (go_at_call 35; (with_reducible refine (spec_l1In.calls a0_1 0 1000 true _ A6.out).mono ?_); rintro e w' ⟨rfl, ⟨nd, rfl⟩⟩))
    go_meet
    case rel => exact ⟨_, (decide ((l0_2.length : Int) > 4)), (by first | rfl | (simp; done) | (simp [*]; done) | (simp; exact zQ _)), H', ⟨by first | omega | exact Nat.le_refl _⟩, ⟨by (with_reducible repeat (first | refine zK ?_ _ | refine zW ?_ | refine zB ?_ _)); exact BK157.out⟩, ⟨by repeat (first | (with_reducible first | exact HB.out | apply zA | apply zN | apply zD | refine zS ?_ GE157.out) | exact HB.out)⟩⟩
   ·replace c7 := Bool.eq_false_iff.mpr c7
    subst c7
    have H1 : (spec_CredOk.j0 k true a0_0 a0_1 l0_2) = some r := by rw [if_neg (show ¬ (false = true) by decide)] at H; exact H
    clear H
    have H := H1
    clear H1
    have H' := zM H
    clear H
    have hcz9_0 : w3.cell? ⟨gb157, 0, none⟩ = some (.int .i64 a0_0) := (zC BK157.out 0).trans rfl
    have hcz9_1 : w3.cell? ⟨gb157, 1, none⟩ = some (.int .i64 a0_1) := (zC BK157.out 1).trans rfl
    have hcz9_2 : w3.cell? ⟨gb157, 2, none⟩ = some (.slice A0_2 l0_2.length c0_2) := (zC BK157.out 2).trans rfl
    have hfz9_0 := zF BK157.out 0
    have hfz9_1 := zF BK157.out 1
    have hfz9_2 := zF BK157.out 2
    go_wp2_with (first | ((with_reducible refine gate_callee (f := 35) rfl ?_); refine goesL_ (some 6) rfl rfl Tryd.func35 (by kernel_rfl) rfl #[.int .i64 a0_0, .int .i64 0, .int .i64 1000] rfl (by (try simp only [List.map_toArray, List.map_cons, List.map_nil]); first | done | rfl | (simp only [List.length_drop, List.length_take]; rfl)) ?_; (with_reducible refine (spec_l1In.calls a0_0 0 1000 true _ A4.out).mono ?_); rintro e w' ⟨rfl, ⟨nd, rfl⟩⟩; refine ⟨_, rfl, ?_⟩) | (go_at_call 35; (with_reducible refine (spec_l1In.calls a0_1 0 1000 false _ A6.out).mono ?_); rintro e w' ⟨rfl, ⟨nd, rfl⟩⟩))
    go_meet
    case rel => exact ⟨_, (true), (by first | rfl | (simp; done) | (simp [*]; done) | (simp; exact zQ _)), H', ⟨by first | omega | exact Nat.le_refl _⟩, ⟨by (with_reducible repeat (first | refine zK ?_ _ | refine zW ?_ | refine zB ?_ _)); exact BK157.out⟩, ⟨by repeat (first | (with_reducible first | exact HB.out | apply zA | apply zN | apply zD | refine zS ?_ GE157.out) | exact HB.out)⟩⟩
  ·replace c5 := Bool.eq_false_iff.mpr c5
   subst c5
   have H1 : (spec_CredOk.j0 k true a0_0 a0_1 l0_2) = some r := by rw [if_neg (show ¬ (false = true) by decide)] at H; exact H
   clear H
   have H := H1
   clear H1
   have H' := zM H
   clear H
   have hcz10_0 : w3.cell? ⟨gb157, 0, none⟩ = some (.int .i64 a0_0) := (zC BK157.out 0).trans rfl
   have hcz10_1 : w3.cell? ⟨gb157, 1, none⟩ = some (.int .i64 a0_1) := (zC BK157.out 1).trans rfl
   have hcz10_2 : w3.cell? ⟨gb157, 2, none⟩ = some (.slice A0_2 l0_2.length c0_2) := (zC BK157.out 2).trans rfl
   have hfz10_0 := zF BK157.out 0
   have hfz10_1 := zF BK157.out 1
   have hfz10_2 := zF BK157.out 2
   go_wp2_with (first | ((with_reducible refine gate_callee (f := 35) rfl ?_); refine goesL_ (some 6) rfl rfl Tryd.func35 (by kernel_rfl) rfl #[.int .i64 a0_0, .int .i64 0, .int .i64 1000] rfl (by (try simp only [List.map_toArray, List.map_cons, List.map_nil]); first | done | rfl | (simp only [List.length_drop, List.length_take]; rfl)) ?_; (with_reducible refine (spec_l1In.calls a0_0 0 1000 false _ A4.out).mono ?_); rintro e w' ⟨rfl, ⟨nd, rfl⟩⟩; refine ⟨_, rfl, ?_⟩))
   go_meet
   case rel => exact ⟨_, (true), (by first | rfl | (simp; done) | (simp [*]; done) | (simp; exact zQ _)), H', ⟨by first | omega | exact Nat.le_refl _⟩, ⟨by (with_reducible repeat (first | refine zK ?_ _ | refine zW ?_ | refine zB ?_ _)); exact BK157.out⟩, ⟨by repeat (first | (with_reducible first | exact HB.out | apply zA | apply zN | apply zD | refine zS ?_ GE157.out) | exact HB.out)⟩⟩
 case rest =>
  clear HC2
  try clear p2
  try clear c3
  try clear c4
  try clear c5
  try clear c7
  try clear hcz10_0
  try clear hcz10_1
  try clear hcz10_2
  try clear hcz8_0
  try clear hcz8_1
  try clear hcz8_2
  try clear hcz9_0
  try clear hcz9_1
  try clear hcz9_2
  try clear hfz10_0
  try clear hfz10_1
  try clear hfz10_2
  try clear hfz8_0
  try clear hfz8_1
  try clear hfz8_2
  try clear hfz9_0
  try clear hfz9_1
  try clear hfz9_2
  obtain ⟨kq, x19_1, rfl, HA, HJ1, BK157, HB⟩ := hcut
  cases kq with
  | zero => exact absurd HA.out (by simp [spec_CredOk.j0])
  | succ kj1 =>
   have H := HA.out
   clear HA
   simp only [spec_CredOk.j0] at H
   by_cases c11 : x19_1 = true
   ·subst c11
    have H1 : (some false) = some r := by rw [if_pos rfl] at H; exact H
    clear H
    have H := H1
    clear H1
    obtain rfl := zI H
    go_wp2
    go_ret
    exact ⟨by first | rfl | (simp [errW_none, errW_some] <;> rfl) | (simp [*, errW_none, errW_some] <;> rfl), by repeat (first | (with_reducible first | exact HB.out | apply zA | apply zN | apply zD | refine zS ?_ GE157.out) | exact HB.out)⟩
   ·replace c11 := Bool.eq_false_iff.mpr c11
    subst c11
    have H1 : (spec_CredOk.l0 kj1 0 a0_0 a0_1 l0_2) = some r := by rw [if_neg (show ¬ (false = true) by decide)] at H; exact H
    clear H
    have H := H1
    clear H1
    have H' := zM H
    clear H
    go_wp2
    go_loopg [3] kj1 (fun kq v3 w' => ∃ (x3_2 : Int), v3 = .int .i64 x3_2 ∧ Aside0 (spec_CredOk.l0 kq x3_2 a0_0 a0_1 l0_2 = some r) ∧ Aside0 (kq ≤ kj1) ∧ Aside0 (w'.heap[gb157]? = some (.cells #[.int .i64 a0_0, .int .i64 a0_1, (.slice A0_2 l0_2.length c0_2)] 47 (0, 0))) ∧ Aside0 (Below w.heap.size w w'))
    case atStart => exact ⟨(0), (by first | rfl | (simp; done) | (simp [*]; done) | (simp; exact zQ _)), H', ⟨Nat.le_refl _⟩, ⟨by (with_reducible repeat (first | refine zK ?_ _ | refine zW ?_ | refine zB ?_ _)); exact BK157.out⟩, ⟨by repeat (first | (with_reducible first | exact HB.out | apply zA | apply zN | apply zD | refine zS ?_ GE157.out) | exact HB.out)⟩⟩
    case round =>
     clear H'
     try clear c1
     try clear p2
     try clear c3
     try clear c4
     try clear c5
     try clear c7
     try clear c11
     try clear hcz10_0
     try clear hcz10_1
     try clear hcz10_2
     try clear hcz8_0
     try clear hcz8_1
     try clear hcz8_2
     try clear hcz9_0
     try clear hcz9_1
     try clear hcz9_2
     try clear hfz10_0
     try clear hfz10_1
     try clear hfz10_2
     try clear hfz8_0
     try clear hfz8_1
     try clear hfz8_2
     try clear hfz9_0
     try clear hfz9_1
     try clear hfz9_2
     try clear p2
     obtain ⟨x3_2, rfl, HA, HK2, BK157, HB⟩ := hrel
     cases gk with
     | zero => exact absurd HA.out (by simp [spec_CredOk.l0])
     | succ k2 =>
      have H := HA.out
      clear HA
      simp only [spec_CredOk.l0] at H
      by_cases c12 : x3_2 < (l0_2.length : Int)
      ·rw [if_pos c12] at H
       have c12b0 : decide (x3_2 < (l0_2.length : Int)) = true := zE c12
       clear c12
       by_cases c13 : 0 ≤ x3_2
       ·rw [if_pos c13] at H
        have c13b0 : decide (0 ≤ x3_2) = true := zE c13
        clear c13
        replace H := Option.bind_eq_some_iff.mp H
        obtain ⟨t161, A140, H⟩ := H
        replace H : (if t161 = true then (spec_CredOk.l0 k2 (wrap64 (x3_2 + 1)) a0_0 a0_1 l0_2) else (some false)) = some r := H
        have A14 := zM A140
        clear A140
        by_cases c15 : t161 = true
        ·subst c15
         have H1 : (spec_CredOk.l0 k2 (wrap64 (x3_2 + 1)) a0_0 a0_1 l0_2) = some r := by rw [if_pos rfl] at H; exact H
         clear H
         have H := H1
         clear H1
         have H' := zM H
         clear H
         have hcz16_0 : wr.cell? ⟨gb157, 0, none⟩ = some (.int .i64 a0_0) := (zC BK157.out 0).trans rfl
         have hcz16_1 : wr.cell? ⟨gb157, 1, none⟩ = some (.int .i64 a0_1) := (zC BK157.out 1).trans rfl
         have hcz16_2 : wr.cell? ⟨gb157, 2, none⟩ = some (.slice A0_2 l0_2.length c0_2) := (zC BK157.out 2).trans rfl
         have hfz16_0 := zF BK157.out 0
         have hfz16_1 := zF BK157.out 1
         have hfz16_2 := zF BK157.out 2
         have p160 : 0 ≤ (x3_2 : Int) := zO (by first | (with_reducible assumption) | assumption)
         have q160 : x3_2 < (l0_2.length : Int) := zO (by first | (with_reducible assumption) | assumption)
         obtain ⟨ad160, e160, hx160_0⟩ := Kd.at_int HR0_2.out x3_2 p160 q160
         cases e160
         replace hx160_0 := (HB.out.cell (zT w _ hx160_0)).trans hx160_0
         replace p160 := eq_true p160
         replace q160 := eq_true q160
         go_wp2_with (first | ((with_reducible refine gate_callee (f := 35) rfl ?_); refine goesL_ (some 32) rfl rfl Tryd.func35 (by kernel_rfl) rfl #[.int .i64 (rd l0_2 x3_2), .int .i64 0, .int .i64 1000] rfl (by (try simp only [List.map_toArray, List.map_cons, List.map_nil]); first | done | rfl | (simp only [List.length_drop, List.length_take]; rfl)) ?_; (with_reducible refine (spec_l1In.calls (rd l0_2 x3_2) 0 1000 true _ A14.out).mono ?_); rintro e w' ⟨rfl, ⟨nd, rfl⟩⟩; refine ⟨_, rfl, ?_⟩))
         go_roundg k2
         case measure => have := HJ1.out; have := HK2.out; omega
         case rel => exact ⟨(wrap64 (x3_2 + 1)), (by first | rfl | (simp; done) | (simp [*]; done) | (simp; exact zQ _)), H', ⟨by have := HJ1.out; have := HK2.out; omega⟩, ⟨by (with_reducible repeat (first | refine zK ?_ _ | refine zW ?_ | refine zB ?_ _)); exact BK157.out⟩, ⟨by repeat (first | (with_reducible first | exact HB.out | apply zA | apply zN | apply zD | refine zS ?_ GE157.out) | exact HB.out)⟩⟩
        ·replace c15 := Bool.eq_false_iff.mpr c15
         subst c15
         have H1 : (some false) = some r := by rw [if_neg (show ¬ (false = true) by decide)] at H; exact H
         clear H
         have H := H1
         clear H1
         obtain rfl := zI H
         have hcz17_0 : wr.cell? ⟨gb157, 0, none⟩ = some (.int .i64 a0_0) := (zC BK157.out 0).trans rfl
         have hcz17_1 : wr.cell? ⟨gb157, 1, none⟩ = some (.int .i64 a0_1) := (zC BK157.out 1).trans rfl
         have hcz17_2 : wr.cell? ⟨gb157, 2, none⟩ = some (.slice A0_2 l0_2.length c0_2) := (zC BK157.out 2).trans rfl
         have hfz17_0 := zF BK157.out 0
         have hfz17_1 := zF BK157.out 1
         have hfz17_2 := zF BK157.out 2
         have p160 : 0 ≤ (x3_2 : Int) := zO (by first | (with_reducible assumption) | assumption)
         have q160 : x3_2 < (l0_2.length : Int) := zO (by first | (with_reducible assumption) | assumption)
         obtain ⟨ad160, e160, hx160_0⟩ := Kd.at_int HR0_2.out x3_2 p160 q160
         cases e160
         replace hx160_0 := (HB.out.cell (zT w _ hx160_0)).trans hx160_0
         replace p160 := eq_true p160
         replace q160 := eq_true q160
         go_wp2_with (first | ((with_reducible refine gate_callee (f := 35) rfl ?_); refine goesL_ (some 32) rfl rfl Tryd.func35 (by kernel_rfl) rfl #[.int .i64 (rd l0_2 x3_2), .int .i64 0, .int .i64 1000] rfl (by (try simp only [List.map_toArray, List.map_cons, List.map_nil]); first | done | rfl | (simp only [List.length_drop, List.length_take]; rfl)) ?_; (with_reducible refine (spec_l1In.calls (rd l0_2 x3_2) 0 1000 false _ A14.out).mono ?_); rintro e w' ⟨rfl, ⟨nd, rfl⟩⟩; refine ⟨_, rfl, ?_⟩))
         go_ret
         exact ⟨by first | rfl | (simp [errW_none, errW_some] <;> rfl) | (simp [*, errW_none, errW_some] <;> rfl), by repeat (first | (with_reducible first | exact HB.out | apply zA | apply zN | apply zD | refine zS ?_ GE157.out) | exact HB.out)⟩
       ·rw [if_neg c13] at H
        exact absurd H (by simp)
      ·rw [if_neg c12] at H
       have c12b0 : decide (x3_2 < (l0_2.length : Int)) = false := zG c12
       clear c12
       obtain rfl := zI H
       have hcz18_0 : wr.cell? ⟨gb157, 0, none⟩ = some (.int .i64 a0_0) := (zC BK157.out 0).trans rfl
       have hcz18_1 : wr.cell? ⟨gb157, 1, none⟩ = some (.int .i64 a0_1) := (zC BK157.out 1).trans rfl
       have hcz18_2 : wr.cell? ⟨gb157, 2, none⟩ = some (.slice A0_2 l0_2.length c0_2) := (zC BK157.out 2).trans rfl
       have hfz18_0 := zF BK157.out 0
       have hfz18_1 := zF BK157.out 1
       have hfz18_2 := zF BK157.out 2
       go_wp2
       go_ret
       exact ⟨by first | rfl | (simp [errW_none, errW_some] <;> rfl) | (simp [*, errW_none, errW_some] <;> rfl), by repeat (first | (with_reducible first | exact HB.out | apply zA | apply zN | apply zD | refine zS ?_ GE157.out) | exact HB.out)⟩

end Go.Proofs.YtiopcpkfjikfdaaDoor.PFnExactWalk
