import Derived.Test.YtiopcpkfjikfdaaGreatDoorQFnCleanx4
import Derived.Test.YtiopcpkfjikfdaaGreatDoorQFnCleanx5
import Derived.Test.YtiopcpkfjikfdaaGreatDoorQFnCleanx8
import Derived.Test.YtiopcpkfjikfdaaGreatDoorQFnCleanx10
set_option maxHeartbeats 8000000
set_option maxRecDepth 100000
namespace Go.Proofs.YtiopcpkfjikfdaaGreatDoor.PFnClean
open Go.RowKit Go.Proofs.YtiopcpkfjikfdaaGreatDoorW.PrintWords Go.Proofs.YtiopcpkfjikfdaaGreatDoorW.PrintLast Go.Proofs.YtiopcpkfjikfdaaGreatDoorW.PrintMore
attribute [local go_sem] max2_int min2_int max_two min_two max_three min_three max_four min_four   -- for this text's walks alone
set_option linter.unusedVariables false
set_option linter.unusedSimpArgs false
section
open Go.Proofs.YtiopcpkfjikfdaaGreatDoor.Mth Go.Proofs.YtiopcpkfjikfdaaGreatDoor.Str
def iAt (l : List S37) (i : Nat) : S37 := l.getD i z37
theorem iAt_eq (l : List S37) (i : Nat) (h : i < l.length) : iAt l i = l[i] := by
 unfold iAt
 rw [List.getD_eq_getElem?_getD, List.getElem?_eq_getElem h]; rfl
def inoAtB (nx : Int) (l : List S37) (i : Nat) : Bool := rgB (iAt l i).f0 1 (nx - 1) && ((i == 0 || decide ((iAt l (i - 1)).f0 < (iAt l i).f0)) && inodeOkB l (iAt l i))
def reachAtB (l : List S37) (i : Nat) : Bool := (belowL l 1).contains (iAt l i).f0 && !((iAt l i).f1 == 2 && !(namedN l (iAt l i).f0 == 1))
def endB (l : List S37) : Bool := decide (totalN l ≤ 400) && !(l.any (overB l))
def reachFrom (l : List S37) : Nat → Nat → Bool
 | 0, _ => endB l
 | k + 1, i => reachAtB l i && reachFrom l k (i + 1)
def inosFrom (nx : Int) (l : List S37) : Nat → Nat → Bool
 | 0, _ => reachFrom l (l.length - 1) 1
 | k + 1, i => inoAtB nx l i && inosFrom nx l k (i + 1)
def volOkB (nx : Int) (l : List S37) : Bool := rgB nx 2 100000 && (rgB (l.length : Int) 1 24 && ((iAt l 0).f0 == 1 && ((iAt l 0).f1 == 2 && inosFrom nx l l.length 0)))
theorem cutI (A : Option Addr) (c : Nat) (l : List S37) (h1 : 1 ≤ l.length) (hc : l.length ≤ c) : ∃ A1 c1, ∃ ls : List S37, ls = l.drop 1 ∧ (∀ W : World, (Instr.slice 24 (.slice A l.length c) (some (.int .i64 1)) none none).run Tryz.prog W = .ok (.slice A1 ls.length c1) W) ∧
  ∀ W, Kd.C k37 W A l.length l → Kd.C k37 W A1 ls.length ls := by
 obtain ⟨i0, hi, hz⟩ := Option.map_eq_some_iff.1 info37
 simp only [Prod.mk.injEq] at hz
 have h := cut_from (P := Tryz.prog) 24 37 .i64 (by kernel_rfl) hi 9 hz.2.1 A l.length c 1 (by omega) (by omega)
 refine ⟨_, c - 1, l.drop 1, rfl, fun W => ?_, fun W hC => Kd.C_drop hC h1 hc⟩
 rw [h W, List.length_drop]
 rfl
theorem drop_at (l : List S37) (j : Nat) (h : j < (l.drop 1).length) : (l.drop 1)[j] = iAt l (j + 1) := by
 rw [List.length_drop] at h
 rw [List.getElem_drop, iAt_eq l (j + 1) (by omega)]
 congr 1; omega
theorem volOk_any (w : World) (nx : Int) (A : Option Addr) (c : Nat) (l : List S37) (hr : Kd.C k37 w A l.length l) (hc : l.length ≤ c) (hs : volSmall l) :
  Calls Tryz.prog 15 #[.agg #[.int .i64 nx, .slice A l.length c]] w fun e w' => e = .returned (.bool (volOkB nx l)) ∧ Below w.heap.size w w' := by
 have hu29 := Tryz.underlying26
 have hu45 := Tryz.underlying37
 have hm : l.length ≤ 9223372036854775807 := hr.2.1
 have HV0 := zM (show VolAt (w.alloc (.cells #[.int .i64 nx, .slice A l.length c] 26)) w.heap.size nx A c l from ⟨heap_alloc_new w _, Kd.C_below hr (zA (Below.refl _ _) _), hc, hs⟩)
 cases r1 : rgB nx 2 100000 with
 | false =>
  have HF := zM (show volOkB nx l = false from by unfold volOkB; simp [r1])
  clear HV0 hr hc hs
  go_enter Tryz.func15, Tryz.ntmps15
  go_wp2_with (go_at_call 33; refine (within_any _ _ _ _).mono ?_; rintro e w1 ⟨rfl, ⟨n, rfl⟩⟩)
  go_ret
  exact ⟨by rw [HF.out]; rfl, (by repeat (first | exact Below.refl _ _ | apply zA | apply zN | apply zD))⟩
 | true =>
 cases r2 : rgB (l.length : Int) 1 24 with
 | false =>
  have HF := zM (show volOkB nx l = false from by unfold volOkB; simp [r1, r2])
  clear HV0 hr hc hs
  go_enter Tryz.func15, Tryz.ntmps15
  go_wp2_with (go_at_call 33; refine (within_any _ _ _ _).mono ?_; rintro e w1 ⟨rfl, ⟨n, rfl⟩⟩)
  go_ret
  exact ⟨by rw [HF.out]; rfl, (by repeat (first | exact Below.refl _ _ | apply zA | apply zN | apply zD))⟩
 | true =>
 have hl1 : 1 ≤ l.length ∧ l.length ≤ 24 := by have h1 := zO r2; omega
 have hnx : 2 ≤ nx ∧ nx ≤ 100000 := zO r1
 obtain ⟨ad, A6, c6, eA, hx0, hx1, -, -, -, -, -, -, -, -, -⟩ := at_T37 hr 0 (by omega) (by omega)
 subst eA
 have hz : ad.add 0 = ad := by cases ad; simp [Addr.add]
 have hz2 : rd_T37 l 0 = iAt l 0 := rfl
 rw [show (0 : Int).toNat * 9 = 0 from rfl, hz, hz2] at hx0 hx1
 replace hx0 := pw_cell_below (zA (Below.refl w.heap.size w) (.cells #[.int .i64 nx, .slice (some ad) l.length c] 26)) hx0
 replace hx1 := pw_cell_below (zA (Below.refl w.heap.size w) (.cells #[.int .i64 nx, .slice (some ad) l.length c] 26)) hx1
 have hp0 : (0 < l.length) = True := eq_true (by omega)
 have hp1 : ((0 : Int) < (l.length : Int)) = True := eq_true (by omega)
 clear hz hz2
 cases r3 : ((iAt l 0).f0 == 1) with
 | false =>
  have r3n : ((iAt l 0).f0 != 1) = true := by rw [bne, r3]; rfl
  have HF := zM (show volOkB nx l = false from by unfold volOkB; simp [r1, r2, r3])
  clear HV0 hr hc hs hl1 hnx
  go_enter Tryz.func15, Tryz.ntmps15
  go_wp2_with (go_at_call 33; refine (within_any _ _ _ _).mono ?_; rintro e w1 ⟨rfl, ⟨n, rfl⟩⟩)
  go_ret
  exact ⟨by rw [HF.out]; rfl, (by repeat (first | exact Below.refl _ _ | apply zA | apply zN | apply zD))⟩
 | true =>
 have r3n : ((iAt l 0).f0 != 1) = false := by rw [bne, r3]; rfl
 cases r4 : ((iAt l 0).f1 == 2) with
 | false =>
  have r4n : ((iAt l 0).f1 != 2) = true := by rw [bne, r4]; rfl
  have HF := zM (show volOkB nx l = false from by unfold volOkB; simp [r1, r2, r3, r4])
  clear HV0 hr hc hs hl1 hnx
  go_enter Tryz.func15, Tryz.ntmps15
  go_wp2_with (go_at_call 33; refine (within_any _ _ _ _).mono ?_; rintro e w1 ⟨rfl, ⟨n, rfl⟩⟩)
  go_ret
  exact ⟨by rw [HF.out]; rfl, (by repeat (first | exact Below.refl _ _ | apply zA | apply zN | apply zD))⟩
 | true =>
 have r4n : ((iAt l 0).f1 != 2) = false := by rw [bne, r4]; rfl
 have HF := zM (show volOkB nx l = inosFrom nx l l.length 0 from by unfold volOkB; simp [r1, r2, r3, r4])
 have HL1 := zM hl1
 have HNX := zM hnx
 clear hr hc hs hl1 hnx
 go_enter Tryz.func15, Tryz.ntmps15
 go_wp2_with (go_at_call 33; refine (within_any _ _ _ _).mono ?_; rintro e w1 ⟨rfl, ⟨n, rfl⟩⟩)
 have HBw := zM (zA (Below.refl w.heap.size w) (.cells #[.int .i64 nx, .slice (some ad) l.length c] 26))
 generalize w.alloc (.cells #[.int .i64 nx, .slice (some ad) l.length c] 26) = w1 at HV0 HBw hx0 hx1 ⊢
 generalize w.heap.size = gb at HV0 ⊢
 have HCut := zM (cutI (some ad) c l HL1.out.1 HV0.out.cap)
 have HSm := zM HV0.out.small
 clear r2 hx0 hx1 hp0 hp1 r3 r3n r4 r4n
 have HF2 := zM HF.out.symm
 clear HF
 go_loopg [38] l.length (fun kq v38 w' => ∃ (x : Nat), v38 = .int .i64 (x : Int) ∧ Aside0 (x + kq = l.length ∧ inosFrom nx l kq x = volOkB nx l) ∧ Aside0 (Below w1.heap.size w1 w'))
 case atStart => exact ⟨0, rfl, ⟨by omega, HF2.out⟩, ⟨by repeat (first | exact Below.refl _ _ | apply zN)⟩⟩
 case round =>
  obtain ⟨x, rfl, HX, HB⟩ := hrel
  have hl : gk ≤ l.length ∧ x ≤ l.length := by have := HX.out.1; omega
  by_cases hlt : x < l.length
  ·cases gk with
   | zero => have := HX.out.1; omega
   | succ k1 =>
   obtain ⟨ad2, A6, c6, eA, hx0, hx1, hx2, hx3, hx4, hx5, hx6, hx7, hx8, hl6, hi6⟩ := ino_at HV0.out HB.out x hlt
   obtain rfl : ad = ad2 := by injection eA
   obtain ⟨xi, hxi⟩ : ∃ q, q = l[x] := ⟨_, rfl⟩
   have hxm : xi ∈ l := hxi ▸ List.getElem_mem hlt
   have HSx := zM (show dSmall xi.f6 ∧ xi.f5.size ≤ 1048576 from ⟨⟨HSm.out.2.1 _ hxm, HSm.out.2.2.2 _ hxm⟩, HSm.out.2.2.1 _ hxm⟩)
   rw [← hxi] at hx0 hx1 hx2 hx3 hx4 hx5 hx6 hx7 hx8 hl6 hi6
   have HNF := zM (show inosFrom nx l (k1 + 1) x = (rgB xi.f0 1 (nx - 1) && ((x == 0 || decide ((iAt l (x - 1)).f0 < xi.f0)) && inodeOkB l xi) && inosFrom nx l k1 (x + 1)) from by
    rw [inosFrom, inoAtB, iAt_eq l x hlt, ← hxi])
   obtain ⟨pf, hpf⟩ : ∃ q, q = (iAt l (x - 1)).f0 := ⟨_, rfl⟩
   rw [← hpf] at HNF
   have HJ := zM (show 0 < x → ∃ j : Int, wrap64 ((x : Int) - 1) = j ∧ 0 ≤ j ∧ j < (l.length : Int) ∧ ∀ W, Below w1.heap.size w1 W → W.cell? (ad.add (j.toNat * 9)) = some (.int .i64 pf) from fun hx => ⟨((x - 1 : Nat) : Int), by unfold wrap64; omega, by omega, by omega, fun W hW => by
    obtain ⟨ad3, -, -, e1, h1, -⟩ := ino_at HV0.out hW (x - 1) (by omega)
    obtain rfl : ad = ad3 := by injection e1
    rw [← iAt_eq l (x - 1) (by omega), ← hpf] at h1
    rw [Int.toNat_natCast]; exact h1⟩)
   have HI0 := zM (fun (W : World) (hW : Below w1.heap.size w1 W) => inodeOk_any W gb nx (some ad) c l (HV0.out.below hW) xi.f0 xi.f1 xi.f2 xi.f3 xi.f4 xi.f7 xi.f8 xi.f5 A6 c6 xi.f6 (Kd.C_below hi6 hW) HSx.out.1 HSx.out.2)
   obtain ⟨nq, hnq⟩ : ∃ q, q = nx - 1 := ⟨_, rfl⟩
   have hnw : IntKind.i64.wrap (nx - 1) = nq := by rw [hnq, i64_w]; unfold wrap64; have := HNX.out; omega
   rw [← hnq] at HNF
   have HIB : inodeOkB l xi = inodeOkV l xi.f1 xi.f2 xi.f3 xi.f4 xi.f7 xi.f8 xi.f5 xi.f6 := rfl
   rw [HIB] at HNF
   have hmN : xi.f6.length ≤ 9223372036854775807 := hi6.2.1
   clear HIB hnq hpf hxi hxm hi6 hl6 hl eA
   obtain ⟨f0, f1, f2, f3, f4, f5, f6, f7, f8⟩ := xi
   dsimp only at hx0 hx1 hx2 hx3 hx4 hx5 hx6 hx7 hx8 HNF HI0 hmN
   have HW := fun W => within_any f0 1 nq W
   go_wp2
   generalize hq : wr.alloc (.cells #[.int .i64 f0, .int .i64 f1, .int .i64 f2, .int .i64 f3, .int .i64 f4, .string f5, .slice A6 f6.length c6, .int .i64 f7, .int .i64 f8] 37) = wi
   have HBi := zM (show Below w1.heap.size w1 wi from by rw [← hq]; exact zA HB.out _)
   have HBX := zM (show wi.heap[wr.heap.size]? = some (.cells #[.int .i64 f0, .int .i64 f1, .int .i64 f2, .int .i64 f3, .int .i64 f4, .string f5, .slice A6 f6.length c6, .int .i64 f7, .int .i64 f8] 37 (0, 0)) from by rw [← hq]; exact heap_alloc_new wr _)
   generalize wr.heap.size = gd at HBX ⊢
   have hd0 : ∀ y : Grow wi, y.W.cell? ⟨gd, 0, none⟩ = some (.int .i64 f0) := fun y => y.cell ((zC HBX.out 0).trans rfl)
   have hd1 : ∀ y : Grow wi, y.W.cell? ⟨gd, 1, none⟩ = some (.int .i64 f1) := fun y => y.cell ((zC HBX.out 1).trans rfl)
   have hd2 : ∀ y : Grow wi, y.W.cell? ⟨gd, 2, none⟩ = some (.int .i64 f2) := fun y => y.cell ((zC HBX.out 2).trans rfl)
   have hd3 : ∀ y : Grow wi, y.W.cell? ⟨gd, 3, none⟩ = some (.int .i64 f3) := fun y => y.cell ((zC HBX.out 3).trans rfl)
   have hd4 : ∀ y : Grow wi, y.W.cell? ⟨gd, 4, none⟩ = some (.int .i64 f4) := fun y => y.cell ((zC HBX.out 4).trans rfl)
   have hd5 : ∀ y : Grow wi, y.W.cell? ⟨gd, 5, none⟩ = some (.string f5) := fun y => y.cell ((zC HBX.out 5).trans rfl)
   have hd6 : ∀ y : Grow wi, y.W.cell? ⟨gd, 6, none⟩ = some (.slice A6 f6.length c6) := fun y => y.cell ((zC HBX.out 6).trans rfl)
   have hd7 : ∀ y : Grow wi, y.W.cell? ⟨gd, 7, none⟩ = some (.int .i64 f7) := fun y => y.cell ((zC HBX.out 7).trans rfl)
   have hd8 : ∀ y : Grow wi, y.W.cell? ⟨gd, 8, none⟩ = some (.int .i64 f8) := fun y => y.cell ((zC HBX.out 8).trans rfl)
   have hv0 : ∀ y : Grow wi, y.W.cell? ⟨gb, 0, none⟩ = some (.int .i64 nx) := fun y => y.cell (HV0.out.below HBi.out).c0
   have hv1 : ∀ y : Grow wi, y.W.cell? ⟨gb, 1, none⟩ = some (.slice (some ad) l.length c) := fun y => y.cell (HV0.out.below HBi.out).c1
   have HI1 := zM (fun (y : Grow wi) => HI0.out y.W (zH HBi.out HBi.out.size y.hb))
   clear hx0 hx1 hx2 hx3 hx4 hx5 hx6 hx7 hx8 HB hq HI0 HBX
   cases b1 : rgB f0 1 nq with
   | false =>
    rw [b1] at HW
    have HG := zM (show inosFrom nx l (k1 + 1) x = false from by rw [HNF.out, b1]; rfl)
    have HI := HI1
    clear HI1 b1
    refine wp_region_grow (by kernel_rfl) (by kernel_rfl) ?_
    repeat (go_big_quiet_step (first | (go_at_call 33; exact grow_draw (HW _)) | (go_at_call 34; exact grow_call (HI.out _))))
    refine wpQuiet_nil ?_
    rintro _ ⟨yw, rfl⟩
    have HBy := zM (zH HBi.out HBi.out.size yw.hb)
    generalize yw.W = wy at HBy ⊢
    go_wp2
    go_ret
    exact ⟨by rw [← HX.out.2, HG.out]; rfl, zH HBw.out HBw.out.size HBy.out⟩
   | true =>
    rw [b1] at HW
    by_cases b4 : 0 < x
    ·obtain ⟨j, hj, hj0, hj1, hjc⟩ := HJ.out b4
     have hjw : IntKind.i64.wrap ((x : Int) - 1) = j := (i64_w _).trans hj
     have b4d : decide (0 < x) = true := zE b4
     have b4i : decide (0 < (x : Int)) = true := zE (by omega)
     have hp0 : ∀ y : Grow wi, y.W.cell? (ad.add (j.toNat * 9)) = some (.int .i64 pf) := fun y => hjc y.W (zH HBi.out HBi.out.size y.hb)
     replace hj0 := eq_true hj0
     replace hj1 := eq_true hj1
     have hx0 : (x == 0) = false := by rw [beq_eq_false_iff_ne]; omega
     by_cases b5 : pf < f0
     ·have b5d : decide (f0 ≤ pf) = false := zG (by omega)
      have b5e : decide (pf < f0) = true := zE b5
      cases b6 : inodeOkV l f1 f2 f3 f4 f7 f8 f5 f6 with
      | false =>
       have HG := zM (show inosFrom nx l (k1 + 1) x = false from by rw [HNF.out, b1, hx0, b5e, b6]; rfl)
       rw [b6] at HI1
       have HI := HI1
       clear HI1 b1 b5 b5e b6 hx0 b4 hj hjc
       refine wp_region_grow (by kernel_rfl) (by kernel_rfl) ?_
       repeat (go_big_quiet_step (first | (go_at_call 33; exact grow_draw (HW _)) | (go_at_call 34; exact grow_call (HI.out _))))
       refine wpQuiet_nil ?_
       rintro _ ⟨yw, rfl⟩
       have HBy := zM (zH HBi.out HBi.out.size yw.hb)
       generalize yw.W = wy at HBy ⊢
       go_wp2
       go_ret
       exact ⟨by rw [← HX.out.2, HG.out]; rfl, zH HBw.out HBw.out.size HBy.out⟩
      | true =>
       have HG := zM (show inosFrom nx l (k1 + 1) x = inosFrom nx l k1 (x + 1) from by rw [HNF.out, b1, hx0, b5e, b6]; rfl)
       rw [b6] at HI1
       have HI := HI1
       clear HI1 b1 b5 b5e b6 hx0 b4 hj hjc
       refine wp_region_grow (by kernel_rfl) (by kernel_rfl) ?_
       repeat (go_big_quiet_step (first | (go_at_call 33; exact grow_draw (HW _)) | (go_at_call 34; exact grow_call (HI.out _))))
       refine wpQuiet_nil ?_
       rintro _ ⟨yw, rfl⟩
       have HBy := zM (zH HBi.out HBi.out.size yw.hb)
       generalize yw.W = wy at HBy ⊢
       go_wp2
       go_roundg k1
       case measure => omega
       case rel => exact ⟨x + 1, by go_num, ⟨by have := HX.out.1; omega, by rw [← HX.out.2, HG.out]⟩, HBy⟩
     ·have b5d : decide (f0 ≤ pf) = true := zE (by omega)
      have b5e : decide (pf < f0) = false := zG b5
      have HG := zM (show inosFrom nx l (k1 + 1) x = false from by rw [HNF.out, b1, hx0, b5e]; rfl)
      have HI := HI1
      clear HI1 b1 b5 b5e hx0 b4 hj hjc
      refine wp_region_grow (by kernel_rfl) (by kernel_rfl) ?_
      repeat (go_big_quiet_step (first | (go_at_call 33; exact grow_draw (HW _)) | (go_at_call 34; exact grow_call (HI.out _))))
      refine wpQuiet_nil ?_
      rintro _ ⟨yw, rfl⟩
      have HBy := zM (zH HBi.out HBi.out.size yw.hb)
      generalize yw.W = wy at HBy ⊢
      go_wp2
      go_ret
      exact ⟨by rw [← HX.out.2, HG.out]; rfl, zH HBw.out HBw.out.size HBy.out⟩
    ·have hx0 : x = 0 := by omega
     subst hx0
     cases b6 : inodeOkV l f1 f2 f3 f4 f7 f8 f5 f6 with
     | false =>
      have HG := zM (show inosFrom nx l (k1 + 1) 0 = false from by rw [HNF.out, b1, b6]; rfl)
      rw [b6] at HI1
      have HI := HI1
      clear HI1 b1 b6
      refine wp_region_grow (by kernel_rfl) (by kernel_rfl) ?_
      repeat (go_big_quiet_step (first | (go_at_call 33; exact grow_draw (HW _)) | (go_at_call 34; exact grow_call (HI.out _))))
      refine wpQuiet_nil ?_
      rintro _ ⟨yw, rfl⟩
      have HBy := zM (zH HBi.out HBi.out.size yw.hb)
      generalize yw.W = wy at HBy ⊢
      go_wp2
      go_ret
      exact ⟨by rw [← HX.out.2, HG.out]; rfl, zH HBw.out HBw.out.size HBy.out⟩
     | true =>
      have HG := zM (show inosFrom nx l (k1 + 1) 0 = inosFrom nx l k1 (0 + 1) from by rw [HNF.out, b1, b6]; rfl)
      rw [b6] at HI1
      have HI := HI1
      clear HI1 b1 b6
      refine wp_region_grow (by kernel_rfl) (by kernel_rfl) ?_
      repeat (go_big_quiet_step (first | (go_at_call 33; exact grow_draw (HW _)) | (go_at_call 34; exact grow_call (HI.out _))))
      refine wpQuiet_nil ?_
      rintro _ ⟨yw, rfl⟩
      have HBy := zM (zH HBi.out HBi.out.size yw.hb)
      generalize yw.W = wy at HBy ⊢
      go_wp2
      go_roundg k1
      case measure => omega
      case rel => exact ⟨0 + 1, by go_num, ⟨by have := HX.out.1; omega, by rw [← HX.out.2, HG.out]⟩, HBy⟩
  ·have HF3 := zM (show reachFrom l (l.length - 1) 1 = volOkB nx l from by
    have h1 := HX.out
    have e : gk = 0 := by omega
    rw [e] at h1; exact h1.2)
   clear hl
   have HBl := zM (below_any wr gb nx (some ad) c l 1 (HV0.out.below HB.out))
   have hc1 := (HV0.out.below HB.out).c1
   go_wp2_with (go_at_call 35; refine HBl.out.mono ?_; rintro e w2 ⟨v, rfl, ho, hb⟩; obtain ⟨A5, c5, rfl, hr5⟩ := ownReads ho; have HR5 := zM hr5; have HBa := zM (zH HB.out HB.out.size hb); have hc1b := (HV0.out.below HBa.out).c1; obtain ⟨A1, cc1, ls, hls, hcut, hsub⟩ := HCut.out; have HLs := zM hls; have HLd := zM (show ls.length = l.length - 1 from (by rw [hls]; exact List.length_drop)); have hmS : ls.length ≤ 9223372036854775807 := (by have := HLd.out; omega); clear hls; have HSub := zM (fun W (hW : Below w1.heap.size w1 W) => hsub W (HV0.out.below hW).row); clear ho hb hr5 hsub)
   have HF4 := zM (show reachFrom l ls.length (0 + 1) = volOkB nx l from by rw [HLd.out]; exact HF3.out)
   clear hcut HB hc1 hc1b
   go_loopg [77] ls.length (fun kq v77 w' => ∃ (x : Nat), v77 = .int .i64 (x : Int) ∧ Aside0 (x + kq = ls.length ∧ reachFrom l kq (x + 1) = volOkB nx l) ∧ Aside0 (Below w1.heap.size w1 w') ∧ Aside0 (Below w2.heap.size w2 w'))
   case atStart => exact ⟨0, rfl, ⟨by omega, HF4.out⟩, HBa, ⟨Below.refl _ _⟩⟩
   case round =>
    clear HX
    obtain ⟨x, rfl, HX, HB, HB2⟩ := hrel
    have hl : gk ≤ ls.length ∧ x ≤ ls.length := by have := HX.out.1; omega
    by_cases hlt : x < ls.length
    ·cases gk with
     | zero => have := HX.out.1; omega
     | succ k1 =>
     obtain ⟨ad1, A6, c6, eA, hx0, hx1, hx2, hx3, hx4, hx5, hx6, hx7, hx8, hl6, hi6⟩ := at_T37 (HSub.out _ HB.out) (x : Int) (by omega) (by omega)
     subst eA
     have hxe : rd_T37 ls (x : Int) = iAt l (x + 1) := by
      have h1 := HLs.out
      subst h1
      rw [rd45 _ x hlt, drop_at l x hlt]
     rw [Int.toNat_natCast, hxe] at hx0 hx1 hx2 hx3 hx4 hx5 hx6 hx7 hx8
     have hmN : (iAt l (x + 1)).f6.length ≤ 9223372036854775807 := by rw [hxe] at hi6; exact hi6.2.1
     have HNF := zM (show reachFrom l (k1 + 1) (x + 1) = ((belowL l 1).contains (iAt l (x + 1)).f0 && !((iAt l (x + 1)).f1 == 2 && !(namedN l (iAt l (x + 1)).f0 == 1)) && reachFrom l k1 (x + 1 + 1)) from by
      rw [reachFrom, reachAtB])
     obtain ⟨xi, hxi⟩ : ∃ q, q = iAt l (x + 1) := ⟨_, rfl⟩
     rw [← hxi] at hx0 hx1 hx2 hx3 hx4 hx5 hx6 hx7 hx8 HNF hmN
     clear hxe hxi hl6 hi6 hl
     obtain ⟨f0, f1, f2, f3, f4, f5, f6, f7, f8⟩ := xi
     dsimp only at hx0 hx1 hx2 hx3 hx4 hx5 hx6 hx7 hx8 HNF hmN
     have HCt0 := fun W (hW : Below w2.heap.size w2 W) => contains_any W A5 c5 (belowL l 1) f0 (ReadsInt.below HR5.out hW)
     have HNm0 := fun W (hW : Below w1.heap.size w1 W) => named_any W gb nx (some ad) c l f0 (HV0.out.below hW)
     cases q1 : (belowL l 1).contains f0 with
     | false =>
      rw [q1] at HCt0
      have HCt := zM HCt0
      have HG := zM (show reachFrom l (k1 + 1) (x + 1) = false from by rw [HNF.out, q1]; rfl)
      clear HCt0 HNm0 q1
      go_wp2_with (go_at_call 36; refine (HCt.out _ (by repeat (first | exact HB2.out | apply zA | apply zN | apply zD))).mono ?_; rintro e w3 ⟨rfl, ⟨n, rfl⟩⟩)
      go_ret
      exact ⟨by rw [← HX.out.2, HG.out]; rfl, zH HBw.out HBw.out.size (by repeat (first | exact HB.out | apply zA | apply zN | apply zD))⟩
     | true =>
      rw [q1] at HCt0
      have HCt := zM HCt0
      cases q2 : (f1 == 2) with
      | false =>
       have HG := zM (show reachFrom l (k1 + 1) (x + 1) = reachFrom l k1 (x + 1 + 1) from by rw [HNF.out, q1, q2]; rfl)
       clear HCt0 HNm0 q1
       go_wp2_with (go_at_call 36; refine (HCt.out _ (by repeat (first | exact HB2.out | apply zA | apply zN | apply zD))).mono ?_; rintro e w3 ⟨rfl, ⟨n, rfl⟩⟩)
       go_roundg k1
       case measure => omega
       case rel => exact ⟨x + 1, by go_num, ⟨by have := HX.out.1; omega, by rw [← HX.out.2, HG.out]⟩, ⟨by repeat (first | exact HB.out | apply zA | apply zN | apply zD)⟩, ⟨by repeat (first | exact HB2.out | apply zA | apply zN | apply zD)⟩⟩
      | true =>
       have hNe : (namedN l f0 == 1) = (((namedN l f0 : Nat) : Int) == 1) := by
        apply Bool.eq_iff_iff.2; simp only [beq_iff_eq]; omega
       rw [hNe] at HNF
       clear hNe
       generalize ((namedN l f0 : Nat) : Int) = nn at HNF HNm0
       have HNm := zM HNm0
       cases q3 : (nn == 1) with
       | false =>
        have q3n : (nn != 1) = true := by rw [bne, q3]; rfl
        have HG := zM (show reachFrom l (k1 + 1) (x + 1) = false from by rw [HNF.out, q1, q2, q3]; rfl)
        clear HCt0 HNm0 q1
        go_wp2_with (first | (go_at_call 36; refine (HCt.out _ (by repeat (first | exact HB2.out | apply zA | apply zN | apply zD))).mono ?_; rintro e w3 ⟨rfl, ⟨n, rfl⟩⟩) | (go_at_call 37; refine (HNm.out _ (by repeat (first | exact HB.out | apply zA | apply zN | apply zD))).mono ?_; rintro e w3 ⟨rfl, hb⟩; have HBn := zM (zH (show Below w1.heap.size w1 _ from by repeat (first | exact HB.out | apply zA | apply zN | apply zD)) (zZ (show Below w1.heap.size w1 _ from by repeat (first | exact HB.out | apply zA | apply zN | apply zD))) hb); have HBm := zM (zH (show Below w2.heap.size w2 _ from by repeat (first | exact HB2.out | apply zA | apply zN | apply zD)) (zZ (show Below w2.heap.size w2 _ from by repeat (first | exact HB2.out | apply zA | apply zN | apply zD))) hb); clear hb))
        go_ret
        exact ⟨by rw [← HX.out.2, HG.out]; rfl, zH HBw.out HBw.out.size HBn.out⟩
       | true =>
        have q3n : (nn != 1) = false := by rw [bne, q3]; rfl
        have HG := zM (show reachFrom l (k1 + 1) (x + 1) = reachFrom l k1 (x + 1 + 1) from by rw [HNF.out, q1, q2, q3]; rfl)
        clear HCt0 HNm0 q1
        go_wp2_with (first | (go_at_call 36; refine (HCt.out _ (by repeat (first | exact HB2.out | apply zA | apply zN | apply zD))).mono ?_; rintro e w3 ⟨rfl, ⟨n, rfl⟩⟩) | (go_at_call 37; refine (HNm.out _ (by repeat (first | exact HB.out | apply zA | apply zN | apply zD))).mono ?_; rintro e w3 ⟨rfl, hb⟩; have HBn := zM (zH (show Below w1.heap.size w1 _ from by repeat (first | exact HB.out | apply zA | apply zN | apply zD)) (zZ (show Below w1.heap.size w1 _ from by repeat (first | exact HB.out | apply zA | apply zN | apply zD))) hb); have HBm := zM (zH (show Below w2.heap.size w2 _ from by repeat (first | exact HB2.out | apply zA | apply zN | apply zD)) (zZ (show Below w2.heap.size w2 _ from by repeat (first | exact HB2.out | apply zA | apply zN | apply zD))) hb); clear hb))
        go_roundg k1
        case measure => omega
        case rel => exact ⟨x + 1, by go_num, ⟨by have := HX.out.1; omega, by rw [← HX.out.2, HG.out]⟩, HBn, HBm⟩
    ·have HE := zM (show endB l = volOkB nx l from by
      have h1 := HX.out
      have e : gk = 0 := by omega
      rw [e] at h1; exact h1.2)
     have HT0 := total_any wr gb nx (some ad) c l (HV0.out.below HB.out)
     have HO0 := fun W (hW : Below w1.heap.size w1 W) => anyOver_any W gb nx (some ad) c l (HV0.out.below hW)
     have hTe : decide (totalN l ≤ 400) = decide (((totalN l : Nat) : Int) ≤ 400) := decide_eq_decide.2 (by omega)
     have HE2 := zM (show volOkB nx l = (decide (((totalN l : Nat) : Int) ≤ 400) && !(l.any (overB l))) from by rw [← HE.out, endB, hTe])
     clear hTe hl
     generalize ((totalN l : Nat) : Int) = tt at HT0 HE2
     have HTt := zM HT0
     cases q4 : decide (tt ≤ 400) with
     | false =>
      have HG := zM (show volOkB nx l = false from by rw [HE2.out, q4]; rfl)
      clear HT0 HO0
      go_wp2_with (go_at_call 38; refine HTt.out.mono ?_; rintro e w3 ⟨rfl, hb⟩; have HBn := zM (zH HB.out HB.out.size hb); clear hb)
      go_ret
      exact ⟨by rw [HG.out]; rfl, zH HBw.out HBw.out.size HBn.out⟩
     | true =>
      have HG := zM (show volOkB nx l = !(l.any (overB l)) from by rw [HE2.out, q4, Bool.true_and])
      generalize l.any (overB l) = ov at HO0 HG
      have HOv := zM HO0
      clear HT0 HO0
      go_wp2_with (first | (go_at_call 38; refine HTt.out.mono ?_; rintro e w3 ⟨rfl, hb⟩; have HBn := zM (zH HB.out HB.out.size hb); have hc9 := (HV0.out.below HBn.out).c1; clear hb) | (go_at_call 39; refine (HOv.out _ HBn.out).mono ?_; rintro e w4 ⟨rfl, hb⟩; have HBo := zM (zH HBn.out HBn.out.size hb); clear hb))
      go_ret
      exact ⟨by rw [HG.out]; rfl, zH HBw.out HBw.out.size HBo.out⟩
end
section
open Go.Proofs.YtiopcpkfjikfdaaGreatDoor.Mth Go.Proofs.YtiopcpkfjikfdaaGreatDoor.Str
theorem l1In_eq (a b c : Int) : spec_l1In.f a b c = some (decide (b ≤ a ∧ a ≤ c)) := by
 unfold spec_l1In.f
 by_cases h : a ≥ b
 ·rw [if_pos h]; have : b ≤ a := h; simp [this]
 ·rw [if_neg h]; have : ¬ b ≤ a := h; simp [this]
theorem byte_spec (x : Int) : spec_l2Byte.f x = some (nameByte x) := by
 unfold spec_l2Byte.f nameByte
 repeat' split
 all_goals (congr 1; apply Bool.eq_iff_iff.2; simp only [beq_iff_eq, decide_eq_true_eq, true_iff, false_iff, iff_true]; omega)
theorem name_spec_loop (s : ByteArray) (hs : s.size ≤ 8) : ∀ (d i : Nat), i + d = s.size → Ev (fun k => spec_NameOk.l0 k s (i : Int)) (((bytesOf s).drop i).all nameByte) := by
 intro d
 induction d with
 | zero =>
  intro i hi
  rw [all_end s _ i (by omega)]
  exact Ev.step (spec_NameOk.l0.eq_2 _ _) (ev_neg (by omega) (ev_now rfl))
 | succ d ih =>
  intro i hi
  rw [all_drop s _ i (by omega)]
  refine Ev.step (spec_NameOk.l0.eq_2 _ _) (ev_pos (by omega) (ev_pos (by omega) (ev_of (byte_spec _) ?_)))
  have e3 : wrap64 ((i : Int) + 1) = ((i + 1 : Nat) : Int) := w64 (by omega) (by omega)
  rw [e3]
  by_cases h : nameByte (bt s (i : Int)) = true
  ·rw [h, Bool.true_and]
   exact ev_pos rfl (ih (i + 1) (by omega))
  ·have h' : nameByte (bt s (i : Int)) = false := by simpa using h
   rw [h', Bool.false_and]
   exact ev_neg (by simp) (ev_now rfl)
theorem name_spec (s : ByteArray) : Ev (fun k => spec_NameOk.f k s) (nameOkL (bytesOf s)) := by
 unfold spec_NameOk.f nameOkL
 rw [bytesOf_length]
 by_cases h1 : 1 ≤ s.size ∧ s.size ≤ 8
 ·refine ev_of (l1In_eq _ _ _) (ev_pos (by simp; omega) ?_)
  have e1 := toList_iff s [46]
  have e2 := toList_iff s [46, 46]
  have m1 : ([46] : List UInt8).map (fun b => (b.toNat : Int)) = [46] := rfl
  have m2 : ([46, 46] : List UInt8).map (fun b => (b.toNat : Int)) = [46, 46] := rfl
  rw [m1] at e1; rw [m2] at e2
  by_cases c1 : bytesOf s = [46]
  ·refine ev_pos (e1.2 c1) ?_
   have : decide (1 ≤ s.size ∧ s.size ≤ 8 ∧ bytesOf s ≠ [46] ∧ bytesOf s ≠ [46, 46]) = false := by simp [c1]
   rw [this, Bool.false_and]
   exact Ev.step (spec_NameOk.j0.eq_2 _ _) (ev_pos rfl (ev_now rfl))
  ·refine ev_neg (fun h => c1 (e1.1 h)) ?_
   by_cases c2 : bytesOf s = [46, 46]
   ·have : decide (1 ≤ s.size ∧ s.size ≤ 8 ∧ bytesOf s ≠ [46] ∧ bytesOf s ≠ [46, 46]) = false := by simp [c2]
    rw [this, Bool.false_and]
    exact Ev.step (spec_NameOk.j0.eq_2 _ _) (ev_pos (beq_iff_eq.2 (e2.2 c2)) (ev_now rfl))
   ·have : decide (1 ≤ s.size ∧ s.size ≤ 8 ∧ bytesOf s ≠ [46] ∧ bytesOf s ≠ [46, 46]) = true := by simp [c1, c2, h1]
    rw [this, Bool.true_and]
    refine Ev.step (spec_NameOk.j0.eq_2 _ _) (ev_neg (fun h => c2 (e2.1 (beq_iff_eq.1 h))) ?_)
    have := name_spec_loop s h1.2 s.size 0 (by omega)
    simpa using this
 ·have : decide (1 ≤ s.size ∧ s.size ≤ 8 ∧ bytesOf s ≠ [46] ∧ bytesOf s ≠ [46, 46]) = false := by
   apply zG; rintro ⟨a, b, _⟩; exact h1 ⟨a, b⟩
  rw [this, Bool.false_and]
  refine ev_of (l1In_eq _ _ _) (ev_neg (by simp; omega) ?_)
  exact Ev.step (spec_NameOk.j0.eq_2 _ _) (ev_pos rfl (ev_now rfl))
theorem target_spec_loop (s : ByteArray) (hs : s.size ≤ 140737488351232) : ∀ (d i : Nat), i + d = s.size → Ev (fun k => spec_l4Target.l0 k s (i : Int)) (((bytesOf s).drop i).all slashByte) := by
 intro d
 induction d with
 | zero =>
  intro i hi
  rw [all_end s _ i (by omega)]
  exact Ev.step (spec_l4Target.l0.eq_2 _ _) (ev_neg (by omega) (ev_now rfl))
 | succ d ih =>
  intro i hi
  rw [all_drop s _ i (by omega)]
  refine Ev.step (spec_l4Target.l0.eq_2 _ _) (ev_pos (by omega) (ev_pos (by omega) ?_))
  have e3 : wrap64 ((i : Int) + 1) = ((i + 1 : Nat) : Int) := w64 (by omega) (by omega)
  rw [e3]
  unfold slashByte
  by_cases h47 : bt s (i : Int) = 47
  ·refine ev_pos h47 ?_
   rw [h47]
   have := ih (i + 1) (by omega)
   unfold slashByte at this
   simpa using this
  ·refine ev_neg h47 (ev_of (byte_spec _) ?_)
   rw [zG h47, Bool.false_or]
   by_cases h : nameByte (bt s (i : Int)) = true
   ·rw [h, Bool.true_and]
    exact ev_pos rfl (ih (i + 1) (by omega))
   ·have h' : nameByte (bt s (i : Int)) = false := by simpa using h
    rw [h', Bool.false_and]
    exact ev_neg (by simp) (ev_now rfl)
theorem target_spec (s : ByteArray) (hs : s.size ≤ 140737488351232) : Ev (fun k => spec_l4Target.f k s) (targetL (bytesOf s)) := by
 unfold spec_l4Target.f targetL
 rw [bytesOf_length]
 refine ev_of (l1In_eq _ _ _) ?_
 by_cases h : 1 ≤ s.size ∧ s.size ≤ 60
 ·rw [zE h, Bool.true_and]
  have := target_spec_loop s hs s.size 0 (by omega)
  exact ev_pos (by simp; omega) (by simpa using this)
 ·rw [zG h, Bool.false_and]
  exact ev_neg (by simp; omega) (ev_now rfl)
def atV (l : List S37) (id : Int) : Int := if inoI l id < l.length then (inoI l id : Int) else -1
theorem at_loop (nx : Int) (l : List S37) (hl : l.length ≤ 1048576) (id : Int) : ∀ (d i : Nat), i + d = l.length → (∀ j (hj : j < l.length), j < i → l[j].f0 ≠ id) → Ev (fun k => spec_l4At.l0 k id (i : Int) nx l) (atV l id) := by
 intro d
 induction d with
 | zero =>
  intro i hi h0
  have e : inoI l id = l.length := inoI_no l id (fun j hj => h0 j hj (by omega))
  have e2 : atV l id = -1 := by unfold atV; rw [if_neg (by omega)]
  rw [e2]
  exact Ev.step (spec_l4At.l0.eq_2 _ _ _ _) (ev_neg (by omega) (ev_now rfl))
 | succ d ih =>
  intro i hi h0
  have hlt : i < l.length := by omega
  have e3 : wrap64 ((i : Int) + 1) = ((i + 1 : Nat) : Int) := w64 (by omega) (by omega)
  refine Ev.step (spec_l4At.l0.eq_2 _ _ _ _) (ev_pos (by omega) (ev_pos (by omega) ?_))
  rw [rd45 l i hlt, e3]
  by_cases h : l[i].f0 = id
  ·have e : inoI l id = i := inoI_yes l id i hlt h (fun j hj => h0 j (by omega) hj)
   have e2 : atV l id = i := by unfold atV; rw [if_pos (by omega), e]
   rw [e2]
   exact ev_pos h (ev_now rfl)
  ·exact ev_neg h (ih (i + 1) (by omega) (fun j hj hji => by
    by_cases e : j = i
    ·subst e; exact h
    ·exact h0 j hj (by omega)))
theorem at_ev (nx : Int) (l : List S37) (hl : l.length ≤ 1048576) (id : Int) : Ev (fun k => spec_l4At.f k nx l id) (atV l id) := by
 unfold spec_l4At.f
 exact at_loop nx l hl id l.length 0 (by omega) (fun j _ hj => absurd hj (by omega))
theorem named_loop1 (nx : Int) (l : List S37) (id : Int) (x : Nat) (hx : x < l.length) (hx0 : l.length ≤ 1048576) (hd : l[x].f6.length ≤ 1048576) {R : Int} : ∀ (d y n : Nat), y + d = l[x].f6.length → n + d ≤ 2000000000000 →
  Ev (fun k => spec_l4Named.l0 k id ((n + cntD id (l[x].f6.drop y) : Nat) : Int) ((x + 1 : Nat) : Int) nx l) R → Ev (fun k => spec_l4Named.l1 k id (n : Int) (x : Int) (y : Int) nx l) R := by
 intro d
 induction d with
 | zero =>
  intro y n hy hn H
  have e3 : wrap64 ((x : Int) + 1) = ((x + 1 : Nat) : Int) := w64 (by omega) (by omega)
  refine Ev.step (spec_l4Named.l1.eq_2 _ _ _ _ _ _) (ev_pos (by omega) (ev_pos (by omega) ?_))
  rw [rd45 l x hx, e3]
  refine ev_neg (by omega) ?_
  rw [List.drop_of_length_le (by omega)] at H
  exact H
 | succ d ih =>
  intro y n hy hn H
  have hyt : y < l[x].f6.length := by omega
  have e3 : wrap64 ((y : Int) + 1) = ((y + 1 : Nat) : Int) := w64 (by omega) (by omega)
  have e4 : wrap64 ((n : Int) + 1) = ((n + 1 : Nat) : Int) := w64 (by omega) (by omega)
  refine Ev.step (spec_l4Named.l1.eq_2 _ _ _ _ _ _) (ev_pos (by omega) (ev_pos (by omega) ?_))
  rw [rd45 l x hx, rd68 _ y hyt, e3, e4]
  have hs : cntD id (l[x].f6.drop y) = (if l[x].f6[y].f1 = id then 1 else 0) + cntD id (l[x].f6.drop (y + 1)) := by
   rw [List.drop_eq_getElem_cons hyt]
   unfold cntD
   rw [List.filter_cons]
   by_cases e : l[x].f6[y].f1 = id <;> simp [e, Nat.add_comm]
  rw [hs] at H
  refine ev_pos (by omega) (ev_pos (by omega) ?_)
  by_cases e : l[x].f6[y].f1 = id
  ·rw [if_pos e] at H
   exact ev_pos e (ih (y + 1) (n + 1) (by omega) (by omega) (by rw [show n + 1 + cntD id (l[x].f6.drop (y + 1)) = n + (1 + cntD id (l[x].f6.drop (y + 1))) from by omega]; exact H))
  ·rw [if_neg e, Nat.zero_add] at H
   exact ev_neg e (ih (y + 1) n (by omega) (by omega) H)
theorem named_loop0 (nx : Int) (l : List S37) (hs : volSmall l) (id : Int) : ∀ (d x : Nat), x + d = l.length → Ev (fun k => spec_l4Named.l0 k id ((namedN (l.take x) id : Nat) : Int) (x : Int) nx l) ((namedN l id : Nat) : Int) := by
 have hl := hs.1
 intro d
 induction d with
 | zero =>
  intro x hx
  rw [show l.take x = l from List.take_of_length_le (by omega)]
  exact Ev.step (spec_l4Named.l0.eq_2 _ _ _ _ _) (ev_neg (by omega) (ev_now rfl))
 | succ d ih =>
  intro x hx
  have hlt : x < l.length := by omega
  have h6 := hs.2.1 _ (List.getElem_mem hlt)
  have hn := namedN_le id (l.take x) (fun z hz => hs.2.1 z (List.mem_of_mem_take hz))
  rw [List.length_take] at hn
  refine Ev.step (spec_l4Named.l0.eq_2 _ _ _ _ _) (ev_pos (by omega) ?_)
  refine named_loop1 nx l id x hlt hl h6 l[x].f6.length 0 _ (by omega) (by omega) ?_
  rw [List.drop_zero, ← namedN_snoc l id x hlt]
  exact ih (x + 1) (by omega)
theorem named_ev (nx : Int) (l : List S37) (hs : volSmall l) (id : Int) : Ev (fun k => spec_l4Named.f k nx l id) ((namedN l id : Nat) : Int) := by
 unfold spec_l4Named.f
 exact named_loop0 nx l hs id l.length 0 (by omega)
theorem bytes_loop (nx : Int) (l : List S37) (hs : volSmall l) : ∀ (d x : Nat), x + d = l.length → Ev (fun k => spec_l4Bytes.l0 k ((totalN (l.take x) : Nat) : Int) (x : Int) nx l) ((totalN l : Nat) : Int) := by
 have hl := hs.1
 intro d
 induction d with
 | zero =>
  intro x hx
  rw [show l.take x = l from List.take_of_length_le (by omega)]
  exact Ev.step (spec_l4Bytes.l0.eq_2 _ _ _ _) (ev_neg (by omega) (ev_now rfl))
 | succ d ih =>
  intro x hx
  have hlt : x < l.length := by omega
  have h6 := hs.2.2.1 _ (List.getElem_mem hlt)
  have hn := totalN_le (l.take x) (fun z hz => hs.2.2.1 z (List.mem_of_mem_take hz))
  rw [List.length_take] at hn
  refine Ev.step (spec_l4Bytes.l0.eq_2 _ _ _ _) (ev_pos (by omega) (ev_pos (by omega) ?_))
  rw [rd45 l x hlt, w64 (n := (x : Int) + 1) (by omega) (by omega), w64 (n := ((totalN (l.take x) : Nat) : Int) + (l[x].f5.size : Int)) (by omega) (by omega)]
  have h := ih (x + 1) (by omega)
  rw [totalN_snoc l x hlt] at h
  exact h
theorem bytes_ev (nx : Int) (l : List S37) (hs : volSmall l) : Ev (fun k => spec_l4Bytes.f k nx l) ((totalN l : Nat) : Int) := by
 unfold spec_l4Bytes.f
 exact bytes_loop nx l hs l.length 0 (by omega)
def markD (l : List S37) (st : List Bool × List Bool) (d : S59) : List Bool × List Bool := if inoI l d.f1 < l.length then (st.1.set (inoI l d.f1) true, st.2.set (inoI l d.f1) true) else st
def markDs (l : List S37) (st : List Bool × List Bool) (ds : List S59) : List Bool × List Bool := ds.foldl (markD l) st
def rowS (l : List S37) (st : List Bool × List Bool) (i : Nat) : List Bool × List Bool := if st.2.getD i false = true then markDs l st (iAt l i).f6 else st
def passFrom (l : List S37) : Nat → Nat → List Bool × List Bool → List Bool × List Bool
 | 0, _, st => st
 | d + 1, i, st => passFrom l d (i + 1) (rowS l st i)
def passes (l : List S37) : Nat → List Bool × List Bool → List Bool × List Bool
 | 0, st => st
 | d + 1, st => passes l d (passFrom l l.length 0 st)
def belowBits (l : List S37) (id : Int) : List Bool := if inoI l id < l.length then (passes l l.length (List.replicate l.length false, (List.replicate l.length false).set (inoI l id) true)).1 else List.replicate l.length false
def Len2 (l : List S37) (st : List Bool × List Bool) : Prop := st.1.length = l.length ∧ st.2.length = l.length
theorem markD_len {l : List S37} {st : List Bool × List Bool} (h : Len2 l st) (d : S59) : Len2 l (markD l st d) := by
 unfold markD
 split
 ·exact ⟨by rw [List.length_set]; exact h.1, by rw [List.length_set]; exact h.2⟩
 ·exact h
theorem markDs_len {l : List S37} : ∀ (ds : List S59) {st : List Bool × List Bool}, Len2 l st → Len2 l (markDs l st ds)
 | [], _, h => h
 | d :: ds, _, h => by
  unfold markDs
  rw [List.foldl_cons]
  exact markDs_len ds (markD_len h d)
theorem rowS_len {l : List S37} {st : List Bool × List Bool} (h : Len2 l st) (i : Nat) : Len2 l (rowS l st i) := by
 unfold rowS
 split
 ·exact markDs_len _ h
 ·exact h
theorem passFrom_len {l : List S37} : ∀ (d i : Nat) {st : List Bool × List Bool}, Len2 l st → Len2 l (passFrom l d i st)
 | 0, _, _, h => h
 | d + 1, i, _, h => passFrom_len d (i + 1) (rowS_len h i)
theorem passes_len {l : List S37} : ∀ (d : Nat) {st : List Bool × List Bool}, Len2 l st → Len2 l (passes l d st)
 | 0, _, h => h
 | d + 1, _, h => passes_len d (passFrom_len _ _ h)
theorem belowBits_len (l : List S37) (id : Int) : (belowBits l id).length = l.length := by
 unfold belowBits
 split
 ·exact (passes_len l.length (st := (List.replicate l.length false, (List.replicate l.length false).set (inoI l id) true)) ⟨by simp, by simp⟩).1
 ·simp
theorem rdB (l : List Bool) (i : Nat) : rdOf false l (i : Int) = l.getD i false := by unfold rdOf; rw [Int.toNat_natCast]
def useFrom (l : List S37) (bs : List Bool) : Nat → Nat → Nat × Nat → Nat × Nat
 | 0, _, p => p
 | d + 1, i, p => useFrom l bs d (i + 1) (if bs.getD i false = true then (p.1 + (iAt l i).f5.size, p.2 + 1) else p)
def useS (l : List S37) (id : Int) : Nat × Nat := useFrom l (belowBits l id) l.length 0 (0, 0)
def overAtS (l : List S37) (x : S37) : Bool := x.f1 == 2 && (!(x.f7 == 0 && x.f8 == 0) && overV x.f7 x.f8 (((useS l x.f0).1 : Nat) : Int) (((useS l x.f0).2 : Nat) : Int))
def overFrom (l : List S37) : Nat → Nat → Bool
 | 0, _ => false
 | d + 1, i => overAtS l (iAt l i) || overFrom l d (i + 1)
end
end Go.Proofs.YtiopcpkfjikfdaaGreatDoor.PFnClean
