/- Written by a program of mine (qprint.py, over the kit's print.py, and texts by hand) for the law FnExactWalk: the functions that it reaches, as Lean functions, and that the program answers as they do. -/
import Derived.Test.YtiopcpkfjikfdaaDoorQFnExactWalkx0
import Derived.Test.YtiopcpkfjikfdaaDoorQFnExactWalkx2
namespace Go.Proofs.YtiopcpkfjikfdaaDoor.PFnExactWalk
open Go.RowKit Go.Proofs.YtiopcpkfjikfdaaDoorW.PrintWords Go.Proofs.YtiopcpkfjikfdaaDoorW.PrintLast Go.Proofs.YtiopcpkfjikfdaaDoorW.PrintMore
attribute [local go_sem] max2_int min2_int max_two min_two max_three min_three max_four min_four   -- for this text's walks alone
set_option linter.unusedVariables false
set_option linter.unusedSimpArgs false

/-! ### spec_l4Below: function 59 -/
mutual
def spec_l4Below.l0 : Nat → List Bool → List Bool → Int → Int → List (S90) → Option (List Bool)
 | 0, _, _, _, _, _ => none
 | k + 1, x5, x6, x8, x125000, x125001 => if x8 < (x125001.length : Int) then (spec_l4Below.l1 k x5 x6 x8 0 x125000 x125001) else (some x5)
def spec_l4Below.l1 : Nat → List Bool → List Bool → Int → Int → Int → List (S90) → Option (List Bool)
 | 0, _, _, _, _, _, _ => none
 | k + 1, x5, x6, x8, x9, x125000, x125001 => if x9 < (x125001.length : Int) then (if 0 ≤ x9 then (if x9 < (x6.length : Int) then (if rdOf false x6 x9 = true then (spec_l4Below.l2 k x5 x6 x8 x9 0 x125000 x125001) else (spec_l4Below.l1 k x5 x6 x8 (wrap64 (x9 + 1)) x125000 x125001)) else (none)) else (none)) else (spec_l4Below.l0 k x5 x6 (wrap64 (x8 + 1)) x125000 x125001)
def spec_l4Below.l2 : Nat → List Bool → List Bool → Int → Int → Int → Int → List (S90) → Option (List Bool)
 | 0, _, _, _, _, _, _, _ => none
 | k + 1, x5, x6, x8, x9, x10, x125000, x125001 => if 0 ≤ x9 then (if x9 < (x125001.length : Int) then (if x10 < (((rd_T90 x125001 x9).f6).length : Int) then (if 0 ≤ x10 then ((spec_l4At.f k x125000 x125001 ((rd_T117 ((rd_T90 x125001 x9).f6) x10).f1)).bind fun t137 => (if t137 ≥ 0 then (if 0 ≤ t137 then (if t137 < (x5.length : Int) then (if t137 < (x6.length : Int) then (spec_l4Below.l2 k (x5.set (t137 : Int).toNat true) (x6.set (t137 : Int).toNat true) x8 x9 (wrap64 (x10 + 1)) x125000 x125001) else (none)) else (none)) else (none)) else (spec_l4Below.l2 k x5 x6 x8 x9 (wrap64 (x10 + 1)) x125000 x125001))) else (none)) else (spec_l4Below.l1 k x5 x6 x8 (wrap64 (x9 + 1)) x125000 x125001)) else (none)) else (none)
end
def spec_l4Below.f (k : Nat) (a0_0 : Int) (l0_1 : List (S90)) (a1 : Int) : Option (List Bool) := if 0 ≤ (l0_1.length : Int) then (if ((l0_1.length : Int) : Int).toNat ≤ 281474976710656 then ((some (List.replicate ((l0_1.length : Int) : Int).toNat false : List Bool)).bind fun y125 => ((some (List.replicate ((l0_1.length : Int) : Int).toNat false : List Bool)).bind fun y128 => ((spec_l4At.f k a0_0 l0_1 a1).bind fun t131 => (if t131 < 0 then (some y125) else (if 0 ≤ t131 then (if t131 < (y128.length : Int) then (spec_l4Below.l0 k y125 (y128.set (t131 : Int).toNat true) 0 a0_0 l0_1) else (none)) else (none)))))) else (none)) else (none)
theorem spec_l4Below.mono_l : ∀ k, (∀ y0 y1 y2 y3 y4, LeO (spec_l4Below.l0 k y0 y1 y2 y3 y4) (spec_l4Below.l0 (k + 1) y0 y1 y2 y3 y4)) ∧ (∀ y0 y1 y2 y3 y4 y5, LeO (spec_l4Below.l1 k y0 y1 y2 y3 y4 y5) (spec_l4Below.l1 (k + 1) y0 y1 y2 y3 y4 y5)) ∧ (∀ y0 y1 y2 y3 y4 y5 y6, LeO (spec_l4Below.l2 k y0 y1 y2 y3 y4 y5 y6) (spec_l4Below.l2 (k + 1) y0 y1 y2 y3 y4 y5 y6))
 | 0 => ⟨fun _ _ _ _ _ r h => by simp [spec_l4Below.l0] at h, fun _ _ _ _ _ _ r h => by simp [spec_l4Below.l1] at h, fun _ _ _ _ _ _ _ r h => by simp [spec_l4Below.l2] at h⟩
 | k + 1 => by
  obtain ⟨ih0, ih1, ih2⟩ := spec_l4Below.mono_l k
  refine ⟨?_, ?_, ?_⟩
  ·intro y0 y1 y2 y3 y4
   unfold spec_l4Below.l0
   repeat' first | (with_reducible exact ih0 _ _ _ _ _) | (with_reducible exact ih1 _ _ _ _ _ _) | (with_reducible exact ih2 _ _ _ _ _ _ _) | (with_reducible exact spec_l4At.mono _ _ _ _) | (with_reducible exact LeO.refl _) | (with_reducible exact LeO.none _) | (with_reducible refine LeO.ite ?_ ?_) | (with_reducible refine LeO.bind ?_ (fun _ => ?_)) | exact LeO.none _ | refine LeO.ite ?_ ?_ | refine LeO.bind ?_ (fun _ => ?_)
  ·intro y0 y1 y2 y3 y4 y5
   unfold spec_l4Below.l1
   repeat' first | (with_reducible exact ih0 _ _ _ _ _) | (with_reducible exact ih1 _ _ _ _ _ _) | (with_reducible exact ih2 _ _ _ _ _ _ _) | (with_reducible exact spec_l4At.mono _ _ _ _) | (with_reducible exact LeO.refl _) | (with_reducible exact LeO.none _) | (with_reducible refine LeO.ite ?_ ?_) | (with_reducible refine LeO.bind ?_ (fun _ => ?_)) | exact LeO.none _ | refine LeO.ite ?_ ?_ | refine LeO.bind ?_ (fun _ => ?_)
  ·intro y0 y1 y2 y3 y4 y5 y6
   unfold spec_l4Below.l2
   repeat' first | (with_reducible exact ih0 _ _ _ _ _) | (with_reducible exact ih1 _ _ _ _ _ _) | (with_reducible exact ih2 _ _ _ _ _ _ _) | (with_reducible exact spec_l4At.mono _ _ _ _) | (with_reducible exact LeO.refl _) | (with_reducible exact LeO.none _) | (with_reducible refine LeO.ite ?_ ?_) | (with_reducible refine LeO.bind ?_ (fun _ => ?_)) | exact LeO.none _ | refine LeO.ite ?_ ?_ | refine LeO.bind ?_ (fun _ => ?_)
theorem spec_l4Below.mono : ∀ a0 a1 a2 k, LeO (spec_l4Below.f k a0 a1 a2) (spec_l4Below.f (k + 1) a0 a1 a2) := by
 intro a0 a1 a2 k
 obtain ⟨ih0, ih1, ih2⟩ := spec_l4Below.mono_l k
 unfold spec_l4Below.f
 repeat' first | (with_reducible exact ih0 _ _ _ _ _) | (with_reducible exact ih1 _ _ _ _ _ _) | (with_reducible exact ih2 _ _ _ _ _ _ _) | (with_reducible exact spec_l4At.mono _ _ _ _) | (with_reducible exact LeO.refl _) | (with_reducible exact LeO.none _) | (with_reducible refine LeO.ite ?_ ?_) | (with_reducible refine LeO.bind ?_ (fun _ => ?_)) | exact LeO.none _ | refine LeO.ite ?_ ?_ | refine LeO.bind ?_ (fun _ => ?_)
def spec_l4Below.T17 : Bool × List (List Nat × List Nat) := (true, [([], []), ([], []), ([1], [1]), ([], []), ([2, 3], [2, 3]), ([4], [4]), ([5], [5]), ([], []), ([6, 7], [6, 7]), ([8], [8]), ([9], [9]), ([0, 10], [0, 10]), ([11, 11, 0, 1, 2, 3, 4, 5, 6, 7, 8, 9, 10, 11], [11])])
def spec_l4Below.B17 : List Nat := [0, 0, 2, 0, 14, 30, 62, 0, 254, 510, 1022, 2047, 4095]
theorem spec_l4Below.tab17 : rtab .any (opsOf Tryd.f59 17) = spec_l4Below.T17 := by kernel_rfl
theorem spec_l4Below.bits17 : waitsOk spec_l4Below.T17.2 spec_l4Below.B17 = true := by kernel_rfl
set_option maxHeartbeats 8000000 in
set_option maxRecDepth 100000 in
theorem spec_l4Below.calls (k : Nat) (a0_0 : Int) (A0_1 : Option Addr) (c0_1 : Nat) (l0_1 : List (S90)) (a1 : Int) (r : List Bool) (w : World) (hr0_1 : Kd.C k90 w A0_1 l0_1.length l0_1) (hc0_1 : l0_1.length ≤ c0_1) (h : spec_l4Below.f k a0_0 l0_1 a1 = some r) :
  Calls Tryd.prog 59 #[.agg #[.int .i64 a0_0, .slice A0_1 l0_1.length c0_1], .int .i64 a1] w fun e w' => ∃ v0_ : Value, e = .returned (v0_) ∧ Kd.R Kd.bool 4 w' w.heap.size (fun _ => True) v0_ r ∧ Below w.heap.size w w' := by
 have hu45 := Tryd.underlying45
 have HR0_1 := zM hr0_1
 have HC0_1 := zM hc0_1
 clear hr0_1 hc0_1
 have HB := zM (Below.refl w.heap.size w)
 have H : (if 0 ≤ (l0_1.length : Int) then (if ((l0_1.length : Int) : Int).toNat ≤ 281474976710656 then ((some (List.replicate ((l0_1.length : Int) : Int).toNat false : List Bool)).bind fun y125 => ((some (List.replicate ((l0_1.length : Int) : Int).toNat false : List Bool)).bind fun y128 => ((spec_l4At.f k a0_0 l0_1 a1).bind fun t131 => (if t131 < 0 then (some y125) else (if 0 ≤ t131 then (if t131 < (y128.length : Int) then (spec_l4Below.l0 k y125 (y128.set (t131 : Int).toNat true) 0 a0_0 l0_1) else (none)) else (none)))))) else (none)) else (none)) = some r := h
 clear h
 by_cases c3 : 0 ≤ (l0_1.length : Int)
 rotate_left
 ·rw [if_neg c3] at H
  exact absurd H (by simp)

 rw [if_pos c3] at H
 have c3b0 := eq_true c3
 have c3b1 : decide (0 ≤ (l0_1.length : Int)) = true := zE c3
 clear c3
 by_cases c4 : ((l0_1.length : Int) : Int).toNat ≤ 281474976710656
 rotate_left
 ·rw [if_neg c4] at H
  exact absurd H (by simp)
 rw [if_pos c4] at H
 have c4b0 := eq_true c4
 have c4b1 : decide (((l0_1.length : Int) : Int).toNat ≤ 281474976710656) = true := zE c4
 clear c4
 obtain ⟨y125, hy125⟩ : ∃ y_ : List Bool, y_ = (List.replicate ((l0_1.length : Int) : Int).toNat false) := ⟨_, rfl⟩
 replace H : ((some (List.replicate ((l0_1.length : Int) : Int).toNat false : List Bool)).bind fun y128 => ((spec_l4At.f k a0_0 l0_1 a1).bind fun t131 => (if t131 < 0 then (some y125) else (if 0 ≤ t131 then (if t131 < (y128.length : Int) then (spec_l4Below.l0 k y125 (y128.set (t131 : Int).toNat true) 0 a0_0 l0_1) else (none)) else (none))))) = some r := by first | (rw [hy125]; with_reducible exact H) | (have H2_ := (Option.bind_some _ _).symm.trans H; rw [hy125]; with_reducible exact H2_) | (have H2_ := (Option.bind_some _ _).symm.trans H; with_reducible exact H2_) | with_reducible exact H | (rw [hy125]; exact H) | exact H
 have Ny125 := zM hy125
 clear hy125
 obtain ⟨y128, hy128⟩ : ∃ y_ : List Bool, y_ = (List.replicate ((l0_1.length : Int) : Int).toNat false) := ⟨_, rfl⟩
 replace H : ((spec_l4At.f k a0_0 l0_1 a1).bind fun t131 => (if t131 < 0 then (some y125) else (if 0 ≤ t131 then (if t131 < (y128.length : Int) then (spec_l4Below.l0 k y125 (y128.set (t131 : Int).toNat true) 0 a0_0 l0_1) else (none)) else (none)))) = some r := by first | (rw [hy128]; with_reducible exact H) | (have H2_ := (Option.bind_some _ _).symm.trans H; rw [hy128]; with_reducible exact H2_) | (have H2_ := (Option.bind_some _ _).symm.trans H; with_reducible exact H2_) | with_reducible exact H | (rw [hy128]; exact H) | exact H
 have Ny128 := zM hy128
 clear hy128
 replace H := Option.bind_eq_some_iff.mp H
 obtain ⟨t131, A50, H⟩ := H
 replace H : (if t131 < 0 then (some y125) else (if 0 ≤ t131 then (if t131 < (y128.length : Int) then (spec_l4Below.l0 k y125 (y128.set (t131 : Int).toNat true) 0 a0_0 l0_1) else (none)) else (none))) = some r := H
 have A5 := zM A50
 clear A50
 by_cases c6 : t131 < 0
 ·rw [if_pos c6] at H
  have c6b0 : decide (t131 < 0) = true := zE c6
  clear c6
  obtain rfl := zI H
  go_enter Tryd.func59, Tryd.ntmps59
  go_wp2_with (first | ((with_reducible refine gate_dst (N := 2) rfl ?_); refine box_event ?hg (N := 2) ?hd (cs := #[.int .i64 a0_0, .slice A0_1 l0_1.length c0_1]) (t := 45) ?hr ?_; (case hd => rfl); (case hg => rfl); (case hr => first | (go_simp; done) | (go_simp; rfl)); intro gb124 hg w7 hbox hb; have n0_ := zM (zP (by repeat (first | exact HB.out | apply zA | apply zN | apply zD)) hb); have n1_ := zM (hbox); have n2_ := zM ((by rw [hg]; exact (zZ (by repeat (first | exact HB.out | apply zA | apply zN | apply zD))) : w.heap.size ≤ gb124)); have n3_ := zM ((by rw [hg]; exact (zZ (by repeat (first | exact HB.out | apply zA | apply zN | apply zD))) : w.heap.size ≤ gb124)); clear HB; have HB := n0_; have BK124 := n1_; have GW124 := n2_; have GE124 := n3_; clear n0_ n1_ n2_ n3_; clear hb hbox hg; have hcz8_0 : w7.cell? ⟨gb124, 0, none⟩ = some (.int .i64 a0_0) := (zC BK124.out 0).trans rfl; have hcz8_1 : w7.cell? ⟨gb124, 1, none⟩ = some (.slice A0_1 l0_1.length c0_1) := (zC BK124.out 1).trans rfl; have hfz8_0 := zF BK124.out 0; have hfz8_1 := zF BK124.out 1) | ((with_reducible refine gate_dst (N := 15) rfl ?_); refine Kd.R_make Kd.bool _ 4 rfl (N := 15) rfl 92 _ _ rfl (l0_1.length : Int) rfl rfl Tryd.underlying92 (.bool false) 1 info4 rfl (by decide) (by omega) false (ok := fun _ => True) (okp := fun _ => True) rfl (fun _ hk => hk) trivial (zO (by first | (with_reducible assumption) | assumption)) (Nat.le_trans (Nat.mul_le_mul_right _ (zO (by first | (with_reducible assumption) | assumption) : (l0_1.length : Int).toNat ≤ 281474976710656)) (by omega)) (Below.refl _ _) (Nat.le_refl _) ?_; intro v126 w9 ho10 hb hg_ hnew_; clear hg_ hnew_; (first | rw [← Ny125.out] at ho10 | (simp only [Int.reduceToNat] at ho10; rw [← Ny125.out] at ho10)); have n0_ := zM (Kd.R_lower ho10 (zZ (by repeat (first | exact HB.out | apply zA | apply zN | apply zD | refine zS ?_ GE124.out)))); have n1_ := zM (zL (g := gb124) (o := .cells #[.int .i64 a0_0, .slice A0_1 l0_1.length c0_1] 45 (0, 0)) (by (with_reducible repeat (first | refine zK ?_ _ | refine zW ?_ | refine zB ?_ _)); exact BK124.out) hb); have n2_ := zM (zP (by repeat (first | exact HB.out | apply zA | apply zN | apply zD | refine zS ?_ GE124.out)) hb); clear BK124; clear HB; have HO127 := n0_; have BK124 := n1_; have HB := n2_; clear n0_ n1_ n2_; clear hb ho10; have hcz11_0 : w9.cell? ⟨gb124, 0, none⟩ = some (.int .i64 a0_0) := (zC BK124.out 0).trans rfl; have hcz11_1 : w9.cell? ⟨gb124, 1, none⟩ = some (.slice A0_1 l0_1.length c0_1) := (zC BK124.out 1).trans rfl; have hfz11_0 := zF BK124.out 0; have hfz11_1 := zF BK124.out 1) | ((with_reducible refine gate_dst (N := 19) rfl ?_); refine Kd.R_make Kd.bool _ 4 rfl (N := 19) rfl 92 _ _ rfl (l0_1.length : Int) rfl rfl Tryd.underlying92 (.bool false) 1 info4 rfl (by decide) (by omega) false (ok := fun _ => True) (okp := fun _ => True) rfl (fun _ hk => hk) trivial (zO (by first | (with_reducible assumption) | assumption)) (Nat.le_trans (Nat.mul_le_mul_right _ (zO (by first | (with_reducible assumption) | assumption) : (l0_1.length : Int).toNat ≤ 281474976710656)) (by omega)) (Below.refl _ _) (Nat.le_refl _) ?_; intro v129 w12 ho13 hb hg_ hnew_; clear hg_ hnew_; (first | rw [← Ny128.out] at ho13 | (simp only [Int.reduceToNat] at ho13; rw [← Ny128.out] at ho13)); have n0_ := zM (Kd.R_elder' (by (with_reducible repeat (first | apply Kd.R_alloc | apply Kd.R_drewN | apply Kd.R_drew)); exact HO127.out) (Kd.R_base ho13) hb); have n1_ := zM (Kd.R_lower (Kd.R_new' ho13 (Kd.R_lt (by (with_reducible repeat (first | apply Kd.R_alloc | apply Kd.R_drewN | apply Kd.R_drew)); exact HO127.out))) (zZ (by repeat (first | exact HB.out | apply zA | apply zN | apply zD | refine zS ?_ GE124.out)))); have n2_ := zM (zL (g := gb124) (o := .cells #[.int .i64 a0_0, .slice A0_1 l0_1.length c0_1] 45 (0, 0)) (by (with_reducible repeat (first | refine zK ?_ _ | refine zW ?_ | refine zB ?_ _)); exact BK124.out) hb); have n3_ := zM (zP (by repeat (first | exact HB.out | apply zA | apply zN | apply zD | refine zS ?_ GE124.out)) hb); clear HO127; clear BK124; clear HB; have HO127 := n0_; have HO130 := n1_; have BK124 := n2_; have HB := n3_; clear n0_ n1_ n2_ n3_; clear hb ho13; have hcz14_0 : w12.cell? ⟨gb124, 0, none⟩ = some (.int .i64 a0_0) := (zC BK124.out 0).trans rfl; have hcz14_1 : w12.cell? ⟨gb124, 1, none⟩ = some (.slice A0_1 l0_1.length c0_1) := (zC BK124.out 1).trans rfl; have hfz14_0 := zF BK124.out 0; have hfz14_1 := zF BK124.out 1) | ((with_reducible refine gate_callee (f := 65) rfl ?_); refine goesL_ (some 22) rfl rfl Tryd.func65 (by kernel_rfl) rfl #[.agg #[.int .i64 a0_0, .slice A0_1 l0_1.length c0_1], .int .i64 a1] rfl (by (try simp only [List.map_toArray, List.map_cons, List.map_nil]); first | done | rfl | (simp only [List.length_drop, List.length_take]; rfl)) ?_; (with_reducible refine (spec_l4At.calls k a0_0 _ _ l0_1 a1 t131 _ ?side1 ?side2 A5.out).mono ?_); (case side1 => repeat (first | exact (Kd.C_below HR0_1.out HB.out) | (with_reducible refine Kd.C_alloc ?_ _) | (with_reducible refine Kd.C_drewN ?_ _) | (with_reducible refine Kd.C_drew ?_))); (case side2 => exact HC0_1.out); rintro e w15 ⟨rfl, hb⟩; refine ⟨_, rfl, ?_⟩; have n0_ := zM (Kd.R_below (by (with_reducible repeat (first | apply Kd.R_alloc | apply Kd.R_drewN | apply Kd.R_drew)); exact HO127.out) hb); have n1_ := zM (Kd.R_below (by (with_reducible repeat (first | apply Kd.R_alloc | apply Kd.R_drewN | apply Kd.R_drew)); exact HO130.out) hb); have n2_ := zM (zL (g := gb124) (o := .cells #[.int .i64 a0_0, .slice A0_1 l0_1.length c0_1] 45 (0, 0)) (by (with_reducible repeat (first | refine zK ?_ _ | refine zW ?_ | refine zB ?_ _)); exact BK124.out) hb); have n3_ := zM (zP (by repeat (first | exact HB.out | apply zA | apply zN | apply zD | refine zS ?_ GE124.out)) hb); clear HO127; clear HO130; clear BK124; clear HB; have HO127 := n0_; have HO130 := n1_; have BK124 := n2_; have HB := n3_; clear n0_ n1_ n2_ n3_; (try clear hb); (try clear hb2); (try clear hk); (try clear hi)))
  go_ret
  exact ⟨_, by first | rfl | (simp [errW_none, errW_some] <;> rfl) | (simp [*, errW_none, errW_some] <;> rfl), by (with_reducible repeat (first | apply Kd.R_alloc | apply Kd.R_drewN | apply Kd.R_drew)); exact Kd.R_mono HO127.out (fun _ hk => trivial), by repeat (first | (with_reducible first | exact HB.out | apply zA | apply zN | apply zD | refine zS ?_ GE124.out) | exact HB.out)⟩
 rw [if_neg c6] at H
 have c6b0 : decide (t131 < 0) = false := zG c6
 clear c6
 by_cases c16 : 0 ≤ t131
 rotate_left
 ·rw [if_neg c16] at H
  exact absurd H (by simp)
 rw [if_pos c16] at H
 have c16b0 : decide (0 ≤ t131) = true := zE c16
 clear c16
 by_cases c17 : t131 < (y128.length : Int)
 rotate_left
 ·rw [if_neg c17] at H
  exact absurd H (by simp)
 rw [if_pos c17] at H
 have c17b0 : decide (t131 < (y128.length : Int)) = true := zE c17
 clear c17
 obtain ⟨y132, hy132⟩ : ∃ y_ : List Bool, y_ = (y128.set (t131 : Int).toNat true) := ⟨_, rfl⟩
 replace H : (spec_l4Below.l0 k y125 y132 0 a0_0 l0_1) = some r := by first | (rw [hy132]; with_reducible exact H) | (have H2_ := (Option.bind_some _ _).symm.trans H; rw [hy132]; with_reducible exact H2_) | (have H2_ := (Option.bind_some _ _).symm.trans H; with_reducible exact H2_) | with_reducible exact H | (rw [hy132]; exact H) | exact H
 have Ny132 := zM hy132
 clear hy132
 have H' := zM H
 clear H
 go_enter Tryd.func59, Tryd.ntmps59
 go_wp2_with (first | ((with_reducible refine gate_dst (N := 2) rfl ?_); refine box_event ?hg (N := 2) ?hd (cs := #[.int .i64 a0_0, .slice A0_1 l0_1.length c0_1]) (t := 45) ?hr ?_; (case hd => rfl); (case hg => rfl); (case hr => first | (go_simp; done) | (go_simp; rfl)); intro gb124 hg w19 hbox hb; have n0_ := zM (zP (by repeat (first | exact HB.out | apply zA | apply zN | apply zD)) hb); have n1_ := zM (hbox); have n2_ := zM ((by rw [hg]; exact (zZ (by repeat (first | exact HB.out | apply zA | apply zN | apply zD))) : w.heap.size ≤ gb124)); have n3_ := zM ((by rw [hg]; exact (zZ (by repeat (first | exact HB.out | apply zA | apply zN | apply zD))) : w.heap.size ≤ gb124)); clear HB; have HB := n0_; have BK124 := n1_; have GW124 := n2_; have GE124 := n3_; clear n0_ n1_ n2_ n3_; clear hb hbox hg; have hcz20_0 : w19.cell? ⟨gb124, 0, none⟩ = some (.int .i64 a0_0) := (zC BK124.out 0).trans rfl; have hcz20_1 : w19.cell? ⟨gb124, 1, none⟩ = some (.slice A0_1 l0_1.length c0_1) := (zC BK124.out 1).trans rfl; have hfz20_0 := zF BK124.out 0; have hfz20_1 := zF BK124.out 1) | ((with_reducible refine gate_dst (N := 15) rfl ?_); refine Kd.R_make Kd.bool _ 4 rfl (N := 15) rfl 92 _ _ rfl (l0_1.length : Int) rfl rfl Tryd.underlying92 (.bool false) 1 info4 rfl (by decide) (by omega) false (ok := fun _ => True) (okp := fun _ => True) rfl (fun _ hk => hk) trivial (zO (by first | (with_reducible assumption) | assumption)) (Nat.le_trans (Nat.mul_le_mul_right _ (zO (by first | (with_reducible assumption) | assumption) : (l0_1.length : Int).toNat ≤ 281474976710656)) (by omega)) (Below.refl _ _) (Nat.le_refl _) ?_; intro v126 w21 ho22 hb hg_ hnew_; clear hg_ hnew_; (first | rw [← Ny125.out] at ho22 | (simp only [Int.reduceToNat] at ho22; rw [← Ny125.out] at ho22)); have n0_ := zM (Kd.R_lower ho22 (zZ (by repeat (first | exact HB.out | apply zA | apply zN | apply zD | refine zS ?_ GE124.out)))); have n1_ := zM (zL (g := gb124) (o := .cells #[.int .i64 a0_0, .slice A0_1 l0_1.length c0_1] 45 (0, 0)) (by (with_reducible repeat (first | refine zK ?_ _ | refine zW ?_ | refine zB ?_ _)); exact BK124.out) hb); have n2_ := zM (zP (by repeat (first | exact HB.out | apply zA | apply zN | apply zD | refine zS ?_ GE124.out)) hb); clear BK124; clear HB; have HO127 := n0_; have BK124 := n1_; have HB := n2_; clear n0_ n1_ n2_; clear hb ho22; have hcz23_0 : w21.cell? ⟨gb124, 0, none⟩ = some (.int .i64 a0_0) := (zC BK124.out 0).trans rfl; have hcz23_1 : w21.cell? ⟨gb124, 1, none⟩ = some (.slice A0_1 l0_1.length c0_1) := (zC BK124.out 1).trans rfl; have hfz23_0 := zF BK124.out 0; have hfz23_1 := zF BK124.out 1) | ((with_reducible refine gate_dst (N := 19) rfl ?_); refine Kd.R_make Kd.bool _ 4 rfl (N := 19) rfl 92 _ _ rfl (l0_1.length : Int) rfl rfl Tryd.underlying92 (.bool false) 1 info4 rfl (by decide) (by omega) false (ok := fun _ => True) (okp := fun _ => True) rfl (fun _ hk => hk) trivial (zO (by first | (with_reducible assumption) | assumption)) (Nat.le_trans (Nat.mul_le_mul_right _ (zO (by first | (with_reducible assumption) | assumption) : (l0_1.length : Int).toNat ≤ 281474976710656)) (by omega)) (Below.refl _ _) (Nat.le_refl _) ?_; intro v129 w24 ho25 hb hg_ hnew_; clear hg_ hnew_; (first | rw [← Ny128.out] at ho25 | (simp only [Int.reduceToNat] at ho25; rw [← Ny128.out] at ho25)); have n0_ := zM (Kd.R_elder' (by (with_reducible repeat (first | apply Kd.R_alloc | apply Kd.R_drewN | apply Kd.R_drew)); exact HO127.out) (Kd.R_base ho25) hb); have n1_ := zM (Kd.R_lower (Kd.R_new' ho25 (Kd.R_lt (by (with_reducible repeat (first | apply Kd.R_alloc | apply Kd.R_drewN | apply Kd.R_drew)); exact HO127.out))) (zZ (by repeat (first | exact HB.out | apply zA | apply zN | apply zD | refine zS ?_ GE124.out)))); have n2_ := zM (zL (g := gb124) (o := .cells #[.int .i64 a0_0, .slice A0_1 l0_1.length c0_1] 45 (0, 0)) (by (with_reducible repeat (first | refine zK ?_ _ | refine zW ?_ | refine zB ?_ _)); exact BK124.out) hb); have n3_ := zM (zP (by repeat (first | exact HB.out | apply zA | apply zN | apply zD | refine zS ?_ GE124.out)) hb); clear HO127; clear BK124; clear HB; have HO127 := n0_; have HO130 := n1_; have BK124 := n2_; have HB := n3_; clear n0_ n1_ n2_ n3_; clear hb ho25; have hcz26_0 : w24.cell? ⟨gb124, 0, none⟩ = some (.int .i64 a0_0) := (zC BK124.out 0).trans rfl; have hcz26_1 : w24.cell? ⟨gb124, 1, none⟩ = some (.slice A0_1 l0_1.length c0_1) := (zC BK124.out 1).trans rfl; have hfz26_0 := zF BK124.out 0; have hfz26_1 := zF BK124.out 1) | ((with_reducible refine gate_callee (f := 65) rfl ?_); refine goesL_ (some 22) rfl rfl Tryd.func65 (by kernel_rfl) rfl #[.agg #[.int .i64 a0_0, .slice A0_1 l0_1.length c0_1], .int .i64 a1] rfl (by (try simp only [List.map_toArray, List.map_cons, List.map_nil]); first | done | rfl | (simp only [List.length_drop, List.length_take]; rfl)) ?_; (with_reducible refine (spec_l4At.calls k a0_0 _ _ l0_1 a1 t131 _ ?side1 ?side2 A5.out).mono ?_); (case side1 => repeat (first | exact (Kd.C_below HR0_1.out HB.out) | (with_reducible refine Kd.C_alloc ?_ _) | (with_reducible refine Kd.C_drewN ?_ _) | (with_reducible refine Kd.C_drew ?_))); (case side2 => exact HC0_1.out); rintro e w27 ⟨rfl, hb⟩; refine ⟨_, rfl, ?_⟩; have n0_ := zM (Kd.R_below (by (with_reducible repeat (first | apply Kd.R_alloc | apply Kd.R_drewN | apply Kd.R_drew)); exact HO127.out) hb); have n1_ := zM (Kd.R_below (by (with_reducible repeat (first | apply Kd.R_alloc | apply Kd.R_drewN | apply Kd.R_drew)); exact HO130.out) hb); have n2_ := zM (zL (g := gb124) (o := .cells #[.int .i64 a0_0, .slice A0_1 l0_1.length c0_1] 45 (0, 0)) (by (with_reducible repeat (first | refine zK ?_ _ | refine zW ?_ | refine zB ?_ _)); exact BK124.out) hb); have n3_ := zM (zP (by repeat (first | exact HB.out | apply zA | apply zN | apply zD | refine zS ?_ GE124.out)) hb); clear HO127; clear HO130; clear BK124; clear HB; have HO127 := n0_; have HO130 := n1_; have BK124 := n2_; have HB := n3_; clear n0_ n1_ n2_ n3_; (try clear hb); (try clear hb2); (try clear hk); (try clear hi); have p18 : 0 ≤ (t131 : Int) := zO (by first | (with_reducible assumption) | assumption); have q18 : (t131 : Int) < ((y128.length : Int) : Int) := zO (by first | (with_reducible assumption) | assumption); obtain ⟨go18, co18, eo18, gb18, gl18, cl18, HG18⟩ := Kd.R_form HO130.out (by omega); (first | cases eo18 | (injection eo18 with ea_ en_ ec_; (first | subst ea_ | (injection ea_ with ea_; subst ea_)); subst ec_; clear en_)); have GB18 := zM gb18; have GG18 := zM HG18; clear gb18 gl18 HG18; obtain ⟨hx18_0, hf18_0⟩ := Kd.R_celln false HO130.out (t131 : Int) p18 q18; replace p18 := eq_true p18; replace q18 := eq_true q18; have n_ := zM (Kd.R_mono (ok' := (fun k_ => some k_ ≠ (v126 : Value).ownBlock)) HO130.out (fun k_ hk => hk.2)); clear HO130; have HO130 := n_; clear n_; obtain ⟨hy28_, hz28_⟩ := Kd.R_celln false HO130.out (t131 : Int) (zO (by first | (with_reducible assumption) | assumption)) (zO (by first | (with_reducible assumption) | assumption)); have HP28 := Kd.R_putg HO130.out (t131 : Int) true) | ((with_reducible refine gate_store (t := 4) (p := 28) rfl ?_); refine store_event (t := 4) (p := 28) (v := ?vo_w29) (w1 := (w27.setCell ⟨go18, (t131 : Int).toNat, none⟩ (.bool true))) ?hg ?ho ?hn ?hr ?_; (case ho => rfl); (case hg => rfl); (case hn => rfl); (case hr => first | (go_simp; done) | (go_simp; rfl)); intro w29 hw; have hg : w27.grownBy w29 (some go18) := (by rw [hw]; exact HP28.2); have hp_ : Kd.R Kd.bool 4 w29 w.heap.size (fun k_ => some k_ ≠ (v126 : Value).ownBlock) (.slice (some ⟨go18, 0, none⟩) y128.length co18) y132 := (by rw [hw, Ny132.out]; exact HP28.1); clear HP28; have n0_ := zM (blk_grown (g := gb124) (o := .cells #[.int .i64 a0_0, .slice A0_1 l0_1.length c0_1] 45 (0, 0)) (by (with_reducible repeat (first | refine zK ?_ _ | refine zW ?_ | refine zB ?_ _)); exact BK124.out) hg (Kd.R_ne HO130.out BK124.out (by decide))); have n1_ := zM (Kd.R_after (v := (.slice (some ⟨go18, 0, none⟩) y128.length co18)) (v1 := (.slice (some ⟨go18, 0, none⟩) y128.length co18)) (ok := (fun _ => True)) (by (with_reducible repeat (first | apply Kd.R_alloc | apply Kd.R_drewN | apply Kd.R_drew)); exact HO127.out) hg (.inl rfl)); have n2_ := zM (hp_); have n3_ := zM ((by rw [hw]; exact zS (HB.out) GB18.out : Below w.heap.size w w29)); clear BK124; clear HO127; clear HO130; clear HB; have BK124 := n0_; have HO127 := n1_; have HO130 := n2_; have HB := n3_; clear n0_ n1_ n2_ n3_; clear hg hw hp_))
 go_loopg [8] k (fun kq v8 w' => ∃ (x5_1 : List Bool) (x6_1 : List Bool) (x8_1 : Int), v8 = .int .i64 x8_1 ∧ Aside0 (spec_l4Below.l0 kq x5_1 x6_1 x8_1 a0_0 l0_1 = some r) ∧ Aside0 (kq ≤ k) ∧ Aside0 (Kd.R Kd.bool 4 w' w.heap.size (fun k_ => some k_ ≠ ((.slice (some ⟨go18, 0, none⟩) y128.length co18) : Value).ownBlock) v126 x5_1) ∧ Aside0 (Kd.R Kd.bool 4 w' w.heap.size (fun k_ => some k_ ≠ (v126 : Value).ownBlock) (.slice (some ⟨go18, 0, none⟩) y128.length co18) x6_1) ∧ Aside0 (w'.heap[gb124]? = some (.cells #[.int .i64 a0_0, (.slice A0_1 l0_1.length c0_1)] 45 (0, 0))) ∧ Aside0 (Below w.heap.size w w'))
 case atStart => exact ⟨(y125), (y132), (0), (by first | rfl | (simp; done) | (simp [*]; done) | (simp; exact zQ _)), H', ⟨Nat.le_refl _⟩, ⟨by (with_reducible repeat (first | apply Kd.R_alloc | apply Kd.R_drewN | apply Kd.R_drew)); exact Kd.R_mono HO127.out (fun _ hk => hk.2)⟩, ⟨by (with_reducible repeat (first | apply Kd.R_alloc | apply Kd.R_drewN | apply Kd.R_drew)); exact HO130.out⟩, ⟨by (with_reducible repeat (first | refine zK ?_ _ | refine zW ?_ | refine zB ?_ _)); exact BK124.out⟩, ⟨by repeat (first | (with_reducible first | exact HB.out | apply zA | apply zN | apply zD | refine zS ?_ GE124.out) | exact HB.out)⟩⟩
 case round =>
  clear H'
  try clear c1
  try clear p1
  try clear q1
  try clear hx1
  try clear p2
  try clear c3
  try clear c3b0
  try clear c3b1
  try clear c4
  try clear c4b0
  try clear c4b1
  try clear c5
  try clear c6
  try clear c6b0
  try clear c16
  try clear c16b0
  try clear c17
  try clear c17b0
  try clear p18
  try clear q18
  try clear hx18
  try clear hf18
  try clear hcz11_0
  try clear hcz11_1
  try clear hcz14_0
  try clear hcz14_1
  try clear hcz20_0
  try clear hcz20_1
  try clear hcz23_0
  try clear hcz23_1
  try clear hcz26_0
  try clear hcz26_1
  try clear hcz8_0
  try clear hcz8_1
  try clear hfz11_0
  try clear hfz11_1
  try clear hfz14_0
  try clear hfz14_1
  try clear hfz20_0
  try clear hfz20_1
  try clear hfz23_0
  try clear hfz23_1
  try clear hfz26_0
  try clear hfz26_1
  try clear hfz8_0
  try clear hfz8_1
  try clear hx18_0
  try clear p18
  try clear q18
  obtain ⟨x5_1, x6_1, x8_1, rfl, HA, HK1, HO_5, HO_6, BK124, HB⟩ := hrel
  have hl6_1 := (Kd.R_reads' HO_6.out).1
  rw [hl6_1] at HO_6
  (try simp only [hl6_1])
  (try simp only [hl6_1] at BK124)
  (try simp only [hl6_1] at HO_5)
  cases gk with
  | zero => exact absurd HA.out (by simp [spec_l4Below.l0])
  | succ k1 =>
   have H := HA.out
   clear HA
   simp only [spec_l4Below.l0] at H
   by_cases c30 : x8_1 < (l0_1.length : Int)
   rotate_left
   ·rw [if_neg c30] at H
    have c30b0 : decide (x8_1 < (l0_1.length : Int)) = false := zG c30
    clear c30
    obtain rfl := zI H
    have hcz62_0 : wr.cell? ⟨gb124, 0, none⟩ = some (.int .i64 a0_0) := (zC BK124.out 0).trans rfl
    have hcz62_1 : wr.cell? ⟨gb124, 1, none⟩ = some (.slice A0_1 l0_1.length c0_1) := (zC BK124.out 1).trans rfl
    have hfz62_0 := zF BK124.out 0
    have hfz62_1 := zF BK124.out 1
    go_wp2
    go_ret
    exact ⟨_, by first | rfl | (simp [errW_none, errW_some] <;> rfl) | (simp [*, errW_none, errW_some] <;> rfl), by (with_reducible repeat (first | apply Kd.R_alloc | apply Kd.R_drewN | apply Kd.R_drew)); exact Kd.R_mono HO_5.out (fun _ hk => trivial), by repeat (first | (with_reducible first | exact HB.out | apply zA | apply zN | apply zD | refine zS ?_ GE124.out) | exact HB.out)⟩
   rw [if_pos c30] at H
   have c30b0 : decide (x8_1 < (l0_1.length : Int)) = true := zE c30
   clear c30
   have H' := zM H
   clear H
   have hcz31_0 : wr.cell? ⟨gb124, 0, none⟩ = some (.int .i64 a0_0) := (zC BK124.out 0).trans rfl
   have hcz31_1 : wr.cell? ⟨gb124, 1, none⟩ = some (.slice A0_1 l0_1.length c0_1) := (zC BK124.out 1).trans rfl
   have hfz31_0 := zF BK124.out 0
   have hfz31_1 := zF BK124.out 1
   go_wp2
   go_loopg [9] k1 (fun kq v9 w' => ∃ (x5_2 : List Bool) (x6_2 : List Bool) (x9_2 : Int), v9 = .int .i64 x9_2 ∧ Aside0 (spec_l4Below.l1 kq x5_2 x6_2 x8_1 x9_2 a0_0 l0_1 = some r) ∧ Aside0 (kq ≤ k1) ∧ Aside0 (Kd.R Kd.bool 4 w' w.heap.size (fun k_ => some k_ ≠ ((.slice (some ⟨go18, 0, none⟩) x6_1.length co18) : Value).ownBlock) v126 x5_2) ∧ Aside0 (Kd.R Kd.bool 4 w' w.heap.size (fun k_ => some k_ ≠ (v126 : Value).ownBlock) (.slice (some ⟨go18, 0, none⟩) x6_1.length co18) x6_2) ∧ Aside0 (w'.heap[gb124]? = some (.cells #[.int .i64 a0_0, (.slice A0_1 l0_1.length c0_1)] 45 (0, 0))) ∧ Aside0 (Below w.heap.size w w'))
   case atStart => exact ⟨(x5_1), (x6_1), (0), (by first | rfl | (simp; done) | (simp [*]; done) | (simp; exact zQ _)), H', ⟨Nat.le_refl _⟩, ⟨by (try simp only [hl6_1]); (with_reducible repeat (first | apply Kd.R_alloc | apply Kd.R_drewN | apply Kd.R_drew)); exact HO_5.out⟩, ⟨by (try simp only [hl6_1]); (with_reducible repeat (first | apply Kd.R_alloc | apply Kd.R_drewN | apply Kd.R_drew)); exact HO_6.out⟩, ⟨by (try simp only [hl6_1]); (with_reducible repeat (first | refine zK ?_ _ | refine zW ?_ | refine zB ?_ _)); exact BK124.out⟩, ⟨by repeat (first | (with_reducible first | exact HB.out | apply zA | apply zN | apply zD | refine zS ?_ GE124.out) | exact HB.out)⟩⟩
   case round =>
    clear H'
    try clear c1
    try clear p1
    try clear q1
    try clear hx1
    try clear p2
    try clear c3
    try clear c3b0
    try clear c3b1
    try clear c4
    try clear c4b0
    try clear c4b1
    try clear c5
    try clear c6
    try clear c6b0
    try clear c16
    try clear c16b0
    try clear c17
    try clear c17b0
    try clear p18
    try clear q18
    try clear hx18
    try clear hf18
    try clear c30
    try clear c30b0
    try clear hcz11_0
    try clear hcz11_1
    try clear hcz14_0
    try clear hcz14_1
    try clear hcz20_0
    try clear hcz20_1
    try clear hcz23_0
    try clear hcz23_1
    try clear hcz26_0
    try clear hcz26_1
    try clear hcz31_0
    try clear hcz31_1
    try clear hcz8_0
    try clear hcz8_1
    try clear hfz11_0
    try clear hfz11_1
    try clear hfz14_0
    try clear hfz14_1
    try clear hfz20_0
    try clear hfz20_1
    try clear hfz23_0
    try clear hfz23_1
    try clear hfz26_0
    try clear hfz26_1
    try clear hfz31_0
    try clear hfz31_1
    try clear hfz8_0
    try clear hfz8_1
    try clear hx18_0
    try clear p1
    try clear p18
    try clear p2
    try clear q1
    try clear q18
    obtain ⟨x5_2, x6_2, x9_2, rfl, HA, HK2, HO_5, HO_6, BK124, HB⟩ := hrel
    have hl6_2 := (Kd.R_reads' HO_6.out).1
    rw [hl6_2] at HO_6
    (try simp only [hl6_2])
    (try simp only [hl6_2] at BK124)
    (try simp only [hl6_2] at HO_5)
    cases gk with
    | zero => exact absurd HA.out (by simp [spec_l4Below.l1])
    | succ k2 =>
     have H := HA.out
     clear HA
     simp only [spec_l4Below.l1] at H
     by_cases c32 : x9_2 < (l0_1.length : Int)
     rotate_left
     ·rw [if_neg c32] at H
      have c32b0 : decide (x9_2 < (l0_1.length : Int)) = false := zG c32
      clear c32
      have H' := zM H
      clear H
      have hcz61_0 : wr.cell? ⟨gb124, 0, none⟩ = some (.int .i64 a0_0) := (zC BK124.out 0).trans rfl
      have hcz61_1 : wr.cell? ⟨gb124, 1, none⟩ = some (.slice A0_1 l0_1.length c0_1) := (zC BK124.out 1).trans rfl
      have hfz61_0 := zF BK124.out 0
      have hfz61_1 := zF BK124.out 1
      go_wp2
      (try simp only [← hl6_1, ← hl6_2])
      go_roundg k2
      case measure => have := HK1.out; have := HK2.out; omega
      case rel => exact ⟨(x5_2), (x6_2), (wrap64 (x8_1 + 1)), (by first | rfl | (simp; done) | (simp [*]; done) | (simp; exact zQ _)), H', ⟨by have := HK1.out; have := HK2.out; omega⟩, ⟨by (try simp only [hl6_1]); (try simp only [hl6_2]); (with_reducible repeat (first | apply Kd.R_alloc | apply Kd.R_drewN | apply Kd.R_drew)); exact HO_5.out⟩, ⟨by (try simp only [hl6_1]); (try simp only [hl6_2]); (with_reducible repeat (first | apply Kd.R_alloc | apply Kd.R_drewN | apply Kd.R_drew)); exact HO_6.out⟩, ⟨by (try simp only [hl6_1]); (try simp only [hl6_2]); (with_reducible repeat (first | refine zK ?_ _ | refine zW ?_ | refine zB ?_ _)); exact BK124.out⟩, ⟨by repeat (first | (with_reducible first | exact HB.out | apply zA | apply zN | apply zD | refine zS ?_ GE124.out) | exact HB.out)⟩⟩
     rw [if_pos c32] at H
     have c32b0 : decide (x9_2 < (l0_1.length : Int)) = true := zE c32
     clear c32
     by_cases c33 : 0 ≤ x9_2
     rotate_left
     ·rw [if_neg c33] at H
      exact absurd H (by simp)
     rw [if_pos c33] at H
     have c33b0 : decide (0 ≤ x9_2) = true := zE c33
     clear c33
     by_cases c34 : x9_2 < (x6_2.length : Int)
     rotate_left
     ·rw [if_neg c34] at H
      exact absurd H (by simp)
     rw [if_pos c34] at H
     have c34b0 : decide (x9_2 < (x6_2.length : Int)) = true := zE c34
     clear c34
     obtain ⟨bq35, hbq35⟩ : ∃ b_ : Bool, b_ = (rdOf false x6_2 x9_2) := ⟨_, rfl⟩
     replace H : (if bq35 = true then (spec_l4Below.l2 k2 x5_2 x6_2 x8_1 x9_2 0 a0_0 l0_1) else (spec_l4Below.l1 k2 x5_2 x6_2 x8_1 (wrap64 (x9_2 + 1)) a0_0 l0_1)) = some r := by rw [← hbq35] at H; exact H
     have Nbq35 := zM hbq35
     clear hbq35
     by_cases c36 : bq35 = true
     rotate_left
     ·replace c36 := Bool.eq_false_iff.mpr c36
      subst c36
      have H1 : (spec_l4Below.l1 k2 x5_2 x6_2 x8_1 (wrap64 (x9_2 + 1)) a0_0 l0_1) = some r := by rw [if_neg (show ¬ (false = true) by decide)] at H; exact H
      clear H
      have H := H1
      clear H1
      have H' := zM H
      clear H
      have hcz60_0 : wr.cell? ⟨gb124, 0, none⟩ = some (.int .i64 a0_0) := (zC BK124.out 0).trans rfl
      have hcz60_1 : wr.cell? ⟨gb124, 1, none⟩ = some (.slice A0_1 l0_1.length c0_1) := (zC BK124.out 1).trans rfl
      have hfz60_0 := zF BK124.out 0
      have hfz60_1 := zF BK124.out 1
      have p133 : 0 ≤ (x9_2 : Int) := zO (by first | (with_reducible assumption) | assumption)
      have q133 : x9_2 < (x6_2.length : Int) := zO (by first | (with_reducible assumption) | assumption)
      obtain ⟨ad133, e133, hx133_0⟩ := Kd.at_bool (Kd.R_reads' HO_6.out).2.2 x9_2 p133 q133
      (try rw [← Nbq35.out] at hx133_0)
      obtain rfl : (⟨go18, 0, none⟩ : Addr) = ad133 := (by injection e133)
      (first | simp only [add_plain] at hx133_0 | simp only [add_at] at hx133_0 | simp only [Addr.add, Nat.zero_add] at hx133_0 | skip)
      replace p133 := eq_true p133
      replace q133 := eq_true q133
      go_wp2
      (try simp only [← hl6_2])
      go_roundg k2
      case measure => have := HK1.out; have := HK2.out; omega
      case rel => exact ⟨(x5_2), (x6_2), (wrap64 (x9_2 + 1)), (by first | rfl | (simp; done) | (simp [*]; done) | (simp; exact zQ _)), H', ⟨by have := HK1.out; have := HK2.out; omega⟩, ⟨by (try simp only [hl6_1]); (try simp only [hl6_2]); (with_reducible repeat (first | apply Kd.R_alloc | apply Kd.R_drewN | apply Kd.R_drew)); exact HO_5.out⟩, ⟨by (try simp only [hl6_1]); (try simp only [hl6_2]); (with_reducible repeat (first | apply Kd.R_alloc | apply Kd.R_drewN | apply Kd.R_drew)); exact HO_6.out⟩, ⟨by (try simp only [hl6_1]); (try simp only [hl6_2]); (with_reducible repeat (first | refine zK ?_ _ | refine zW ?_ | refine zB ?_ _)); exact BK124.out⟩, ⟨by repeat (first | (with_reducible first | exact HB.out | apply zA | apply zN | apply zD | refine zS ?_ GE124.out) | exact HB.out)⟩⟩
     subst c36
     have H1 : (spec_l4Below.l2 k2 x5_2 x6_2 x8_1 x9_2 0 a0_0 l0_1) = some r := by rw [if_pos rfl] at H; exact H
     clear H
     have H := H1
     clear H1
     have H' := zM H
     clear H
     have hcz37_0 : wr.cell? ⟨gb124, 0, none⟩ = some (.int .i64 a0_0) := (zC BK124.out 0).trans rfl
     have hcz37_1 : wr.cell? ⟨gb124, 1, none⟩ = some (.slice A0_1 l0_1.length c0_1) := (zC BK124.out 1).trans rfl
     have hfz37_0 := zF BK124.out 0
     have hfz37_1 := zF BK124.out 1
     have p133 : 0 ≤ (x9_2 : Int) := zO (by first | (with_reducible assumption) | assumption)
     have q133 : x9_2 < (x6_2.length : Int) := zO (by first | (with_reducible assumption) | assumption)
     obtain ⟨ad133, e133, hx133_0⟩ := Kd.at_bool (Kd.R_reads' HO_6.out).2.2 x9_2 p133 q133
     (try rw [← Nbq35.out] at hx133_0)
     obtain rfl : (⟨go18, 0, none⟩ : Addr) = ad133 := (by injection e133)
     (first | simp only [add_plain] at hx133_0 | simp only [add_at] at hx133_0 | simp only [Addr.add, Nat.zero_add] at hx133_0 | skip)
     replace p133 := eq_true p133
     replace q133 := eq_true q133
     go_wp2
     go_loopg [10] k2 (fun kq v10 w' => ∃ (x5_3 : List Bool) (x6_3 : List Bool) (x10_3 : Int), v10 = .int .i64 x10_3 ∧ Aside0 (spec_l4Below.l2 kq x5_3 x6_3 x8_1 x9_2 x10_3 a0_0 l0_1 = some r) ∧ Aside0 (kq ≤ k2) ∧ Aside0 (Kd.R Kd.bool 4 w' w.heap.size (fun k_ => some k_ ≠ ((.slice (some ⟨go18, 0, none⟩) x6_2.length co18) : Value).ownBlock) v126 x5_3) ∧ Aside0 (Kd.R Kd.bool 4 w' w.heap.size (fun k_ => some k_ ≠ (v126 : Value).ownBlock) (.slice (some ⟨go18, 0, none⟩) x6_2.length co18) x6_3) ∧ Aside0 (w'.heap[gb124]? = some (.cells #[.int .i64 a0_0, (.slice A0_1 l0_1.length c0_1)] 45 (0, 0))) ∧ Aside0 (Below w.heap.size w w'))
     case atStart => exact ⟨(x5_2), (x6_2), (0), (by first | rfl | (simp; done) | (simp [*]; done) | (simp; exact zQ _)), H', ⟨Nat.le_refl _⟩, ⟨by (try simp only [hl6_1]); (try simp only [hl6_2]); (with_reducible repeat (first | apply Kd.R_alloc | apply Kd.R_drewN | apply Kd.R_drew)); exact HO_5.out⟩, ⟨by (try simp only [hl6_1]); (try simp only [hl6_2]); (with_reducible repeat (first | apply Kd.R_alloc | apply Kd.R_drewN | apply Kd.R_drew)); exact HO_6.out⟩, ⟨by (try simp only [hl6_1]); (try simp only [hl6_2]); (with_reducible repeat (first | refine zK ?_ _ | refine zW ?_ | refine zB ?_ _)); exact BK124.out⟩, ⟨by repeat (first | (with_reducible first | exact HB.out | apply zA | apply zN | apply zD | refine zS ?_ GE124.out) | exact HB.out)⟩⟩
     case round =>
      clear H'
      try clear c1
      try clear p1
      try clear q1
      try clear hx1
      try clear p2
      try clear c3
      try clear c3b0
      try clear c3b1
      try clear q3
      try clear c4
      try clear c4b0
      try clear c4b1
      try clear c5
      try clear c6
      try clear c6b0
      try clear p6
      try clear p13
      try clear q13
      try clear hx13
      try clear c16
      try clear c16b0
      try clear c17
      try clear c17b0
      try clear p18
      try clear q18
      try clear hx18
      try clear hf18
      try clear c30
      try clear c30b0
      try clear c32
      try clear c32b0
      try clear c33
      try clear c33b0
      try clear c34
      try clear c34b0
      try clear q35
      try clear c36
      try clear hcz11_0
      try clear hcz11_1
      try clear hcz14_0
      try clear hcz14_1
      try clear hcz20_0
      try clear hcz20_1
      try clear hcz23_0
      try clear hcz23_1
      try clear hcz26_0
      try clear hcz26_1
      try clear hcz31_0
      try clear hcz31_1
      try clear hcz37_0
      try clear hcz37_1
      try clear hcz8_0
      try clear hcz8_1
      try clear hfz11_0
      try clear hfz11_1
      try clear hfz14_0
      try clear hfz14_1
      try clear hfz20_0
      try clear hfz20_1
      try clear hfz23_0
      try clear hfz23_1
      try clear hfz26_0
      try clear hfz26_1
      try clear hfz31_0
      try clear hfz31_1
      try clear hfz37_0
      try clear hfz37_1
      try clear hfz8_0
      try clear hfz8_1
      try clear hx133_0
      try clear hx18_0
      try clear p1
      try clear p133
      try clear p18
      try clear p2
      try clear q1
      try clear q133
      try clear q18
      obtain ⟨x5_3, x6_3, x10_3, rfl, HA, HK3, HO_5, HO_6, BK124, HB⟩ := hrel
      have hl6_3 := (Kd.R_reads' HO_6.out).1
      rw [hl6_3] at HO_6
      (try simp only [hl6_3])
      (try simp only [hl6_3] at BK124)
      (try simp only [hl6_3] at HO_5)
      cases gk with
      | zero => exact absurd HA.out (by simp [spec_l4Below.l2])
      | succ k3 =>
       have H := HA.out
       clear HA
       simp only [spec_l4Below.l2] at H
       by_cases c38 : 0 ≤ x9_2
       rotate_left
       ·rw [if_neg c38] at H
        exact absurd H (by simp)
       rw [if_pos c38] at H
       have c38b0 : decide (0 ≤ x9_2) = true := zE c38
       clear c38
       by_cases c39 : x9_2 < (l0_1.length : Int)
       rotate_left
       ·rw [if_neg c39] at H
        exact absurd H (by simp)
       rw [if_pos c39] at H
       have c39b0 : decide (x9_2 < (l0_1.length : Int)) = true := zE c39
       clear c39
       by_cases c40 : x10_3 < (((rd_T90 l0_1 x9_2).f6).length : Int)
       rotate_left
       ·rw [if_neg c40] at H
        have c40b0 : decide (x10_3 < (((rd_T90 l0_1 x9_2).f6).length : Int)) = false := zG c40
        clear c40
        have H' := zM H
        clear H
        have hcz59_0 : wr.cell? ⟨gb124, 0, none⟩ = some (.int .i64 a0_0) := (zC BK124.out 0).trans rfl
        have hcz59_1 : wr.cell? ⟨gb124, 1, none⟩ = some (.slice A0_1 l0_1.length c0_1) := (zC BK124.out 1).trans rfl
        have hfz59_0 := zF BK124.out 0
        have hfz59_1 := zF BK124.out 1
        have p134 : 0 ≤ (x9_2 : Int) := zO (by first | (with_reducible assumption) | assumption)
        have q134 : x9_2 < (l0_1.length : Int) := zO (by first | (with_reducible assumption) | assumption)
        obtain ⟨ad134, A134_6, c134_6, e134, hx134_0, hx134_1, hx134_2, hx134_3, hx134_4, hx134_5, hx134_6, hx134_7, hx134_8, hl134_6, hi134_6⟩ := at_T90 HR0_1.out x9_2 p134 q134
        cases e134
        replace hx134_0 := (HB.out.cell (zT w _ hx134_0)).trans hx134_0
        replace hx134_1 := (HB.out.cell (zT w _ hx134_1)).trans hx134_1
        replace hx134_2 := (HB.out.cell (zT w _ hx134_2)).trans hx134_2
        replace hx134_3 := (HB.out.cell (zT w _ hx134_3)).trans hx134_3
        replace hx134_4 := (HB.out.cell (zT w _ hx134_4)).trans hx134_4
        replace hx134_5 := (HB.out.cell (zT w _ hx134_5)).trans hx134_5
        replace hx134_6 := (HB.out.cell (zT w _ hx134_6)).trans hx134_6
        replace hx134_7 := (HB.out.cell (zT w _ hx134_7)).trans hx134_7
        replace hx134_8 := (HB.out.cell (zT w _ hx134_8)).trans hx134_8
        have HR134_6 := zM hi134_6
        have HC134_6 := zM hl134_6
        clear hi134_6 hl134_6
        replace p134 := eq_true p134
        replace q134 := eq_true q134
        go_wp2
        (try simp only [← hl6_2, ← hl6_3])
        go_roundg k3
        case measure => have := HK1.out; have := HK2.out; have := HK3.out; omega
        case rel => exact ⟨(x5_3), (x6_3), (wrap64 (x9_2 + 1)), (by first | rfl | (simp; done) | (simp [*]; done) | (simp; exact zQ _)), H', ⟨by have := HK1.out; have := HK2.out; have := HK3.out; omega⟩, ⟨by (try simp only [hl6_1]); (try simp only [hl6_2]); (try simp only [hl6_3]); (with_reducible repeat (first | apply Kd.R_alloc | apply Kd.R_drewN | apply Kd.R_drew)); exact HO_5.out⟩, ⟨by (try simp only [hl6_1]); (try simp only [hl6_2]); (try simp only [hl6_3]); (with_reducible repeat (first | apply Kd.R_alloc | apply Kd.R_drewN | apply Kd.R_drew)); exact HO_6.out⟩, ⟨by (try simp only [hl6_1]); (try simp only [hl6_2]); (try simp only [hl6_3]); (with_reducible repeat (first | refine zK ?_ _ | refine zW ?_ | refine zB ?_ _)); exact BK124.out⟩, ⟨by repeat (first | (with_reducible first | exact HB.out | apply zA | apply zN | apply zD | refine zS ?_ GE124.out) | exact HB.out)⟩⟩
       rw [if_pos c40] at H
       have c40b0 : decide (x10_3 < (((rd_T90 l0_1 x9_2).f6).length : Int)) = true := zE c40
       clear c40
       by_cases c41 : 0 ≤ x10_3
       rotate_left
       ·rw [if_neg c41] at H
        exact absurd H (by simp)
       rw [if_pos c41] at H
       have c41b0 : decide (0 ≤ x10_3) = true := zE c41
       clear c41
       replace H := Option.bind_eq_some_iff.mp H
       obtain ⟨t137, A420, H⟩ := H
       replace H : (if t137 ≥ 0 then (if 0 ≤ t137 then (if t137 < (x5_3.length : Int) then (if t137 < (x6_3.length : Int) then (spec_l4Below.l2 k3 (x5_3.set (t137 : Int).toNat true) (x6_3.set (t137 : Int).toNat true) x8_1 x9_2 (wrap64 (x10_3 + 1)) a0_0 l0_1) else (none)) else (none)) else (none)) else (spec_l4Below.l2 k3 x5_3 x6_3 x8_1 x9_2 (wrap64 (x10_3 + 1)) a0_0 l0_1)) = some r := H
       have A42 := zM A420
       clear A420
       by_cases c43 : t137 ≥ 0
       rotate_left
       ·rw [if_neg c43] at H
        have c43b0 : decide (0 ≤ t137) = false := zG c43
        clear c43
        have H' := zM H
        clear H
        have hcz56_0 : wr.cell? ⟨gb124, 0, none⟩ = some (.int .i64 a0_0) := (zC BK124.out 0).trans rfl
        have hcz56_1 : wr.cell? ⟨gb124, 1, none⟩ = some (.slice A0_1 l0_1.length c0_1) := (zC BK124.out 1).trans rfl
        have hfz56_0 := zF BK124.out 0
        have hfz56_1 := zF BK124.out 1
        have p134 : 0 ≤ (x9_2 : Int) := zO (by first | (with_reducible assumption) | assumption)
        have q134 : x9_2 < (l0_1.length : Int) := zO (by first | (with_reducible assumption) | assumption)
        obtain ⟨ad134, A134_6, c134_6, e134, hx134_0, hx134_1, hx134_2, hx134_3, hx134_4, hx134_5, hx134_6, hx134_7, hx134_8, hl134_6, hi134_6⟩ := at_T90 HR0_1.out x9_2 p134 q134
        cases e134
        replace hx134_0 := (HB.out.cell (zT w _ hx134_0)).trans hx134_0
        replace hx134_1 := (HB.out.cell (zT w _ hx134_1)).trans hx134_1
        replace hx134_2 := (HB.out.cell (zT w _ hx134_2)).trans hx134_2
        replace hx134_3 := (HB.out.cell (zT w _ hx134_3)).trans hx134_3
        replace hx134_4 := (HB.out.cell (zT w _ hx134_4)).trans hx134_4
        replace hx134_5 := (HB.out.cell (zT w _ hx134_5)).trans hx134_5
        replace hx134_6 := (HB.out.cell (zT w _ hx134_6)).trans hx134_6
        replace hx134_7 := (HB.out.cell (zT w _ hx134_7)).trans hx134_7
        replace hx134_8 := (HB.out.cell (zT w _ hx134_8)).trans hx134_8
        have HR134_6 := zM hi134_6
        have HC134_6 := zM hl134_6
        clear hi134_6 hl134_6
        replace p134 := eq_true p134
        replace q134 := eq_true q134
        try go_wp2
        have n0_ := zM (Kd.R_drew HO_5.out)
        have n1_ := zM (Kd.R_drew HO_6.out)
        have n2_ := zM (zW BK124.out)
        have n3_ := zM (zD HB.out)
        clear HO_5
        clear HO_6
        clear BK124
        clear HB
        have HO_5 := n0_
        have HO_6 := n1_
        have BK124 := n2_
        have HB := n3_
        clear n0_ n1_ n2_ n3_
        have p135 : 0 ≤ (x9_2 : Int) := zO (by first | (with_reducible assumption) | assumption)
        have q135 : x9_2 < (l0_1.length : Int) := zO (by first | (with_reducible assumption) | assumption)
        obtain ⟨ad135, A135_6, c135_6, e135, hx135_0, hx135_1, hx135_2, hx135_3, hx135_4, hx135_5, hx135_6, hx135_7, hx135_8, hl135_6, hi135_6⟩ := at_T90 HR0_1.out x9_2 p135 q135
        have hw135_8 := hx135_8
        have hw135_7 := hx135_7
        have hw135_6 := hx135_6
        have hw135_5 := hx135_5
        have hw135_4 := hx135_4
        have hw135_3 := hx135_3
        have hw135_2 := hx135_2
        have hw135_1 := hx135_1
        have hw135_0 := hx135_0
        obtain rfl : ad134 = ad135 := (by injection e135)
        replace hx135_0 := (HB.out.cell (zT w _ hx135_0)).trans hx135_0
        replace hx135_1 := (HB.out.cell (zT w _ hx135_1)).trans hx135_1
        replace hx135_2 := (HB.out.cell (zT w _ hx135_2)).trans hx135_2
        replace hx135_3 := (HB.out.cell (zT w _ hx135_3)).trans hx135_3
        replace hx135_4 := (HB.out.cell (zT w _ hx135_4)).trans hx135_4
        replace hx135_5 := (HB.out.cell (zT w _ hx135_5)).trans hx135_5
        replace hx135_6 := (HB.out.cell (zT w _ hx135_6)).trans hx135_6
        replace hx135_7 := (HB.out.cell (zT w _ hx135_7)).trans hx135_7
        replace hx135_8 := (HB.out.cell (zT w _ hx135_8)).trans hx135_8
        have HR135_6 := zM hi135_6
        have HC135_6 := zM hl135_6
        clear hi135_6 hl135_6
        replace p135 := eq_true p135
        replace q135 := eq_true q135
        have p136 : 0 ≤ (x10_3 : Int) := zO (by first | (with_reducible assumption) | assumption)
        have q136 : x10_3 < (((rd_T90 l0_1 x9_2).f6).length : Int) := zO (by first | (with_reducible assumption) | assumption)
        obtain ⟨ad136, e136, hx136_0, hx136_1⟩ := at_T117 HR135_6.out x10_3 p136 q136
        have hw136_1 := hx136_1
        have hw136_0 := hx136_0
        cases e136
        replace hx136_0 := (HB.out.cell (zT w _ hx136_0)).trans hx136_0
        replace hx136_1 := (HB.out.cell (zT w _ hx136_1)).trans hx136_1
        replace p136 := eq_true p136
        replace q136 := eq_true q136
        refine start_ (n := 13) (S := fun w' => w'.cell? ⟨gb124, 0, none⟩ = some (.int .i64 a0_0) ∧ w'.cell? ⟨gb124, 1, none⟩ = some (.slice (some ad134) l0_1.length c0_1) ∧ w'.cell? (ad134.add ((x9_2).toNat * 9)) = some (.int .i64 ((rd_T90 l0_1 x9_2).f0)) ∧ w'.cell? ⟨(ad134.add ((x9_2).toNat * 9)).block, (ad134.add ((x9_2).toNat * 9)).off + 1, none⟩ = some (.int .i64 ((rd_T90 l0_1 x9_2).f1)) ∧ w'.cell? ⟨(ad134.add ((x9_2).toNat * 9)).block, (ad134.add ((x9_2).toNat * 9)).off + 2, none⟩ = some (.int .i64 ((rd_T90 l0_1 x9_2).f2)) ∧ w'.cell? ⟨(ad134.add ((x9_2).toNat * 9)).block, (ad134.add ((x9_2).toNat * 9)).off + 3, none⟩ = some (.int .i64 ((rd_T90 l0_1 x9_2).f3)) ∧ w'.cell? ⟨(ad134.add ((x9_2).toNat * 9)).block, (ad134.add ((x9_2).toNat * 9)).off + 4, none⟩ = some (.int .i64 ((rd_T90 l0_1 x9_2).f4)) ∧ w'.cell? ⟨(ad134.add ((x9_2).toNat * 9)).block, (ad134.add ((x9_2).toNat * 9)).off + 5, none⟩ = some (.string ((rd_T90 l0_1 x9_2).f5)) ∧ w'.cell? ⟨(ad134.add ((x9_2).toNat * 9)).block, (ad134.add ((x9_2).toNat * 9)).off + 6, none⟩ = some (.slice (some ad136) ((rd_T90 l0_1 x9_2).f6).length c135_6) ∧ w'.cell? ⟨(ad134.add ((x9_2).toNat * 9)).block, (ad134.add ((x9_2).toNat * 9)).off + 7, none⟩ = some (.int .i64 ((rd_T90 l0_1 x9_2).f7)) ∧ w'.cell? ⟨(ad134.add ((x9_2).toNat * 9)).block, (ad134.add ((x9_2).toNat * 9)).off + 8, none⟩ = some (.int .i64 ((rd_T90 l0_1 x9_2).f8)) ∧ w'.cell? (ad136.add ((x10_3).toNat * 2)) = some (.string ((rd_T117 ((rd_T90 l0_1 x9_2).f6) x10_3).f0)) ∧ w'.cell? ⟨(ad136.add ((x10_3).toNat * 2)).block, (ad136.add ((x10_3).toNat * 2)).off + 1, none⟩ = some (.int .i64 ((rd_T117 ((rd_T90 l0_1 x9_2).f6) x10_3).f1))) (ds := []) #[false, false, false, false, false, false, false, false, false, false, false, false, false] (by kernel_rfl) rfl rfl ⟨(zC BK124.out 0).trans rfl, (zC BK124.out 1).trans rfl, ((HB.out.cell (zT w _ hw135_0)).trans hw135_0), ((HB.out.cell (zT w _ hw135_1)).trans hw135_1), ((HB.out.cell (zT w _ hw135_2)).trans hw135_2), ((HB.out.cell (zT w _ hw135_3)).trans hw135_3), ((HB.out.cell (zT w _ hw135_4)).trans hw135_4), ((HB.out.cell (zT w _ hw135_5)).trans hw135_5), ((HB.out.cell (zT w _ hw135_6)).trans hw135_6), ((HB.out.cell (zT w _ hw135_7)).trans hw135_7), ((HB.out.cell (zT w _ hw135_8)).trans hw135_8), ((HB.out.cell (zT w _ hw136_0)).trans hw136_0), ((HB.out.cell (zT w _ hw136_1)).trans hw136_1)⟩ (fun hHeld => ?_); refine with_tabW spec_l4Below.tab17 spec_l4Below.bits17 (fun HT_ HW_ => ?_)
        generalize wr.drew = w57 at HO_5 HO_6 BK124 HB HR135_6 hx135_0 hx135_1 hx135_2 hx135_3 hx135_4 hx135_5 hx135_6 hx135_7 hx135_8 hx136_0 hx136_1 hHeld ⊢
        refine pure_ (i := 1) (N := some 60) (v := ?_) (a' := ?_) #[false, true, false, false, false, false, false, false, false, false, false, false, false] rfl rfl (any_of HT_.out (by kernel_rfl)) (fun _ _ _ h => h) (Or.inl ⟨by rfl, ?_⟩) ?_ ?_
        rotate_left
        ·intro w'
         go_simp
         with_reducible rfl
        rotate_left
        ·simp only [Act.put, List.setIfInBounds_toArray, List.set_cons_zero, List.set_cons_succ, i64_w, i32_w]
         rfl
        refine pure_ (i := 3) (N := some 62) (v := ?_) (a' := ?_) #[false, true, false, true, false, false, false, false, false, false, false, false, false] rfl rfl (any_of HT_.out (by kernel_rfl)) (fun _ _ _ h => h) (Or.inl ⟨by rfl, ?_⟩) ?_ ?_
        rotate_left
        ·intro w'
         go_simp
         with_reducible rfl
        rotate_left
        ·simp only [Act.put, List.setIfInBounds_toArray, List.set_cons_zero, List.set_cons_succ, i64_w, i32_w]
         rfl
        refine pure_ (i := 7) (N := some 66) (v := ?_) (a' := ?_) #[false, true, false, true, false, false, false, true, false, false, false, false, false] rfl rfl (any_of HT_.out (by kernel_rfl)) (fun _ _ _ h => h) (Or.inl ⟨by rfl, ?_⟩) ?_ ?_
        rotate_left
        ·intro w'
         go_simp
         with_reducible rfl
        rotate_left
        ·simp only [Act.put, List.setIfInBounds_toArray, List.set_cons_zero, List.set_cons_succ, i64_w, i32_w]
         rfl
        refine take_ (i := 0) (N := some 59) (v := ?_) (a' := ?_) #[true, true, false, true, false, false, false, true, false, false, false, false, false] rfl rfl (take_ofW HT_.out HW_.out (by kernel_rfl)) (fun _ _ _ h => h) (Or.inl ⟨by rfl, ?_⟩) hHeld ?_ ?_
        rotate_left
        ·rintro w' ⟨s0, s1, s2, s3, s4, s5, s6, s7, s8, s9, s10, s11, s12⟩
         go_simp
         with_reducible rfl
        rotate_left
        ·simp only [Act.put, List.setIfInBounds_toArray, List.set_cons_zero, List.set_cons_succ, i64_w, i32_w]
         rfl
        refine take_ (i := 2) (N := some 61) (v := ?_) (a' := ?_) #[true, true, true, true, false, false, false, true, false, false, false, false, false] rfl rfl (take_ofW HT_.out HW_.out (by kernel_rfl)) (fun _ _ _ h => h) (Or.inl ⟨by rfl, ?_⟩) hHeld ?_ ?_
        rotate_left
        ·rintro w' ⟨s0, s1, s2, s3, s4, s5, s6, s7, s8, s9, s10, s11, s12⟩
         go_simp
         with_reducible rfl
        rotate_left
        ·simp only [Act.put, List.setIfInBounds_toArray, List.set_cons_zero, List.set_cons_succ, i64_w, i32_w]
         rfl
        refine pure_ (i := 4) (N := some 63) (v := ?_) (a' := ?_) #[true, true, true, true, true, false, false, true, false, false, false, false, false] rfl rfl (any_of HT_.out (by kernel_rfl)) (fun _ _ _ h => h) (Or.inl ⟨by rfl, ?_⟩) ?_ ?_
        rotate_left
        ·intro w'
         go_simp
         with_reducible rfl
        rotate_left
        ·simp only [Act.put, List.setIfInBounds_toArray, List.set_cons_zero, List.set_cons_succ, i64_w, i32_w]
         rfl
        refine pure_ (i := 5) (N := some 64) (v := ?_) (a' := ?_) #[true, true, true, true, true, true, false, true, false, false, false, false, false] rfl rfl (any_of HT_.out (by kernel_rfl)) (fun _ _ _ h => h) (Or.inl ⟨by rfl, ?_⟩) ?_ ?_
        rotate_left
        ·intro w'
         go_simp
         with_reducible rfl
        rotate_left
        ·simp only [Act.put, List.setIfInBounds_toArray, List.set_cons_zero, List.set_cons_succ, i64_w, i32_w]
         rfl
        refine take_ (i := 6) (N := some 65) (v := ?_) (a' := ?_) #[true, true, true, true, true, true, true, true, false, false, false, false, false] rfl rfl (take_ofW HT_.out HW_.out (by kernel_rfl)) (fun _ _ _ h => h) (Or.inl ⟨by rfl, ?_⟩) hHeld ?_ ?_
        rotate_left
        ·rintro w' ⟨s0, s1, s2, s3, s4, s5, s6, s7, s8, s9, s10, s11, s12⟩
         go_simp
         with_reducible rfl
        rotate_left
        ·simp only [Act.put, List.setIfInBounds_toArray, List.set_cons_zero, List.set_cons_succ, i64_w, i32_w]
         rfl
        refine pure_ (i := 8) (N := some 67) (v := ?_) (a' := ?_) #[true, true, true, true, true, true, true, true, true, false, false, false, false] rfl rfl (any_of HT_.out (by kernel_rfl)) (fun _ _ _ h => h) (Or.inl ⟨by rfl, ?_⟩) ?_ ?_
        rotate_left
        ·intro w'
         go_simp
         with_reducible rfl
        rotate_left
        ·simp only [Act.put, List.setIfInBounds_toArray, List.set_cons_zero, List.set_cons_succ, i64_w, i32_w]
         rfl
        refine pure_ (i := 9) (N := some 68) (v := ?_) (a' := ?_) #[true, true, true, true, true, true, true, true, true, true, false, false, false] rfl rfl (any_of HT_.out (by kernel_rfl)) (fun _ _ _ h => h) (Or.inl ⟨by rfl, ?_⟩) ?_ ?_
        rotate_left
        ·intro w'
         go_simp
         with_reducible rfl
        rotate_left
        ·simp only [Act.put, List.setIfInBounds_toArray, List.set_cons_zero, List.set_cons_succ, i64_w, i32_w]
         rfl
        refine take_ (i := 10) (N := some 69) (v := ?_) (a' := ?_) #[true, true, true, true, true, true, true, true, true, true, true, false, false] rfl rfl (take_ofW HT_.out HW_.out (by kernel_rfl)) (fun _ _ _ h => h) (Or.inl ⟨by rfl, ?_⟩) hHeld ?_ ?_
        rotate_left
        ·rintro w' ⟨s0, s1, s2, s3, s4, s5, s6, s7, s8, s9, s10, s11, s12⟩
         go_simp
         with_reducible rfl
        rotate_left
        ·simp only [Act.put, List.setIfInBounds_toArray, List.set_cons_zero, List.set_cons_succ, i64_w, i32_w]
         rfl
        refine one_ (i := 11) (N := some 70) #[true, true, true, true, true, true, true, true, true, true, true, true, false] rfl rfl (one_of HT_.out (by kernel_rfl)) (by decide) (fun K hK => ?_)
        refine goes_ Tryd.func65 (by kernel_rfl) rfl #[.agg #[.int .i64 a0_0, .slice (some ad134) l0_1.length c0_1], .int .i64 ((rd_T117 ((rd_T90 l0_1 x9_2).f6) x10_3).f1)] (by rfl) rfl rfl (by (try simp only [List.map_toArray, List.map_cons, List.map_nil]); first | done | rfl | (simp only [List.length_drop, List.length_take]; rfl)) ?_
        with_reducible refine (spec_l4At.calls k3 a0_0 _ _ l0_1 ((rd_T117 ((rd_T90 l0_1 x9_2).f6) x10_3).f1) t137 _ ?side1 ?side2 A42.out).mono ?_
        (case side1 => repeat (first | exact (Kd.C_below HR0_1.out HB.out) | (with_reducible refine Kd.C_alloc ?_ _) | (with_reducible refine Kd.C_drewN ?_ _) | (with_reducible refine Kd.C_drew ?_)))
        (case side2 => exact HC0_1.out)
        rintro e w58 ⟨rfl, hb⟩
        refine ⟨_, rfl, ?_⟩
        have n0_ := zM (Kd.R_below (by (with_reducible repeat (first | apply Kd.R_alloc | apply Kd.R_drewN | apply Kd.R_drew)); exact HO_5.out) hb)
        have n1_ := zM (Kd.R_below (by (with_reducible repeat (first | apply Kd.R_alloc | apply Kd.R_drewN | apply Kd.R_drew)); exact HO_6.out) hb)
        have n2_ := zM (zL (g := gb124) (o := .cells #[.int .i64 a0_0, .slice (some ad134) l0_1.length c0_1] 45 (0, 0)) (by (with_reducible repeat (first | refine zK ?_ _ | refine zW ?_ | refine zB ?_ _)); exact BK124.out) hb)
        have n3_ := zM (zP (by repeat (first | exact HB.out | apply zA | apply zN | apply zD | refine zS ?_ GE124.out)) hb)
        clear HO_5
        clear HO_6
        clear BK124
        clear HB
        have HO_5 := n0_
        have HO_6 := n1_
        have BK124 := n2_
        have HB := n3_
        clear n0_ n1_ n2_ n3_
        (try clear hb)
        (try clear hb2)
        (try clear hk)
        (try clear hi)
        refine hK.out _ _ ⟨(zC BK124.out 0).trans rfl, (zC BK124.out 1).trans rfl, ((HB.out.cell (zT w _ hw135_0)).trans hw135_0), ((HB.out.cell (zT w _ hw135_1)).trans hw135_1), ((HB.out.cell (zT w _ hw135_2)).trans hw135_2), ((HB.out.cell (zT w _ hw135_3)).trans hw135_3), ((HB.out.cell (zT w _ hw135_4)).trans hw135_4), ((HB.out.cell (zT w _ hw135_5)).trans hw135_5), ((HB.out.cell (zT w _ hw135_6)).trans hw135_6), ((HB.out.cell (zT w _ hw135_7)).trans hw135_7), ((HB.out.cell (zT w _ hw135_8)).trans hw135_8), ((HB.out.cell (zT w _ hw136_0)).trans hw136_0), ((HB.out.cell (zT w _ hw136_1)).trans hw136_1)⟩ (fun hHeld => ?_)
        clear hK K
        refine norm_ (a' := ?_) ?_ ?_
        rotate_left
        ·show Act.put _ (some 70) _ = _
         simp only [Act.put, List.setIfInBounds_toArray, List.set_cons_zero, List.set_cons_succ, i64_w, i32_w]
         rfl
        refine pure_ (i := 12) (N := some 11) (v := ?_) (a' := ?_) #[true, true, true, true, true, true, true, true, true, true, true, true, true] rfl rfl (any_of HT_.out (by kernel_rfl)) (fun _ _ _ h => h) (Or.inl ⟨by rfl, ?_⟩) ?_ ?_
        rotate_left
        ·intro w'
         go_simp
         with_reducible rfl
        rotate_left
        ·simp only [Act.put, List.setIfInBounds_toArray, List.set_cons_zero, List.set_cons_succ, i64_w, i32_w]
         rfl
        refine done_ (done_of HT_.out (by kernel_rfl)) ?_
        try go_wp2
        (try simp only [← hl6_3])
        go_roundg k3
        case measure => have := HK1.out; have := HK2.out; have := HK3.out; omega
        case rel => exact ⟨(x5_3), (x6_3), (wrap64 (x10_3 + 1)), (by first | rfl | (simp; done) | (simp [*]; done) | (simp; exact zQ _)), H', ⟨by have := HK1.out; have := HK2.out; have := HK3.out; omega⟩, ⟨by (try simp only [hl6_1]); (try simp only [hl6_2]); (try simp only [hl6_3]); (with_reducible repeat (first | apply Kd.R_alloc | apply Kd.R_drewN | apply Kd.R_drew)); exact HO_5.out⟩, ⟨by (try simp only [hl6_1]); (try simp only [hl6_2]); (try simp only [hl6_3]); (with_reducible repeat (first | apply Kd.R_alloc | apply Kd.R_drewN | apply Kd.R_drew)); exact HO_6.out⟩, ⟨by (try simp only [hl6_1]); (try simp only [hl6_2]); (try simp only [hl6_3]); (with_reducible repeat (first | refine zK ?_ _ | refine zW ?_ | refine zB ?_ _)); exact BK124.out⟩, ⟨by repeat (first | (with_reducible first | exact HB.out | apply zA | apply zN | apply zD | refine zS ?_ GE124.out) | exact HB.out)⟩⟩
       rw [if_pos c43] at H
       have c43b0 : decide (0 ≤ t137) = true := zE c43
       clear c43
       by_cases c44 : 0 ≤ t137
       rotate_left
       ·rw [if_neg c44] at H
        exact absurd H (by simp)
       rw [if_pos c44] at H
       have c44b0 : decide (0 ≤ t137) = true := zE c44
       clear c44
       by_cases c45 : t137 < (x5_3.length : Int)
       rotate_left
       ·rw [if_neg c45] at H
        exact absurd H (by simp)
       rw [if_pos c45] at H
       have c45b0 : decide (t137 < (x5_3.length : Int)) = true := zE c45
       clear c45
       obtain ⟨y138, hy138⟩ : ∃ y_ : List Bool, y_ = (x5_3.set (t137 : Int).toNat true) := ⟨_, rfl⟩
       replace H : (if t137 < (x6_3.length : Int) then (spec_l4Below.l2 k3 y138 (x6_3.set (t137 : Int).toNat true) x8_1 x9_2 (wrap64 (x10_3 + 1)) a0_0 l0_1) else (none)) = some r := by first | (rw [hy138]; with_reducible exact H) | (have H2_ := (Option.bind_some _ _).symm.trans H; rw [hy138]; with_reducible exact H2_) | (have H2_ := (Option.bind_some _ _).symm.trans H; with_reducible exact H2_) | with_reducible exact H | (rw [hy138]; exact H) | exact H
       have Ny138 := zM hy138
       clear hy138
       by_cases c47 : t137 < (x6_3.length : Int)
       rotate_left
       ·rw [if_neg c47] at H
        exact absurd H (by simp)
       rw [if_pos c47] at H
       have c47b0 : decide (t137 < (x6_3.length : Int)) = true := zE c47
       clear c47
       obtain ⟨y139, hy139⟩ : ∃ y_ : List Bool, y_ = (x6_3.set (t137 : Int).toNat true) := ⟨_, rfl⟩
       replace H : (spec_l4Below.l2 k3 y138 y139 x8_1 x9_2 (wrap64 (x10_3 + 1)) a0_0 l0_1) = some r := by first | (rw [hy139]; with_reducible exact H) | (have H2_ := (Option.bind_some _ _).symm.trans H; rw [hy139]; with_reducible exact H2_) | (have H2_ := (Option.bind_some _ _).symm.trans H; with_reducible exact H2_) | with_reducible exact H | (rw [hy139]; exact H) | exact H
       have Ny139 := zM hy139
       clear hy139
       have H' := zM H
       clear H
       have hcz49_0 : wr.cell? ⟨gb124, 0, none⟩ = some (.int .i64 a0_0) := (zC BK124.out 0).trans rfl
       have hcz49_1 : wr.cell? ⟨gb124, 1, none⟩ = some (.slice A0_1 l0_1.length c0_1) := (zC BK124.out 1).trans rfl
       have hfz49_0 := zF BK124.out 0
       have hfz49_1 := zF BK124.out 1
       have p134 : 0 ≤ (x9_2 : Int) := zO (by first | (with_reducible assumption) | assumption)
       have q134 : x9_2 < (l0_1.length : Int) := zO (by first | (with_reducible assumption) | assumption)
       obtain ⟨ad134, A134_6, c134_6, e134, hx134_0, hx134_1, hx134_2, hx134_3, hx134_4, hx134_5, hx134_6, hx134_7, hx134_8, hl134_6, hi134_6⟩ := at_T90 HR0_1.out x9_2 p134 q134
       cases e134
       replace hx134_0 := (HB.out.cell (zT w _ hx134_0)).trans hx134_0
       replace hx134_1 := (HB.out.cell (zT w _ hx134_1)).trans hx134_1
       replace hx134_2 := (HB.out.cell (zT w _ hx134_2)).trans hx134_2
       replace hx134_3 := (HB.out.cell (zT w _ hx134_3)).trans hx134_3
       replace hx134_4 := (HB.out.cell (zT w _ hx134_4)).trans hx134_4
       replace hx134_5 := (HB.out.cell (zT w _ hx134_5)).trans hx134_5
       replace hx134_6 := (HB.out.cell (zT w _ hx134_6)).trans hx134_6
       replace hx134_7 := (HB.out.cell (zT w _ hx134_7)).trans hx134_7
       replace hx134_8 := (HB.out.cell (zT w _ hx134_8)).trans hx134_8
       have HR134_6 := zM hi134_6
       have HC134_6 := zM hl134_6
       clear hi134_6 hl134_6
       replace p134 := eq_true p134
       replace q134 := eq_true q134
       try go_wp2
       have n0_ := zM (Kd.R_drew HO_5.out)
       have n1_ := zM (Kd.R_drew HO_6.out)
       have n2_ := zM (zW BK124.out)
       have n3_ := zM (zD HB.out)
       clear HO_5
       clear HO_6
       clear BK124
       clear HB
       have HO_5 := n0_
       have HO_6 := n1_
       have BK124 := n2_
       have HB := n3_
       clear n0_ n1_ n2_ n3_
       have p135 : 0 ≤ (x9_2 : Int) := zO (by first | (with_reducible assumption) | assumption)
       have q135 : x9_2 < (l0_1.length : Int) := zO (by first | (with_reducible assumption) | assumption)
       obtain ⟨ad135, A135_6, c135_6, e135, hx135_0, hx135_1, hx135_2, hx135_3, hx135_4, hx135_5, hx135_6, hx135_7, hx135_8, hl135_6, hi135_6⟩ := at_T90 HR0_1.out x9_2 p135 q135
       have hw135_8 := hx135_8
       have hw135_7 := hx135_7
       have hw135_6 := hx135_6
       have hw135_5 := hx135_5
       have hw135_4 := hx135_4
       have hw135_3 := hx135_3
       have hw135_2 := hx135_2
       have hw135_1 := hx135_1
       have hw135_0 := hx135_0
       obtain rfl : ad134 = ad135 := (by injection e135)
       replace hx135_0 := (HB.out.cell (zT w _ hx135_0)).trans hx135_0
       replace hx135_1 := (HB.out.cell (zT w _ hx135_1)).trans hx135_1
       replace hx135_2 := (HB.out.cell (zT w _ hx135_2)).trans hx135_2
       replace hx135_3 := (HB.out.cell (zT w _ hx135_3)).trans hx135_3
       replace hx135_4 := (HB.out.cell (zT w _ hx135_4)).trans hx135_4
       replace hx135_5 := (HB.out.cell (zT w _ hx135_5)).trans hx135_5
       replace hx135_6 := (HB.out.cell (zT w _ hx135_6)).trans hx135_6
       replace hx135_7 := (HB.out.cell (zT w _ hx135_7)).trans hx135_7
       replace hx135_8 := (HB.out.cell (zT w _ hx135_8)).trans hx135_8
       have HR135_6 := zM hi135_6
       have HC135_6 := zM hl135_6
       clear hi135_6 hl135_6
       replace p135 := eq_true p135
       replace q135 := eq_true q135
       have p136 : 0 ≤ (x10_3 : Int) := zO (by first | (with_reducible assumption) | assumption)
       have q136 : x10_3 < (((rd_T90 l0_1 x9_2).f6).length : Int) := zO (by first | (with_reducible assumption) | assumption)
       obtain ⟨ad136, e136, hx136_0, hx136_1⟩ := at_T117 HR135_6.out x10_3 p136 q136
       have hw136_1 := hx136_1
       have hw136_0 := hx136_0
       cases e136
       replace hx136_0 := (HB.out.cell (zT w _ hx136_0)).trans hx136_0
       replace hx136_1 := (HB.out.cell (zT w _ hx136_1)).trans hx136_1
       replace p136 := eq_true p136
       replace q136 := eq_true q136
       refine start_ (n := 13) (S := fun w' => w'.cell? ⟨gb124, 0, none⟩ = some (.int .i64 a0_0) ∧ w'.cell? ⟨gb124, 1, none⟩ = some (.slice (some ad134) l0_1.length c0_1) ∧ w'.cell? (ad134.add ((x9_2).toNat * 9)) = some (.int .i64 ((rd_T90 l0_1 x9_2).f0)) ∧ w'.cell? ⟨(ad134.add ((x9_2).toNat * 9)).block, (ad134.add ((x9_2).toNat * 9)).off + 1, none⟩ = some (.int .i64 ((rd_T90 l0_1 x9_2).f1)) ∧ w'.cell? ⟨(ad134.add ((x9_2).toNat * 9)).block, (ad134.add ((x9_2).toNat * 9)).off + 2, none⟩ = some (.int .i64 ((rd_T90 l0_1 x9_2).f2)) ∧ w'.cell? ⟨(ad134.add ((x9_2).toNat * 9)).block, (ad134.add ((x9_2).toNat * 9)).off + 3, none⟩ = some (.int .i64 ((rd_T90 l0_1 x9_2).f3)) ∧ w'.cell? ⟨(ad134.add ((x9_2).toNat * 9)).block, (ad134.add ((x9_2).toNat * 9)).off + 4, none⟩ = some (.int .i64 ((rd_T90 l0_1 x9_2).f4)) ∧ w'.cell? ⟨(ad134.add ((x9_2).toNat * 9)).block, (ad134.add ((x9_2).toNat * 9)).off + 5, none⟩ = some (.string ((rd_T90 l0_1 x9_2).f5)) ∧ w'.cell? ⟨(ad134.add ((x9_2).toNat * 9)).block, (ad134.add ((x9_2).toNat * 9)).off + 6, none⟩ = some (.slice (some ad136) ((rd_T90 l0_1 x9_2).f6).length c135_6) ∧ w'.cell? ⟨(ad134.add ((x9_2).toNat * 9)).block, (ad134.add ((x9_2).toNat * 9)).off + 7, none⟩ = some (.int .i64 ((rd_T90 l0_1 x9_2).f7)) ∧ w'.cell? ⟨(ad134.add ((x9_2).toNat * 9)).block, (ad134.add ((x9_2).toNat * 9)).off + 8, none⟩ = some (.int .i64 ((rd_T90 l0_1 x9_2).f8)) ∧ w'.cell? (ad136.add ((x10_3).toNat * 2)) = some (.string ((rd_T117 ((rd_T90 l0_1 x9_2).f6) x10_3).f0)) ∧ w'.cell? ⟨(ad136.add ((x10_3).toNat * 2)).block, (ad136.add ((x10_3).toNat * 2)).off + 1, none⟩ = some (.int .i64 ((rd_T117 ((rd_T90 l0_1 x9_2).f6) x10_3).f1))) (ds := []) #[false, false, false, false, false, false, false, false, false, false, false, false, false] (by kernel_rfl) rfl rfl ⟨(zC BK124.out 0).trans rfl, (zC BK124.out 1).trans rfl, ((HB.out.cell (zT w _ hw135_0)).trans hw135_0), ((HB.out.cell (zT w _ hw135_1)).trans hw135_1), ((HB.out.cell (zT w _ hw135_2)).trans hw135_2), ((HB.out.cell (zT w _ hw135_3)).trans hw135_3), ((HB.out.cell (zT w _ hw135_4)).trans hw135_4), ((HB.out.cell (zT w _ hw135_5)).trans hw135_5), ((HB.out.cell (zT w _ hw135_6)).trans hw135_6), ((HB.out.cell (zT w _ hw135_7)).trans hw135_7), ((HB.out.cell (zT w _ hw135_8)).trans hw135_8), ((HB.out.cell (zT w _ hw136_0)).trans hw136_0), ((HB.out.cell (zT w _ hw136_1)).trans hw136_1)⟩ (fun hHeld => ?_); refine with_tabW spec_l4Below.tab17 spec_l4Below.bits17 (fun HT_ HW_ => ?_)
       generalize wr.drew = w50 at HO_5 HO_6 BK124 HB HR135_6 hx135_0 hx135_1 hx135_2 hx135_3 hx135_4 hx135_5 hx135_6 hx135_7 hx135_8 hx136_0 hx136_1 hHeld ⊢
       refine pure_ (i := 1) (N := some 60) (v := ?_) (a' := ?_) #[false, true, false, false, false, false, false, false, false, false, false, false, false] rfl rfl (any_of HT_.out (by kernel_rfl)) (fun _ _ _ h => h) (Or.inl ⟨by rfl, ?_⟩) ?_ ?_
       rotate_left
       ·intro w'
        go_simp
        with_reducible rfl
       rotate_left
       ·simp only [Act.put, List.setIfInBounds_toArray, List.set_cons_zero, List.set_cons_succ, i64_w, i32_w]
        rfl
       refine pure_ (i := 3) (N := some 62) (v := ?_) (a' := ?_) #[false, true, false, true, false, false, false, false, false, false, false, false, false] rfl rfl (any_of HT_.out (by kernel_rfl)) (fun _ _ _ h => h) (Or.inl ⟨by rfl, ?_⟩) ?_ ?_
       rotate_left
       ·intro w'
        go_simp
        with_reducible rfl
       rotate_left
       ·simp only [Act.put, List.setIfInBounds_toArray, List.set_cons_zero, List.set_cons_succ, i64_w, i32_w]
        rfl
       refine pure_ (i := 7) (N := some 66) (v := ?_) (a' := ?_) #[false, true, false, true, false, false, false, true, false, false, false, false, false] rfl rfl (any_of HT_.out (by kernel_rfl)) (fun _ _ _ h => h) (Or.inl ⟨by rfl, ?_⟩) ?_ ?_
       rotate_left
       ·intro w'
        go_simp
        with_reducible rfl
       rotate_left
       ·simp only [Act.put, List.setIfInBounds_toArray, List.set_cons_zero, List.set_cons_succ, i64_w, i32_w]
        rfl
       refine take_ (i := 0) (N := some 59) (v := ?_) (a' := ?_) #[true, true, false, true, false, false, false, true, false, false, false, false, false] rfl rfl (take_ofW HT_.out HW_.out (by kernel_rfl)) (fun _ _ _ h => h) (Or.inl ⟨by rfl, ?_⟩) hHeld ?_ ?_
       rotate_left
       ·rintro w' ⟨s0, s1, s2, s3, s4, s5, s6, s7, s8, s9, s10, s11, s12⟩
        go_simp
        with_reducible rfl
       rotate_left
       ·simp only [Act.put, List.setIfInBounds_toArray, List.set_cons_zero, List.set_cons_succ, i64_w, i32_w]
        rfl
       refine take_ (i := 2) (N := some 61) (v := ?_) (a' := ?_) #[true, true, true, true, false, false, false, true, false, false, false, false, false] rfl rfl (take_ofW HT_.out HW_.out (by kernel_rfl)) (fun _ _ _ h => h) (Or.inl ⟨by rfl, ?_⟩) hHeld ?_ ?_
       rotate_left
       ·rintro w' ⟨s0, s1, s2, s3, s4, s5, s6, s7, s8, s9, s10, s11, s12⟩
        go_simp
        with_reducible rfl
       rotate_left
       ·simp only [Act.put, List.setIfInBounds_toArray, List.set_cons_zero, List.set_cons_succ, i64_w, i32_w]
        rfl
       refine pure_ (i := 4) (N := some 63) (v := ?_) (a' := ?_) #[true, true, true, true, true, false, false, true, false, false, false, false, false] rfl rfl (any_of HT_.out (by kernel_rfl)) (fun _ _ _ h => h) (Or.inl ⟨by rfl, ?_⟩) ?_ ?_
       rotate_left
       ·intro w'
        go_simp
        with_reducible rfl
       rotate_left
       ·simp only [Act.put, List.setIfInBounds_toArray, List.set_cons_zero, List.set_cons_succ, i64_w, i32_w]
        rfl
       refine pure_ (i := 5) (N := some 64) (v := ?_) (a' := ?_) #[true, true, true, true, true, true, false, true, false, false, false, false, false] rfl rfl (any_of HT_.out (by kernel_rfl)) (fun _ _ _ h => h) (Or.inl ⟨by rfl, ?_⟩) ?_ ?_
       rotate_left
       ·intro w'
        go_simp
        with_reducible rfl
       rotate_left
       ·simp only [Act.put, List.setIfInBounds_toArray, List.set_cons_zero, List.set_cons_succ, i64_w, i32_w]
        rfl
       refine take_ (i := 6) (N := some 65) (v := ?_) (a' := ?_) #[true, true, true, true, true, true, true, true, false, false, false, false, false] rfl rfl (take_ofW HT_.out HW_.out (by kernel_rfl)) (fun _ _ _ h => h) (Or.inl ⟨by rfl, ?_⟩) hHeld ?_ ?_
       rotate_left
       ·rintro w' ⟨s0, s1, s2, s3, s4, s5, s6, s7, s8, s9, s10, s11, s12⟩
        go_simp
        with_reducible rfl
       rotate_left
       ·simp only [Act.put, List.setIfInBounds_toArray, List.set_cons_zero, List.set_cons_succ, i64_w, i32_w]
        rfl
       refine pure_ (i := 8) (N := some 67) (v := ?_) (a' := ?_) #[true, true, true, true, true, true, true, true, true, false, false, false, false] rfl rfl (any_of HT_.out (by kernel_rfl)) (fun _ _ _ h => h) (Or.inl ⟨by rfl, ?_⟩) ?_ ?_
       rotate_left
       ·intro w'
        go_simp
        with_reducible rfl
       rotate_left
       ·simp only [Act.put, List.setIfInBounds_toArray, List.set_cons_zero, List.set_cons_succ, i64_w, i32_w]
        rfl
       refine pure_ (i := 9) (N := some 68) (v := ?_) (a' := ?_) #[true, true, true, true, true, true, true, true, true, true, false, false, false] rfl rfl (any_of HT_.out (by kernel_rfl)) (fun _ _ _ h => h) (Or.inl ⟨by rfl, ?_⟩) ?_ ?_
       rotate_left
       ·intro w'
        go_simp
        with_reducible rfl
       rotate_left
       ·simp only [Act.put, List.setIfInBounds_toArray, List.set_cons_zero, List.set_cons_succ, i64_w, i32_w]
        rfl
       refine take_ (i := 10) (N := some 69) (v := ?_) (a' := ?_) #[true, true, true, true, true, true, true, true, true, true, true, false, false] rfl rfl (take_ofW HT_.out HW_.out (by kernel_rfl)) (fun _ _ _ h => h) (Or.inl ⟨by rfl, ?_⟩) hHeld ?_ ?_
       rotate_left
       ·rintro w' ⟨s0, s1, s2, s3, s4, s5, s6, s7, s8, s9, s10, s11, s12⟩
        go_simp
        with_reducible rfl
       rotate_left
       ·simp only [Act.put, List.setIfInBounds_toArray, List.set_cons_zero, List.set_cons_succ, i64_w, i32_w]
        rfl
       refine one_ (i := 11) (N := some 70) #[true, true, true, true, true, true, true, true, true, true, true, true, false] rfl rfl (one_of HT_.out (by kernel_rfl)) (by decide) (fun K hK => ?_)
       refine goes_ Tryd.func65 (by kernel_rfl) rfl #[.agg #[.int .i64 a0_0, .slice (some ad134) l0_1.length c0_1], .int .i64 ((rd_T117 ((rd_T90 l0_1 x9_2).f6) x10_3).f1)] (by rfl) rfl rfl (by (try simp only [List.map_toArray, List.map_cons, List.map_nil]); first | done | rfl | (simp only [List.length_drop, List.length_take]; rfl)) ?_
       with_reducible refine (spec_l4At.calls k3 a0_0 _ _ l0_1 ((rd_T117 ((rd_T90 l0_1 x9_2).f6) x10_3).f1) t137 _ ?side1 ?side2 A42.out).mono ?_
       (case side1 => repeat (first | exact (Kd.C_below HR0_1.out HB.out) | (with_reducible refine Kd.C_alloc ?_ _) | (with_reducible refine Kd.C_drewN ?_ _) | (with_reducible refine Kd.C_drew ?_)))
       (case side2 => exact HC0_1.out)
       rintro e w51 ⟨rfl, hb⟩
       refine ⟨_, rfl, ?_⟩
       have n0_ := zM (Kd.R_below (by (with_reducible repeat (first | apply Kd.R_alloc | apply Kd.R_drewN | apply Kd.R_drew)); exact HO_5.out) hb)
       have n1_ := zM (Kd.R_below (by (with_reducible repeat (first | apply Kd.R_alloc | apply Kd.R_drewN | apply Kd.R_drew)); exact HO_6.out) hb)
       have n2_ := zM (zL (g := gb124) (o := .cells #[.int .i64 a0_0, .slice (some ad134) l0_1.length c0_1] 45 (0, 0)) (by (with_reducible repeat (first | refine zK ?_ _ | refine zW ?_ | refine zB ?_ _)); exact BK124.out) hb)
       have n3_ := zM (zP (by repeat (first | exact HB.out | apply zA | apply zN | apply zD | refine zS ?_ GE124.out)) hb)
       clear HO_5
       clear HO_6
       clear BK124
       clear HB
       have HO_5 := n0_
       have HO_6 := n1_
       have BK124 := n2_
       have HB := n3_
       clear n0_ n1_ n2_ n3_
       (try clear hb)
       (try clear hb2)
       (try clear hk)
       (try clear hi)
       refine hK.out _ _ ⟨(zC BK124.out 0).trans rfl, (zC BK124.out 1).trans rfl, ((HB.out.cell (zT w _ hw135_0)).trans hw135_0), ((HB.out.cell (zT w _ hw135_1)).trans hw135_1), ((HB.out.cell (zT w _ hw135_2)).trans hw135_2), ((HB.out.cell (zT w _ hw135_3)).trans hw135_3), ((HB.out.cell (zT w _ hw135_4)).trans hw135_4), ((HB.out.cell (zT w _ hw135_5)).trans hw135_5), ((HB.out.cell (zT w _ hw135_6)).trans hw135_6), ((HB.out.cell (zT w _ hw135_7)).trans hw135_7), ((HB.out.cell (zT w _ hw135_8)).trans hw135_8), ((HB.out.cell (zT w _ hw136_0)).trans hw136_0), ((HB.out.cell (zT w _ hw136_1)).trans hw136_1)⟩ (fun hHeld => ?_)
       clear hK K
       refine norm_ (a' := ?_) ?_ ?_
       rotate_left
       ·show Act.put _ (some 70) _ = _
        simp only [Act.put, List.setIfInBounds_toArray, List.set_cons_zero, List.set_cons_succ, i64_w, i32_w]
        rfl
       refine pure_ (i := 12) (N := some 11) (v := ?_) (a' := ?_) #[true, true, true, true, true, true, true, true, true, true, true, true, true] rfl rfl (any_of HT_.out (by kernel_rfl)) (fun _ _ _ h => h) (Or.inl ⟨by rfl, ?_⟩) ?_ ?_
       rotate_left
       ·intro w'
        go_simp
        with_reducible rfl
       rotate_left
       ·simp only [Act.put, List.setIfInBounds_toArray, List.set_cons_zero, List.set_cons_succ, i64_w, i32_w]
        rfl
       refine done_ (done_of HT_.out (by kernel_rfl)) ?_
       have p46 : 0 ≤ (t137 : Int) := zO (by first | (with_reducible assumption) | assumption)
       have q46 : (t137 : Int) < ((x5_3.length : Int) : Int) := zO (by first | (with_reducible assumption) | assumption)
       obtain ⟨go46, co46, eo46, gb46, gl46, cl46, HG46⟩ := Kd.R_form HO_5.out (by omega)
       (first | cases eo46 | (injection eo46 with ea_ en_ ec_; (first | subst ea_ | (injection ea_ with ea_; subst ea_)); subst ec_; clear en_))
       have GB46 := zM gb46
       have GG46 := zM HG46
       clear gb46 gl46 HG46
       obtain ⟨hx46_0, hf46_0⟩ := Kd.R_celln false HO_5.out (t137 : Int) p46 q46
       replace p46 := eq_true p46
       replace q46 := eq_true q46
       obtain ⟨hy52_, hz52_⟩ := Kd.R_celln false HO_5.out (t137 : Int) (zO (by first | (with_reducible assumption) | assumption)) (zO (by first | (with_reducible assumption) | assumption))
       have HP52 := Kd.R_putg HO_5.out (t137 : Int) true
       try go_wp2_with (first | ((with_reducible refine gate_store (t := 4) (p := 75) rfl ?_); refine store_event (t := 4) (p := 75) (v := ?vo_w53) (w1 := (w51.setCell ⟨go46, (t137 : Int).toNat, none⟩ (.bool true))) ?hg ?ho ?hn ?hr ?_; (case ho => rfl); (case hg => rfl); (case hn => rfl); (case hr => first | (go_simp; done) | (go_simp; rfl)); intro w53 hw; have hg : w51.grownBy w53 (some go46) := (by rw [hw]; exact HP52.2); have hp_ : Kd.R Kd.bool 4 w53 w.heap.size (fun k_ => some k_ ≠ (.slice (some ⟨go18, 0, none⟩) x6_3.length co18 : Value).ownBlock) (.slice (some ⟨go46, 0, none⟩) x5_3.length co46) y138 := (by rw [hw, Ny138.out]; exact HP52.1); clear HP52; have n0_ := zM (hp_); have n1_ := zM (Kd.R_after (v := (.slice (some ⟨go46, 0, none⟩) x5_3.length co46)) (v1 := (.slice (some ⟨go46, 0, none⟩) x5_3.length co46)) (ok := (fun _ => True)) (by (with_reducible repeat (first | apply Kd.R_alloc | apply Kd.R_drewN | apply Kd.R_drew)); exact Kd.R_mono HO_6.out (fun _ hk => ⟨trivial, hk⟩)) hg (.inl rfl)); have n2_ := zM (blk_grown (g := gb124) (o := .cells #[.int .i64 a0_0, .slice (some ad134) l0_1.length c0_1] 45 (0, 0)) (by (with_reducible repeat (first | refine zK ?_ _ | refine zW ?_ | refine zB ?_ _)); exact BK124.out) hg (Kd.R_ne HO_5.out BK124.out (by decide))); have n3_ := zM ((by rw [hw]; exact zS (HB.out) GB46.out : Below w.heap.size w w53)); clear HO_5; clear HO_6; clear BK124; clear HB; have HO_5 := n0_; have HO_6 := n1_; have BK124 := n2_; have HB := n3_; clear n0_ n1_ n2_ n3_; clear hg hw hp_; have p48 : 0 ≤ (t137 : Int) := zO (by first | (with_reducible assumption) | assumption); have q48 : (t137 : Int) < ((x6_3.length : Int) : Int) := zO (by first | (with_reducible assumption) | assumption); obtain ⟨hx48_0, hf48_0⟩ := Kd.R_celln false HO_6.out (t137 : Int) p48 q48; replace p48 := eq_true p48; replace q48 := eq_true q48; have n_ := zM (Kd.R_mono (ok' := (fun k_ => some k_ ≠ (.slice (some ⟨go46, 0, none⟩) x5_3.length co46 : Value).ownBlock)) HO_6.out (fun k_ hk => hk.2)); clear HO_6; have HO_6 := n_; clear n_; obtain ⟨hy54_, hz54_⟩ := Kd.R_celln false HO_6.out (t137 : Int) (zO (by first | (with_reducible assumption) | assumption)) (zO (by first | (with_reducible assumption) | assumption)); have HP54 := Kd.R_putg HO_6.out (t137 : Int) true) | ((with_reducible refine gate_store (t := 4) (p := 78) rfl ?_); refine store_event (t := 4) (p := 78) (v := ?vo_w55) (w1 := (w53.setCell ⟨go18, (t137 : Int).toNat, none⟩ (.bool true))) ?hg ?ho ?hn ?hr ?_; (case ho => rfl); (case hg => rfl); (case hn => rfl); (case hr => first | (go_simp; done) | (go_simp; rfl)); intro w55 hw; have hg : w53.grownBy w55 (some go18) := (by rw [hw]; exact HP54.2); have hp_ : Kd.R Kd.bool 4 w55 w.heap.size (fun k_ => some k_ ≠ (.slice (some ⟨go46, 0, none⟩) x5_3.length co46 : Value).ownBlock) (.slice (some ⟨go18, 0, none⟩) x6_3.length co18) y139 := (by rw [hw, Ny139.out]; exact HP54.1); clear HP54; have n0_ := zM (Kd.R_after (v := (.slice (some ⟨go18, 0, none⟩) x6_3.length co18)) (v1 := (.slice (some ⟨go18, 0, none⟩) x6_3.length co18)) (ok := (fun _ => True)) (by (with_reducible repeat (first | apply Kd.R_alloc | apply Kd.R_drewN | apply Kd.R_drew)); exact Kd.R_mono HO_5.out (fun _ hk => ⟨trivial, hk⟩)) hg (.inl rfl)); have n1_ := zM (hp_); have n2_ := zM (blk_grown (g := gb124) (o := .cells #[.int .i64 a0_0, .slice (some ad134) l0_1.length c0_1] 45 (0, 0)) (by (with_reducible repeat (first | refine zK ?_ _ | refine zW ?_ | refine zB ?_ _)); exact BK124.out) hg (Kd.R_ne HO_6.out BK124.out (by decide))); have n3_ := zM ((by rw [hw]; exact zS (HB.out) GB18.out : Below w.heap.size w w55)); clear HO_5; clear HO_6; clear BK124; clear HB; have HO_5 := n0_; have HO_6 := n1_; have BK124 := n2_; have HB := n3_; clear n0_ n1_ n2_ n3_; clear hg hw hp_))
       (try simp only [← hl6_3])
       go_roundg k3
       case measure => have := HK1.out; have := HK2.out; have := HK3.out; omega
       case rel => exact ⟨(y138), (y139), (wrap64 (x10_3 + 1)), (by first | rfl | (simp; done) | (simp [*]; done) | (simp; exact zQ _)), H', ⟨by have := HK1.out; have := HK2.out; have := HK3.out; omega⟩, ⟨by (try simp only [hl6_1]); (try simp only [hl6_2]); (try simp only [hl6_3]); (with_reducible repeat (first | apply Kd.R_alloc | apply Kd.R_drewN | apply Kd.R_drew)); exact Kd.R_mono HO_5.out (fun _ hk => hk.2)⟩, ⟨by (try simp only [hl6_1]); (try simp only [hl6_2]); (try simp only [hl6_3]); (with_reducible repeat (first | apply Kd.R_alloc | apply Kd.R_drewN | apply Kd.R_drew)); exact HO_6.out⟩, ⟨by (try simp only [hl6_1]); (try simp only [hl6_2]); (try simp only [hl6_3]); (with_reducible repeat (first | refine zK ?_ _ | refine zW ?_ | refine zB ?_ _)); exact BK124.out⟩, ⟨by repeat (first | (with_reducible first | exact HB.out | apply zA | apply zN | apply zD | refine zS ?_ GE124.out) | exact HB.out)⟩⟩
end Go.Proofs.YtiopcpkfjikfdaaDoor.PFnExactWalk
