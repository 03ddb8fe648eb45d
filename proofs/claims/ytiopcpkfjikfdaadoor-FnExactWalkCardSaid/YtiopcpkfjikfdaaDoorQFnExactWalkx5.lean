/- Written by a program of mine (qprint.py, over the kit's print.py, and texts by hand) for the law FnExactWalk: the functions that it reaches, as Lean functions, and that the program answers as they do. -/
import Derived.Test.YtiopcpkfjikfdaaDoorQFnExactWalkx0
import Derived.Test.YtiopcpkfjikfdaaDoorQFnExactWalkx4
namespace Go.Proofs.YtiopcpkfjikfdaaDoor.PFnExactWalk
open Go.RowKit Go.Proofs.YtiopcpkfjikfdaaDoorW.PrintWords Go.Proofs.YtiopcpkfjikfdaaDoorW.PrintLast Go.Proofs.YtiopcpkfjikfdaaDoorW.PrintMore
attribute [local go_sem] max2_int min2_int max_two min_two max_three min_three max_four min_four   -- for this text's walks alone
set_option linter.unusedVariables false
set_option linter.unusedSimpArgs false

/-! ### spec_l4Named: function 60 -/
mutual
def spec_l4Named.l0 : Nat → Int → Int → Int → Int → List (S90) → Option (Int)
 | 0, _, _, _, _, _ => none
 | k + 1, x1, x5, x6, x141000, x141001 => if x6 < (x141001.length : Int) then (spec_l4Named.l1 k x1 x5 x6 0 x141000 x141001) else (some x5)
def spec_l4Named.l1 : Nat → Int → Int → Int → Int → Int → List (S90) → Option (Int)
 | 0, _, _, _, _, _, _ => none
 | k + 1, x1, x5, x6, x7, x141000, x141001 => if 0 ≤ x6 then (if x6 < (x141001.length : Int) then (if x7 < (((rd_T90 x141001 x6).f6).length : Int) then (if 0 ≤ x7 then (if ((rd_T117 ((rd_T90 x141001 x6).f6) x7).f1) = x1 then (spec_l4Named.l1 k x1 (wrap64 (x5 + 1)) x6 (wrap64 (x7 + 1)) x141000 x141001) else (spec_l4Named.l1 k x1 x5 x6 (wrap64 (x7 + 1)) x141000 x141001)) else (none)) else (spec_l4Named.l0 k x1 x5 (wrap64 (x6 + 1)) x141000 x141001)) else (none)) else (none)
end
def spec_l4Named.f (k : Nat) (a0_0 : Int) (l0_1 : List (S90)) (a1 : Int) : Option (Int) := spec_l4Named.l0 k a1 0 0 a0_0 l0_1
theorem spec_l4Named.mono_l : ∀ k, (∀ y0 y1 y2 y3 y4, LeO (spec_l4Named.l0 k y0 y1 y2 y3 y4) (spec_l4Named.l0 (k + 1) y0 y1 y2 y3 y4)) ∧ (∀ y0 y1 y2 y3 y4 y5, LeO (spec_l4Named.l1 k y0 y1 y2 y3 y4 y5) (spec_l4Named.l1 (k + 1) y0 y1 y2 y3 y4 y5))
 | 0 => ⟨fun _ _ _ _ _ r h => by simp [spec_l4Named.l0] at h, fun _ _ _ _ _ _ r h => by simp [spec_l4Named.l1] at h⟩
 | k + 1 => by
  obtain ⟨ih0, ih1⟩ := spec_l4Named.mono_l k
  refine ⟨?_, ?_⟩
  ·intro y0 y1 y2 y3 y4
   unfold spec_l4Named.l0
   repeat' first | (with_reducible exact ih0 _ _ _ _ _) | (with_reducible exact ih1 _ _ _ _ _ _) | (with_reducible exact LeO.refl _) | (with_reducible exact LeO.none _) | (with_reducible refine LeO.ite ?_ ?_) | (with_reducible refine LeO.bind ?_ (fun _ => ?_)) | exact LeO.none _ | refine LeO.ite ?_ ?_ | refine LeO.bind ?_ (fun _ => ?_)
  ·intro y0 y1 y2 y3 y4 y5
   unfold spec_l4Named.l1
   repeat' first | (with_reducible exact ih0 _ _ _ _ _) | (with_reducible exact ih1 _ _ _ _ _ _) | (with_reducible exact LeO.refl _) | (with_reducible exact LeO.none _) | (with_reducible refine LeO.ite ?_ ?_) | (with_reducible refine LeO.bind ?_ (fun _ => ?_)) | exact LeO.none _ | refine LeO.ite ?_ ?_ | refine LeO.bind ?_ (fun _ => ?_)
theorem spec_l4Named.mono : ∀ a0 a1 a2 k, LeO (spec_l4Named.f k a0 a1 a2) (spec_l4Named.f (k + 1) a0 a1 a2) := by
 intro a0 a1 a2 k
 obtain ⟨ih0, ih1⟩ := spec_l4Named.mono_l k
 unfold spec_l4Named.f
 repeat' first | (with_reducible exact ih0 _ _ _ _ _) | (with_reducible exact ih1 _ _ _ _ _ _) | (with_reducible exact LeO.refl _) | (with_reducible exact LeO.none _) | (with_reducible refine LeO.ite ?_ ?_) | (with_reducible refine LeO.bind ?_ (fun _ => ?_)) | exact LeO.none _ | refine LeO.ite ?_ ?_ | refine LeO.bind ?_ (fun _ => ?_)
set_option maxHeartbeats 8000000 in
set_option maxRecDepth 100000 in
theorem spec_l4Named.calls (k : Nat) (a0_0 : Int) (A0_1 : Option Addr) (c0_1 : Nat) (l0_1 : List (S90)) (a1 : Int) (r : Int) (w : World) (hr0_1 : Kd.C k90 w A0_1 l0_1.length l0_1) (hc0_1 : l0_1.length ≤ c0_1) (h : spec_l4Named.f k a0_0 l0_1 a1 = some r) :
  Calls Tryd.prog 60 #[.agg #[.int .i64 a0_0, .slice A0_1 l0_1.length c0_1], .int .i64 a1] w fun e w' => e = .returned (.int .i64 r) ∧ Below w.heap.size w w' := by
 have hu45 := Tryd.underlying45
 have HR0_1 := zM hr0_1
 have HC0_1 := zM hc0_1
 clear hr0_1 hc0_1
 have HB := zM (Below.refl w.heap.size w)
 have H : (spec_l4Named.l0 k a1 0 0 a0_0 l0_1) = some r := h
 clear h
 have H' := zM H
 clear H
 go_enter Tryd.func60, Tryd.ntmps60
 go_wp2_with (first | ((with_reducible refine gate_dst (N := 2) rfl ?_); refine box_event ?hg (N := 2) ?hd (cs := #[.int .i64 a0_0, .slice A0_1 l0_1.length c0_1]) (t := 45) ?hr ?_; (case hd => rfl); (case hg => rfl); (case hr => first | (go_simp; done) | (go_simp; rfl)); intro gb140 hg w3 hbox hb; have n0_ := zM (zP (by repeat (first | exact HB.out | apply zA | apply zN | apply zD)) hb); have n1_ := zM (hbox); have n2_ := zM ((by rw [hg]; exact (zZ (by repeat (first | exact HB.out | apply zA | apply zN | apply zD))) : w.heap.size ≤ gb140)); have n3_ := zM ((by rw [hg]; exact (zZ (by repeat (first | exact HB.out | apply zA | apply zN | apply zD))) : w.heap.size ≤ gb140)); clear HB; have HB := n0_; have BK140 := n1_; have GW140 := n2_; have GE140 := n3_; clear n0_ n1_ n2_ n3_; clear hb hbox hg))
 go_loopg [5, 6] k (fun kq v5 v6 w' => ∃ (x5_1 : Int) (x6_1 : Int), v5 = .int .i64 x5_1 ∧ v6 = .int .i64 x6_1 ∧ Aside0 (spec_l4Named.l0 kq a1 x5_1 x6_1 a0_0 l0_1 = some r) ∧ Aside0 (kq ≤ k) ∧ Aside0 (w'.heap[gb140]? = some (.cells #[.int .i64 a0_0, (.slice A0_1 l0_1.length c0_1)] 45 (0, 0))) ∧ Aside0 (Below w.heap.size w w'))
 case atStart => exact ⟨(0), (0), (by first | rfl | (simp; done) | (simp [*]; done) | (simp; exact zQ _)), (by first | rfl | (simp; done) | (simp [*]; done) | (simp; exact zQ _)), H', ⟨Nat.le_refl _⟩, ⟨by (with_reducible repeat (first | refine zK ?_ _ | refine zW ?_ | refine zB ?_ _)); exact BK140.out⟩, ⟨by repeat (first | (with_reducible first | exact HB.out | apply zA | apply zN | apply zD | refine zS ?_ GE140.out) | exact HB.out)⟩⟩
 case round =>
  clear H'
  try clear p2
  obtain ⟨x5_1, x6_1, rfl, rfl, HA, HK1, BK140, HB⟩ := hrel
  cases gk with
  | zero => exact absurd HA.out (by simp [spec_l4Named.l0])
  | succ k1 =>
   have H := HA.out
   clear HA
   simp only [spec_l4Named.l0] at H
   by_cases c4 : x6_1 < (l0_1.length : Int)
   rotate_left
   ·rw [if_neg c4] at H
    have c4b0 : decide (x6_1 < (l0_1.length : Int)) = false := zG c4
    clear c4
    obtain rfl := zI H
    have hcz14_0 : wr.cell? ⟨gb140, 0, none⟩ = some (.int .i64 a0_0) := (zC BK140.out 0).trans rfl
    have hcz14_1 : wr.cell? ⟨gb140, 1, none⟩ = some (.slice A0_1 l0_1.length c0_1) := (zC BK140.out 1).trans rfl
    have hfz14_0 := zF BK140.out 0
    have hfz14_1 := zF BK140.out 1
    go_wp2
    go_ret
    exact ⟨by first | rfl | (simp [errW_none, errW_some] <;> rfl) | (simp [*, errW_none, errW_some] <;> rfl), by repeat (first | (with_reducible first | exact HB.out | apply zA | apply zN | apply zD | refine zS ?_ GE140.out) | exact HB.out)⟩

   rw [if_pos c4] at H
   have c4b0 : decide (x6_1 < (l0_1.length : Int)) = true := zE c4
   clear c4
   have H' := zM H
   clear H
   have hcz5_0 : wr.cell? ⟨gb140, 0, none⟩ = some (.int .i64 a0_0) := (zC BK140.out 0).trans rfl
   have hcz5_1 : wr.cell? ⟨gb140, 1, none⟩ = some (.slice A0_1 l0_1.length c0_1) := (zC BK140.out 1).trans rfl
   have hfz5_0 := zF BK140.out 0
   have hfz5_1 := zF BK140.out 1
   go_wp2
   go_loopg [5, 7] k1 (fun kq v5 v7 w' => ∃ (x5_2 : Int) (x7_2 : Int), v5 = .int .i64 x5_2 ∧ v7 = .int .i64 x7_2 ∧ Aside0 (spec_l4Named.l1 kq a1 x5_2 x6_1 x7_2 a0_0 l0_1 = some r) ∧ Aside0 (kq ≤ k1) ∧ Aside0 (w'.heap[gb140]? = some (.cells #[.int .i64 a0_0, (.slice A0_1 l0_1.length c0_1)] 45 (0, 0))) ∧ Aside0 (Below w.heap.size w w'))
   case atStart => exact ⟨(x5_1), (0), (by first | rfl | (simp; done) | (simp [*]; done) | (simp; exact zQ _)), (by first | rfl | (simp; done) | (simp [*]; done) | (simp; exact zQ _)), H', ⟨Nat.le_refl _⟩, ⟨by (with_reducible repeat (first | refine zK ?_ _ | refine zW ?_ | refine zB ?_ _)); exact BK140.out⟩, ⟨by repeat (first | (with_reducible first | exact HB.out | apply zA | apply zN | apply zD | refine zS ?_ GE140.out) | exact HB.out)⟩⟩
   case round =>
    clear H'
    try clear p2
    try clear c4
    try clear c4b0
    try clear hcz5_0
    try clear hcz5_1
    try clear hfz5_0
    try clear hfz5_1
    try clear p2
    obtain ⟨x5_2, x7_2, rfl, rfl, HA, HK2, BK140, HB⟩ := hrel
    cases gk with
    | zero => exact absurd HA.out (by simp [spec_l4Named.l1])
    | succ k2 =>
     have H := HA.out
     clear HA
     simp only [spec_l4Named.l1] at H
     by_cases c6 : 0 ≤ x6_1
     rotate_left
     ·rw [if_neg c6] at H
      exact absurd H (by simp)
     rw [if_pos c6] at H
     have c6b0 : decide (0 ≤ x6_1) = true := zE c6
     clear c6
     by_cases c7 : x6_1 < (l0_1.length : Int)
     rotate_left
     ·rw [if_neg c7] at H
      exact absurd H (by simp)
     rw [if_pos c7] at H
     have c7b0 : decide (x6_1 < (l0_1.length : Int)) = true := zE c7
     clear c7
     by_cases c8 : x7_2 < (((rd_T90 l0_1 x6_1).f6).length : Int)
     rotate_left
     ·rw [if_neg c8] at H
      have c8b0 : decide (x7_2 < (((rd_T90 l0_1 x6_1).f6).length : Int)) = false := zG c8
      clear c8
      have H' := zM H
      clear H
      have hcz13_0 : wr.cell? ⟨gb140, 0, none⟩ = some (.int .i64 a0_0) := (zC BK140.out 0).trans rfl
      have hcz13_1 : wr.cell? ⟨gb140, 1, none⟩ = some (.slice A0_1 l0_1.length c0_1) := (zC BK140.out 1).trans rfl
      have hfz13_0 := zF BK140.out 0
      have hfz13_1 := zF BK140.out 1
      have p141 : 0 ≤ (x6_1 : Int) := zO (by first | (with_reducible assumption) | assumption)
      have q141 : x6_1 < (l0_1.length : Int) := zO (by first | (with_reducible assumption) | assumption)
      obtain ⟨ad141, A141_6, c141_6, e141, hx141_0, hx141_1, hx141_2, hx141_3, hx141_4, hx141_5, hx141_6, hx141_7, hx141_8, hl141_6, hi141_6⟩ := at_T90 HR0_1.out x6_1 p141 q141
      cases e141
      replace hx141_0 := (HB.out.cell (zT w _ hx141_0)).trans hx141_0
      replace hx141_1 := (HB.out.cell (zT w _ hx141_1)).trans hx141_1
      replace hx141_2 := (HB.out.cell (zT w _ hx141_2)).trans hx141_2
      replace hx141_3 := (HB.out.cell (zT w _ hx141_3)).trans hx141_3
      replace hx141_4 := (HB.out.cell (zT w _ hx141_4)).trans hx141_4
      replace hx141_5 := (HB.out.cell (zT w _ hx141_5)).trans hx141_5
      replace hx141_6 := (HB.out.cell (zT w _ hx141_6)).trans hx141_6
      replace hx141_7 := (HB.out.cell (zT w _ hx141_7)).trans hx141_7
      replace hx141_8 := (HB.out.cell (zT w _ hx141_8)).trans hx141_8
      have HR141_6 := zM hi141_6
      have HC141_6 := zM hl141_6
      clear hi141_6 hl141_6
      replace p141 := eq_true p141
      replace q141 := eq_true q141
      go_wp2
      go_roundg k2
      case measure => have := HK1.out; have := HK2.out; omega
      case rel => exact ⟨(x5_2), (wrap64 (x6_1 + 1)), (by first | rfl | (simp; done) | (simp [*]; done) | (simp; exact zQ _)), (by first | rfl | (simp; done) | (simp [*]; done) | (simp; exact zQ _)), H', ⟨by have := HK1.out; have := HK2.out; omega⟩, ⟨by (with_reducible repeat (first | refine zK ?_ _ | refine zW ?_ | refine zB ?_ _)); exact BK140.out⟩, ⟨by repeat (first | (with_reducible first | exact HB.out | apply zA | apply zN | apply zD | refine zS ?_ GE140.out) | exact HB.out)⟩⟩
     rw [if_pos c8] at H
     have c8b0 : decide (x7_2 < (((rd_T90 l0_1 x6_1).f6).length : Int)) = true := zE c8
     clear c8
     by_cases c9 : 0 ≤ x7_2
     rotate_left
     ·rw [if_neg c9] at H
      exact absurd H (by simp)
     rw [if_pos c9] at H
     have c9b0 : decide (0 ≤ x7_2) = true := zE c9
     clear c9
     by_cases c10 : ((rd_T117 ((rd_T90 l0_1 x6_1).f6) x7_2).f1) = a1
     rotate_left
     ·rw [if_neg c10] at H
      have c10b0 : (((rd_T117 ((rd_T90 l0_1 x6_1).f6) x7_2).f1) == a1) = false := beq_eq_false_iff_ne.mpr c10
      have c10b1 : (((rd_T117 ((rd_T90 l0_1 x6_1).f6) x7_2).f1) != a1) = true := bne_iff_ne.mpr c10
      have H' := zM H
      clear H
      have hcz12_0 : wr.cell? ⟨gb140, 0, none⟩ = some (.int .i64 a0_0) := (zC BK140.out 0).trans rfl
      have hcz12_1 : wr.cell? ⟨gb140, 1, none⟩ = some (.slice A0_1 l0_1.length c0_1) := (zC BK140.out 1).trans rfl
      have hfz12_0 := zF BK140.out 0
      have hfz12_1 := zF BK140.out 1
      have p141 : 0 ≤ (x6_1 : Int) := zO (by first | (with_reducible assumption) | assumption)
      have q141 : x6_1 < (l0_1.length : Int) := zO (by first | (with_reducible assumption) | assumption)
      obtain ⟨ad141, A141_6, c141_6, e141, hx141_0, hx141_1, hx141_2, hx141_3, hx141_4, hx141_5, hx141_6, hx141_7, hx141_8, hl141_6, hi141_6⟩ := at_T90 HR0_1.out x6_1 p141 q141
      cases e141
      replace hx141_0 := (HB.out.cell (zT w _ hx141_0)).trans hx141_0
      replace hx141_1 := (HB.out.cell (zT w _ hx141_1)).trans hx141_1
      replace hx141_2 := (HB.out.cell (zT w _ hx141_2)).trans hx141_2
      replace hx141_3 := (HB.out.cell (zT w _ hx141_3)).trans hx141_3
      replace hx141_4 := (HB.out.cell (zT w _ hx141_4)).trans hx141_4
      replace hx141_5 := (HB.out.cell (zT w _ hx141_5)).trans hx141_5
      replace hx141_6 := (HB.out.cell (zT w _ hx141_6)).trans hx141_6
      replace hx141_7 := (HB.out.cell (zT w _ hx141_7)).trans hx141_7
      replace hx141_8 := (HB.out.cell (zT w _ hx141_8)).trans hx141_8
      have HR141_6 := zM hi141_6
      have HC141_6 := zM hl141_6
      clear hi141_6 hl141_6
      replace p141 := eq_true p141
      replace q141 := eq_true q141
      have p142 : 0 ≤ (x6_1 : Int) := zO (by first | (with_reducible assumption) | assumption)
      have q142 : x6_1 < (l0_1.length : Int) := zO (by first | (with_reducible assumption) | assumption)
      obtain ⟨ad142, A142_6, c142_6, e142, hx142_0, hx142_1, hx142_2, hx142_3, hx142_4, hx142_5, hx142_6, hx142_7, hx142_8, hl142_6, hi142_6⟩ := at_T90 HR0_1.out x6_1 p142 q142
      obtain rfl : ad141 = ad142 := (by injection e142)
      replace hx142_0 := (HB.out.cell (zT w _ hx142_0)).trans hx142_0
      replace hx142_1 := (HB.out.cell (zT w _ hx142_1)).trans hx142_1
      replace hx142_2 := (HB.out.cell (zT w _ hx142_2)).trans hx142_2
      replace hx142_3 := (HB.out.cell (zT w _ hx142_3)).trans hx142_3
      replace hx142_4 := (HB.out.cell (zT w _ hx142_4)).trans hx142_4
      replace hx142_5 := (HB.out.cell (zT w _ hx142_5)).trans hx142_5
      replace hx142_6 := (HB.out.cell (zT w _ hx142_6)).trans hx142_6
      replace hx142_7 := (HB.out.cell (zT w _ hx142_7)).trans hx142_7
      replace hx142_8 := (HB.out.cell (zT w _ hx142_8)).trans hx142_8
      have HR142_6 := zM hi142_6
      have HC142_6 := zM hl142_6
      clear hi142_6 hl142_6
      replace p142 := eq_true p142
      replace q142 := eq_true q142
      have ea_ := zI (hx141_6.symm.trans hx142_6)
      injection ea_ with ea_ en_ ec_
      subst ea_
      subst ec_
      clear en_
      have p143 : 0 ≤ (x7_2 : Int) := zO (by first | (with_reducible assumption) | assumption)
      have q143 : x7_2 < (((rd_T90 l0_1 x6_1).f6).length : Int) := zO (by first | (with_reducible assumption) | assumption)
      obtain ⟨ad143, e143, hx143_0, hx143_1⟩ := at_T117 HR142_6.out x7_2 p143 q143
      cases e143
      replace hx143_0 := (HB.out.cell (zT w _ hx143_0)).trans hx143_0
      replace hx143_1 := (HB.out.cell (zT w _ hx143_1)).trans hx143_1
      replace p143 := eq_true p143
      replace q143 := eq_true q143
      go_wp2
      go_roundg k2
      case measure => have := HK1.out; have := HK2.out; omega
      case rel => exact ⟨(x5_2), (wrap64 (x7_2 + 1)), (by first | rfl | (simp; done) | (simp [*]; done) | (simp; exact zQ _)), (by first | rfl | (simp; done) | (simp [*]; done) | (simp; exact zQ _)), H', ⟨by have := HK1.out; have := HK2.out; omega⟩, ⟨by (with_reducible repeat (first | refine zK ?_ _ | refine zW ?_ | refine zB ?_ _)); exact BK140.out⟩, ⟨by repeat (first | (with_reducible first | exact HB.out | apply zA | apply zN | apply zD | refine zS ?_ GE140.out) | exact HB.out)⟩⟩
     rw [if_pos c10] at H
     have c10b0 : (((rd_T117 ((rd_T90 l0_1 x6_1).f6) x7_2).f1) == a1) = true := beq_iff_eq.mpr c10
     have c10b1 : (((rd_T117 ((rd_T90 l0_1 x6_1).f6) x7_2).f1) != a1) = false := bne_eq_false_iff_eq.mpr c10
     clear c10
     have H' := zM H
     clear H
     have hcz11_0 : wr.cell? ⟨gb140, 0, none⟩ = some (.int .i64 a0_0) := (zC BK140.out 0).trans rfl
     have hcz11_1 : wr.cell? ⟨gb140, 1, none⟩ = some (.slice A0_1 l0_1.length c0_1) := (zC BK140.out 1).trans rfl
     have hfz11_0 := zF BK140.out 0
     have hfz11_1 := zF BK140.out 1
     have p141 : 0 ≤ (x6_1 : Int) := zO (by first | (with_reducible assumption) | assumption)
     have q141 : x6_1 < (l0_1.length : Int) := zO (by first | (with_reducible assumption) | assumption)
     obtain ⟨ad141, A141_6, c141_6, e141, hx141_0, hx141_1, hx141_2, hx141_3, hx141_4, hx141_5, hx141_6, hx141_7, hx141_8, hl141_6, hi141_6⟩ := at_T90 HR0_1.out x6_1 p141 q141
     cases e141
     replace hx141_0 := (HB.out.cell (zT w _ hx141_0)).trans hx141_0
     replace hx141_1 := (HB.out.cell (zT w _ hx141_1)).trans hx141_1
     replace hx141_2 := (HB.out.cell (zT w _ hx141_2)).trans hx141_2
     replace hx141_3 := (HB.out.cell (zT w _ hx141_3)).trans hx141_3
     replace hx141_4 := (HB.out.cell (zT w _ hx141_4)).trans hx141_4
     replace hx141_5 := (HB.out.cell (zT w _ hx141_5)).trans hx141_5
     replace hx141_6 := (HB.out.cell (zT w _ hx141_6)).trans hx141_6
     replace hx141_7 := (HB.out.cell (zT w _ hx141_7)).trans hx141_7
     replace hx141_8 := (HB.out.cell (zT w _ hx141_8)).trans hx141_8
     have HR141_6 := zM hi141_6
     have HC141_6 := zM hl141_6
     clear hi141_6 hl141_6
     replace p141 := eq_true p141
     replace q141 := eq_true q141
     have p142 : 0 ≤ (x6_1 : Int) := zO (by first | (with_reducible assumption) | assumption)
     have q142 : x6_1 < (l0_1.length : Int) := zO (by first | (with_reducible assumption) | assumption)
     obtain ⟨ad142, A142_6, c142_6, e142, hx142_0, hx142_1, hx142_2, hx142_3, hx142_4, hx142_5, hx142_6, hx142_7, hx142_8, hl142_6, hi142_6⟩ := at_T90 HR0_1.out x6_1 p142 q142
     obtain rfl : ad141 = ad142 := (by injection e142)
     replace hx142_0 := (HB.out.cell (zT w _ hx142_0)).trans hx142_0
     replace hx142_1 := (HB.out.cell (zT w _ hx142_1)).trans hx142_1
     replace hx142_2 := (HB.out.cell (zT w _ hx142_2)).trans hx142_2
     replace hx142_3 := (HB.out.cell (zT w _ hx142_3)).trans hx142_3
     replace hx142_4 := (HB.out.cell (zT w _ hx142_4)).trans hx142_4
     replace hx142_5 := (HB.out.cell (zT w _ hx142_5)).trans hx142_5
     replace hx142_6 := (HB.out.cell (zT w _ hx142_6)).trans hx142_6
     replace hx142_7 := (HB.out.cell (zT w _ hx142_7)).trans hx142_7
     replace hx142_8 := (HB.out.cell (zT w _ hx142_8)).trans hx142_8
     have HR142_6 := zM hi142_6
     have HC142_6 := zM hl142_6
     clear hi142_6 hl142_6
     replace p142 := eq_true p142
     replace q142 := eq_true q142
     have ea_ := zI (hx141_6.symm.trans hx142_6)
     injection ea_ with ea_ en_ ec_
     subst ea_
     subst ec_
     clear en_
     have p143 : 0 ≤ (x7_2 : Int) := zO (by first | (with_reducible assumption) | assumption)
     have q143 : x7_2 < (((rd_T90 l0_1 x6_1).f6).length : Int) := zO (by first | (with_reducible assumption) | assumption)
     obtain ⟨ad143, e143, hx143_0, hx143_1⟩ := at_T117 HR142_6.out x7_2 p143 q143
     cases e143
     replace hx143_0 := (HB.out.cell (zT w _ hx143_0)).trans hx143_0
     replace hx143_1 := (HB.out.cell (zT w _ hx143_1)).trans hx143_1
     replace p143 := eq_true p143
     replace q143 := eq_true q143
     go_wp2
     go_roundg k2
     case measure => have := HK1.out; have := HK2.out; omega
     case rel => exact ⟨(wrap64 (x5_2 + 1)), (wrap64 (x7_2 + 1)), (by first | rfl | (simp; done) | (simp [*]; done) | (simp; exact zQ _)), (by first | rfl | (simp; done) | (simp [*]; done) | (simp; exact zQ _)), H', ⟨by have := HK1.out; have := HK2.out; omega⟩, ⟨by (with_reducible repeat (first | refine zK ?_ _ | refine zW ?_ | refine zB ?_ _)); exact BK140.out⟩, ⟨by repeat (first | (with_reducible first | exact HB.out | apply zA | apply zN | apply zD | refine zS ?_ GE140.out) | exact HB.out)⟩⟩
/-! ### spec_l4Bytes: function 61 -/
def spec_l4Bytes.l0 : Nat → Int → Int → Int → List (S90) → Option (Int)
 | 0, _, _, _, _ => none
 | k + 1, x3, x4, x145000, x145001 => if x4 < (x145001.length : Int) then (if 0 ≤ x4 then (spec_l4Bytes.l0 k (wrap64 (x3 + (((rd_T90 x145001 x4).f5).size : Int))) (wrap64 (x4 + 1)) x145000 x145001) else (none)) else (some x3)
def spec_l4Bytes.f (k : Nat) (a0_0 : Int) (l0_1 : List (S90)) : Option (Int) := spec_l4Bytes.l0 k 0 0 a0_0 l0_1
theorem spec_l4Bytes.mono_l : ∀ k, (∀ y0 y1 y2 y3, LeO (spec_l4Bytes.l0 k y0 y1 y2 y3) (spec_l4Bytes.l0 (k + 1) y0 y1 y2 y3))
 | 0 => fun _ _ _ _ r h => by simp [spec_l4Bytes.l0] at h
 | k + 1 => by
  have ih0 := spec_l4Bytes.mono_l k
  ·intro y0 y1 y2 y3
   unfold spec_l4Bytes.l0
   repeat' first | (with_reducible exact ih0 _ _ _ _) | (with_reducible exact LeO.refl _) | (with_reducible exact LeO.none _) | (with_reducible refine LeO.ite ?_ ?_) | (with_reducible refine LeO.bind ?_ (fun _ => ?_)) | exact LeO.none _ | refine LeO.ite ?_ ?_ | refine LeO.bind ?_ (fun _ => ?_)
theorem spec_l4Bytes.mono : ∀ a0 a1 k, LeO (spec_l4Bytes.f k a0 a1) (spec_l4Bytes.f (k + 1) a0 a1) := by
 intro a0 a1 k
 have ih0 := spec_l4Bytes.mono_l k
 unfold spec_l4Bytes.f
 repeat' first | (with_reducible exact ih0 _ _ _ _) | (with_reducible exact LeO.refl _) | (with_reducible exact LeO.none _) | (with_reducible refine LeO.ite ?_ ?_) | (with_reducible refine LeO.bind ?_ (fun _ => ?_)) | exact LeO.none _ | refine LeO.ite ?_ ?_ | refine LeO.bind ?_ (fun _ => ?_)
set_option maxHeartbeats 8000000 in
set_option maxRecDepth 100000 in
theorem spec_l4Bytes.calls (k : Nat) (a0_0 : Int) (A0_1 : Option Addr) (c0_1 : Nat) (l0_1 : List (S90)) (r : Int) (w : World) (hr0_1 : Kd.C k90 w A0_1 l0_1.length l0_1) (hc0_1 : l0_1.length ≤ c0_1) (h : spec_l4Bytes.f k a0_0 l0_1 = some r) :
  Calls Tryd.prog 61 #[.agg #[.int .i64 a0_0, .slice A0_1 l0_1.length c0_1]] w fun e w' => e = .returned (.int .i64 r) ∧ Below w.heap.size w w' := by
 have hu45 := Tryd.underlying45
 have HR0_1 := zM hr0_1
 have HC0_1 := zM hc0_1
 clear hr0_1 hc0_1
 have HB := zM (Below.refl w.heap.size w)
 have H : (spec_l4Bytes.l0 k 0 0 a0_0 l0_1) = some r := h
 clear h
 have H' := zM H
 clear H
 go_enter Tryd.func61, Tryd.ntmps61
 go_wp2_with (first | ((with_reducible refine gate_dst (N := 1) rfl ?_); refine box_event ?hg (N := 1) ?hd (cs := #[.int .i64 a0_0, .slice A0_1 l0_1.length c0_1]) (t := 45) ?hr ?_; (case hd => rfl); (case hg => rfl); (case hr => first | (go_simp; done) | (go_simp; rfl)); intro gb144 hg w2 hbox hb; have n0_ := zM (zP (by repeat (first | exact HB.out | apply zA | apply zN | apply zD)) hb); have n1_ := zM (hbox); have n2_ := zM ((by rw [hg]; exact (zZ (by repeat (first | exact HB.out | apply zA | apply zN | apply zD))) : w.heap.size ≤ gb144)); have n3_ := zM ((by rw [hg]; exact (zZ (by repeat (first | exact HB.out | apply zA | apply zN | apply zD))) : w.heap.size ≤ gb144)); clear HB; have HB := n0_; have BK144 := n1_; have GW144 := n2_; have GE144 := n3_; clear n0_ n1_ n2_ n3_; clear hb hbox hg))
 go_loopg [3, 4] k (fun kq v3 v4 w' => ∃ (x3_1 : Int) (x4_1 : Int), v3 = .int .i64 x3_1 ∧ v4 = .int .i64 x4_1 ∧ Aside0 (spec_l4Bytes.l0 kq x3_1 x4_1 a0_0 l0_1 = some r) ∧ Aside0 (kq ≤ k) ∧ Aside0 (w'.heap[gb144]? = some (.cells #[.int .i64 a0_0, (.slice A0_1 l0_1.length c0_1)] 45 (0, 0))) ∧ Aside0 (Below w.heap.size w w'))
 case atStart => exact ⟨(0), (0), (by first | rfl | (simp; done) | (simp [*]; done) | (simp; exact zQ _)), (by first | rfl | (simp; done) | (simp [*]; done) | (simp; exact zQ _)), H', ⟨Nat.le_refl _⟩, ⟨by (with_reducible repeat (first | refine zK ?_ _ | refine zW ?_ | refine zB ?_ _)); exact BK144.out⟩, ⟨by repeat (first | (with_reducible first | exact HB.out | apply zA | apply zN | apply zD | refine zS ?_ GE144.out) | exact HB.out)⟩⟩
 case round =>
  clear H'
  try clear p2
  obtain ⟨x3_1, x4_1, rfl, rfl, HA, HK1, BK144, HB⟩ := hrel
  cases gk with
  | zero => exact absurd HA.out (by simp [spec_l4Bytes.l0])
  | succ k1 =>
   have H := HA.out
   clear HA
   simp only [spec_l4Bytes.l0] at H
   by_cases c3 : x4_1 < (l0_1.length : Int)
   rotate_left
   ·rw [if_neg c3] at H
    have c3b0 : decide (x4_1 < (l0_1.length : Int)) = false := zG c3
    clear c3
    obtain rfl := zI H
    have hcz6_0 : wr.cell? ⟨gb144, 0, none⟩ = some (.int .i64 a0_0) := (zC BK144.out 0).trans rfl
    have hcz6_1 : wr.cell? ⟨gb144, 1, none⟩ = some (.slice A0_1 l0_1.length c0_1) := (zC BK144.out 1).trans rfl
    have hfz6_0 := zF BK144.out 0
    have hfz6_1 := zF BK144.out 1
    go_wp2
    go_ret
    exact ⟨by first | rfl | (simp [errW_none, errW_some] <;> rfl) | (simp [*, errW_none, errW_some] <;> rfl), by repeat (first | (with_reducible first | exact HB.out | apply zA | apply zN | apply zD | refine zS ?_ GE144.out) | exact HB.out)⟩

   rw [if_pos c3] at H
   have c3b0 : decide (x4_1 < (l0_1.length : Int)) = true := zE c3
   clear c3
   by_cases c4 : 0 ≤ x4_1
   rotate_left
   ·rw [if_neg c4] at H
    exact absurd H (by simp)
   rw [if_pos c4] at H
   have c4b0 : decide (0 ≤ x4_1) = true := zE c4
   clear c4
   have H' := zM H
   clear H
   have hcz5_0 : wr.cell? ⟨gb144, 0, none⟩ = some (.int .i64 a0_0) := (zC BK144.out 0).trans rfl
   have hcz5_1 : wr.cell? ⟨gb144, 1, none⟩ = some (.slice A0_1 l0_1.length c0_1) := (zC BK144.out 1).trans rfl
   have hfz5_0 := zF BK144.out 0
   have hfz5_1 := zF BK144.out 1
   have p145 : 0 ≤ (x4_1 : Int) := zO (by first | (with_reducible assumption) | assumption)
   have q145 : x4_1 < (l0_1.length : Int) := zO (by first | (with_reducible assumption) | assumption)
   obtain ⟨ad145, A145_6, c145_6, e145, hx145_0, hx145_1, hx145_2, hx145_3, hx145_4, hx145_5, hx145_6, hx145_7, hx145_8, hl145_6, hi145_6⟩ := at_T90 HR0_1.out x4_1 p145 q145
   cases e145
   replace hx145_0 := (HB.out.cell (zT w _ hx145_0)).trans hx145_0
   replace hx145_1 := (HB.out.cell (zT w _ hx145_1)).trans hx145_1
   replace hx145_2 := (HB.out.cell (zT w _ hx145_2)).trans hx145_2
   replace hx145_3 := (HB.out.cell (zT w _ hx145_3)).trans hx145_3
   replace hx145_4 := (HB.out.cell (zT w _ hx145_4)).trans hx145_4
   replace hx145_5 := (HB.out.cell (zT w _ hx145_5)).trans hx145_5
   replace hx145_6 := (HB.out.cell (zT w _ hx145_6)).trans hx145_6
   replace hx145_7 := (HB.out.cell (zT w _ hx145_7)).trans hx145_7
   replace hx145_8 := (HB.out.cell (zT w _ hx145_8)).trans hx145_8
   have HR145_6 := zM hi145_6
   have HC145_6 := zM hl145_6
   clear hi145_6 hl145_6
   replace p145 := eq_true p145
   replace q145 := eq_true q145
   go_wp2
   go_roundg k1
   case measure => have := HK1.out; omega
   case rel => exact ⟨(wrap64 (x3_1 + (((rd_T90 l0_1 x4_1).f5).size : Int))), (wrap64 (x4_1 + 1)), (by first | rfl | (simp; done) | (simp [*]; done) | (simp; exact zQ _)), (by first | rfl | (simp; done) | (simp [*]; done) | (simp; exact zQ _)), H', ⟨by have := HK1.out; omega⟩, ⟨by (with_reducible repeat (first | refine zK ?_ _ | refine zW ?_ | refine zB ?_ _)); exact BK144.out⟩, ⟨by repeat (first | (with_reducible first | exact HB.out | apply zA | apply zN | apply zD | refine zS ?_ GE144.out) | exact HB.out)⟩⟩
/-! ### spec_l4Usage: function 92 -/
def spec_l4Usage.l0 : Nat → List Bool → Int → Int → Int → Int → List (S90) → Option (Int × Int)
 | 0, _, _, _, _, _, _ => none
 | k + 1, x6, x7, x8, x9, x147000, x147001 => if x9 < (x6.length : Int) then (if 0 ≤ x9 then (if rdOf false x6 x9 = true then (if x9 < (x147001.length : Int) then (spec_l4Usage.l0 k x6 (wrap64 (x7 + (((rd_T90 x147001 x9).f5).size : Int))) (wrap64 (x8 + 1)) (wrap64 (x9 + 1)) x147000 x147001) else (none)) else (spec_l4Usage.l0 k x6 x7 x8 (wrap64 (x9 + 1)) x147000 x147001)) else (none)) else (some (x7, x8))
def spec_l4Usage.f (k : Nat) (a0_0 : Int) (l0_1 : List (S90)) (a1 : Int) : Option (Int × Int) := (spec_l4Below.f k a0_0 l0_1 a1).bind fun t147 => (spec_l4Usage.l0 k t147 0 0 0 a0_0 l0_1)
theorem spec_l4Usage.mono_l : ∀ k, (∀ y0 y1 y2 y3 y4 y5, LeO (spec_l4Usage.l0 k y0 y1 y2 y3 y4 y5) (spec_l4Usage.l0 (k + 1) y0 y1 y2 y3 y4 y5))
 | 0 => fun _ _ _ _ _ _ r h => by simp [spec_l4Usage.l0] at h
 | k + 1 => by
  have ih0 := spec_l4Usage.mono_l k
  ·intro y0 y1 y2 y3 y4 y5
   unfold spec_l4Usage.l0
   repeat' first | (with_reducible exact ih0 _ _ _ _ _ _) | (with_reducible exact spec_l4Below.mono _ _ _ _) | (with_reducible exact LeO.refl _) | (with_reducible exact LeO.none _) | (with_reducible refine LeO.ite ?_ ?_) | (with_reducible refine LeO.bind ?_ (fun _ => ?_)) | exact LeO.none _ | refine LeO.ite ?_ ?_ | refine LeO.bind ?_ (fun _ => ?_)
theorem spec_l4Usage.mono : ∀ a0 a1 a2 k, LeO (spec_l4Usage.f k a0 a1 a2) (spec_l4Usage.f (k + 1) a0 a1 a2) := by
 intro a0 a1 a2 k
 have ih0 := spec_l4Usage.mono_l k
 unfold spec_l4Usage.f
 repeat' first | (with_reducible exact ih0 _ _ _ _ _ _) | (with_reducible exact spec_l4Below.mono _ _ _ _) | (with_reducible exact LeO.refl _) | (with_reducible exact LeO.none _) | (with_reducible refine LeO.ite ?_ ?_) | (with_reducible refine LeO.bind ?_ (fun _ => ?_)) | exact LeO.none _ | refine LeO.ite ?_ ?_ | refine LeO.bind ?_ (fun _ => ?_)
set_option maxHeartbeats 8000000 in
set_option maxRecDepth 100000 in
theorem spec_l4Usage.calls (k : Nat) (a0_0 : Int) (A0_1 : Option Addr) (c0_1 : Nat) (l0_1 : List (S90)) (a1 : Int) (r1 : Int) (r2 : Int) (w : World) (hr0_1 : Kd.C k90 w A0_1 l0_1.length l0_1) (hc0_1 : l0_1.length ≤ c0_1) (h : spec_l4Usage.f k a0_0 l0_1 a1 = some (r1, r2)) :
  Calls Tryd.prog 92 #[.agg #[.int .i64 a0_0, .slice A0_1 l0_1.length c0_1], .int .i64 a1] w fun e w' => e = .returned (.tuple #[.int .i64 r1, .int .i64 r2]) ∧ Below w.heap.size w w' := by
 have hu45 := Tryd.underlying45
 have HR0_1 := zM hr0_1
 have HC0_1 := zM hc0_1
 clear hr0_1 hc0_1
 have HB := zM (Below.refl w.heap.size w)
 have H : ((spec_l4Below.f k a0_0 l0_1 a1).bind fun t147 => (spec_l4Usage.l0 k t147 0 0 0 a0_0 l0_1)) = some (r1, r2) := h
 clear h
 replace H := Option.bind_eq_some_iff.mp H
 obtain ⟨t147, A30, H⟩ := H
 replace H : (spec_l4Usage.l0 k t147 0 0 0 a0_0 l0_1) = some (r1, r2) := H
 have A3 := zM A30
 clear A30
 have H' := zM H
 clear H
 go_enter Tryd.func92, Tryd.ntmps92
 go_wp2_with (first | ((with_reducible refine gate_dst (N := 2) rfl ?_); refine box_event ?hg (N := 2) ?hd (cs := #[.int .i64 a0_0, .slice A0_1 l0_1.length c0_1]) (t := 45) ?hr ?_; (case hd => rfl); (case hg => rfl); (case hr => first | (go_simp; done) | (go_simp; rfl)); intro gb146 hg w4 hbox hb; have n0_ := zM (zP (by repeat (first | exact HB.out | apply zA | apply zN | apply zD)) hb); have n1_ := zM (hbox); have n2_ := zM ((by rw [hg]; exact (zZ (by repeat (first | exact HB.out | apply zA | apply zN | apply zD))) : w.heap.size ≤ gb146)); have n3_ := zM ((by rw [hg]; exact (zZ (by repeat (first | exact HB.out | apply zA | apply zN | apply zD))) : w.heap.size ≤ gb146)); clear HB; have HB := n0_; have BK146 := n1_; have GW146 := n2_; have GE146 := n3_; clear n0_ n1_ n2_ n3_; clear hb hbox hg; have hcz5_0 : w4.cell? ⟨gb146, 0, none⟩ = some (.int .i64 a0_0) := (zC BK146.out 0).trans rfl; have hcz5_1 : w4.cell? ⟨gb146, 1, none⟩ = some (.slice A0_1 l0_1.length c0_1) := (zC BK146.out 1).trans rfl; have hfz5_0 := zF BK146.out 0; have hfz5_1 := zF BK146.out 1) | ((with_reducible refine gate_callee (f := 59) rfl ?_); refine goesL_ (some 12) rfl rfl Tryd.func59 (by kernel_rfl) rfl #[.agg #[.int .i64 a0_0, .slice A0_1 l0_1.length c0_1], .int .i64 a1] rfl (by (try simp only [List.map_toArray, List.map_cons, List.map_nil]); first | done | rfl | (simp only [List.length_drop, List.length_take]; rfl)) ?_; (with_reducible refine (spec_l4Below.calls k a0_0 _ _ l0_1 a1 t147 _ ?side1 ?side2 A3.out).mono ?_); (case side1 => repeat (first | exact (Kd.C_below HR0_1.out HB.out) | (with_reducible refine Kd.C_alloc ?_ _) | (with_reducible refine Kd.C_drewN ?_ _) | (with_reducible refine Kd.C_drew ?_))); (case side2 => exact HC0_1.out); rintro e w6 ⟨v148, rfl, ho0, hb⟩; refine ⟨_, rfl, ?_⟩; have n0_ := zM (Kd.R_lower ho0 (zZ (by repeat (first | exact HB.out | apply zA | apply zN | apply zD | refine zS ?_ GE146.out)))); have n1_ := zM (zL (g := gb146) (o := .cells #[.int .i64 a0_0, .slice A0_1 l0_1.length c0_1] 45 (0, 0)) (by (with_reducible repeat (first | refine zK ?_ _ | refine zW ?_ | refine zB ?_ _)); exact BK146.out) hb); have n2_ := zM (zP (by repeat (first | exact HB.out | apply zA | apply zN | apply zD | refine zS ?_ GE146.out)) hb); clear BK146; clear HB; have HO149 := n0_; have BK146 := n1_; have HB := n2_; clear n0_ n1_ n2_; (try clear hb); (try clear hb2); (try clear hk); (try clear hi); (try clear ho0)))
 go_loopg [7, 8, 9] k (fun kq v7 v8 v9 w' => ∃ (x7_1 : Int) (x8_1 : Int) (x9_1 : Int), v7 = .int .i64 x7_1 ∧ v8 = .int .i64 x8_1 ∧ v9 = .int .i64 x9_1 ∧ Aside0 (spec_l4Usage.l0 kq t147 x7_1 x8_1 x9_1 a0_0 l0_1 = some (r1, r2)) ∧ Aside0 (kq ≤ k) ∧ Aside0 (Kd.R Kd.bool 4 w' w.heap.size (fun _ => True) v148 t147) ∧ Aside0 (w'.heap[gb146]? = some (.cells #[.int .i64 a0_0, (.slice A0_1 l0_1.length c0_1)] 45 (0, 0))) ∧ Aside0 (Below w.heap.size w w'))
 case atStart => exact ⟨(0), (0), (0), (by first | rfl | (simp; done) | (simp [*]; done) | (simp; exact zQ _)), (by first | rfl | (simp; done) | (simp [*]; done) | (simp; exact zQ _)), (by first | rfl | (simp; done) | (simp [*]; done) | (simp; exact zQ _)), H', ⟨Nat.le_refl _⟩, ⟨by (with_reducible repeat (first | apply Kd.R_alloc | apply Kd.R_drewN | apply Kd.R_drew)); exact HO149.out⟩, ⟨by (with_reducible repeat (first | refine zK ?_ _ | refine zW ?_ | refine zB ?_ _)); exact BK146.out⟩, ⟨by repeat (first | (with_reducible first | exact HB.out | apply zA | apply zN | apply zD | refine zS ?_ GE146.out) | exact HB.out)⟩⟩
 case round =>
  clear H'
  try clear p2
  try clear c5
  try clear hcz5_0
  try clear hcz5_1
  try clear hfz5_0
  try clear hfz5_1
  obtain ⟨x7_1, x8_1, x9_1, rfl, rfl, rfl, HA, HK1, HO_6, BK146, HB⟩ := hrel
  cases gk with
  | zero => exact absurd HA.out (by simp [spec_l4Usage.l0])
  | succ k1 =>
   have H := HA.out
   clear HA
   simp only [spec_l4Usage.l0] at H
   by_cases c7 : x9_1 < (t147.length : Int)
   rotate_left
   ·rw [if_neg c7] at H
    have c7b0 : decide (x9_1 < (t147.length : Int)) = false := zG c7
    clear c7
    simp only [Option.some.injEq, Prod.mk.injEq] at H
    obtain ⟨rfl, rfl⟩ := H
    obtain ⟨Ao15, co15, eo15⟩ := Kd.R_slice HO_6.out
    subst eo15
    go_wp2
    go_ret2
    exact ⟨by first | rfl | (simp [errW_none, errW_some] <;> rfl) | (simp [*, errW_none, errW_some] <;> rfl), by repeat (first | (with_reducible first | exact HB.out | apply zA | apply zN | apply zD | refine zS ?_ GE146.out) | exact HB.out)⟩

   rw [if_pos c7] at H
   have c7b0 : decide (x9_1 < (t147.length : Int)) = true := zE c7
   clear c7
   by_cases c8 : 0 ≤ x9_1
   rotate_left
   ·rw [if_neg c8] at H
    exact absurd H (by simp)
   rw [if_pos c8] at H
   have c8b0 : decide (0 ≤ x9_1) = true := zE c8
   clear c8
   obtain ⟨bq9, hbq9⟩ : ∃ b_ : Bool, b_ = (rdOf false t147 x9_1) := ⟨_, rfl⟩
   replace H : (if bq9 = true then (if x9_1 < (l0_1.length : Int) then (spec_l4Usage.l0 k1 t147 (wrap64 (x7_1 + (((rd_T90 l0_1 x9_1).f5).size : Int))) (wrap64 (x8_1 + 1)) (wrap64 (x9_1 + 1)) a0_0 l0_1) else (none)) else (spec_l4Usage.l0 k1 t147 x7_1 x8_1 (wrap64 (x9_1 + 1)) a0_0 l0_1)) = some (r1, r2) := by rw [← hbq9] at H; exact H
   have Nbq9 := zM hbq9
   clear hbq9
   by_cases c10 : bq9 = true
   rotate_left
   ·replace c10 := Bool.eq_false_iff.mpr c10
    subst c10
    have H1 : (spec_l4Usage.l0 k1 t147 x7_1 x8_1 (wrap64 (x9_1 + 1)) a0_0 l0_1) = some (r1, r2) := by rw [if_neg (show ¬ (false = true) by decide)] at H; exact H
    clear H
    have H := H1
    clear H1
    have H' := zM H
    clear H
    obtain ⟨Ao14, co14, eo14⟩ := Kd.R_slice HO_6.out
    subst eo14
    have p150 : 0 ≤ (x9_1 : Int) := zO (by first | (with_reducible assumption) | assumption)
    have q150 : x9_1 < (t147.length : Int) := zO (by first | (with_reducible assumption) | assumption)
    obtain ⟨ad150, e150, hx150_0⟩ := Kd.at_bool (Kd.R_reads' HO_6.out).2.2 x9_1 p150 q150
    (try rw [← Nbq9.out] at hx150_0)
    cases e150
    replace p150 := eq_true p150
    replace q150 := eq_true q150
    go_wp2
    go_roundg k1
    case measure => have := HK1.out; omega
    case rel => exact ⟨(x7_1), (x8_1), (wrap64 (x9_1 + 1)), (by first | rfl | (simp; done) | (simp [*]; done) | (simp; exact zQ _)), (by first | rfl | (simp; done) | (simp [*]; done) | (simp; exact zQ _)), (by first | rfl | (simp; done) | (simp [*]; done) | (simp; exact zQ _)), H', ⟨by have := HK1.out; omega⟩, ⟨by (with_reducible repeat (first | apply Kd.R_alloc | apply Kd.R_drewN | apply Kd.R_drew)); exact HO_6.out⟩, ⟨by (with_reducible repeat (first | refine zK ?_ _ | refine zW ?_ | refine zB ?_ _)); exact BK146.out⟩, ⟨by repeat (first | (with_reducible first | exact HB.out | apply zA | apply zN | apply zD | refine zS ?_ GE146.out) | exact HB.out)⟩⟩
   subst c10
   have H1 : (if x9_1 < (l0_1.length : Int) then (spec_l4Usage.l0 k1 t147 (wrap64 (x7_1 + (((rd_T90 l0_1 x9_1).f5).size : Int))) (wrap64 (x8_1 + 1)) (wrap64 (x9_1 + 1)) a0_0 l0_1) else (none)) = some (r1, r2) := by rw [if_pos rfl] at H; exact H
   clear H
   have H := H1
   clear H1
   by_cases c11 : x9_1 < (l0_1.length : Int)
   rotate_left
   ·rw [if_neg c11] at H
    exact absurd H (by simp)
   rw [if_pos c11] at H
   have c11b0 : decide (x9_1 < (l0_1.length : Int)) = true := zE c11
   clear c11
   have H' := zM H
   clear H
   obtain ⟨Ao12, co12, eo12⟩ := Kd.R_slice HO_6.out
   subst eo12
   have p150 : 0 ≤ (x9_1 : Int) := zO (by first | (with_reducible assumption) | assumption)
   have q150 : x9_1 < (t147.length : Int) := zO (by first | (with_reducible assumption) | assumption)
   obtain ⟨ad150, e150, hx150_0⟩ := Kd.at_bool (Kd.R_reads' HO_6.out).2.2 x9_1 p150 q150
   (try rw [← Nbq9.out] at hx150_0)
   cases e150
   replace p150 := eq_true p150
   replace q150 := eq_true q150
   have hcz13_0 : wr.cell? ⟨gb146, 0, none⟩ = some (.int .i64 a0_0) := (zC BK146.out 0).trans rfl
   have hcz13_1 : wr.cell? ⟨gb146, 1, none⟩ = some (.slice A0_1 l0_1.length c0_1) := (zC BK146.out 1).trans rfl
   have hfz13_0 := zF BK146.out 0
   have hfz13_1 := zF BK146.out 1
   have p151 : 0 ≤ (x9_1 : Int) := zO (by first | (with_reducible assumption) | assumption)
   have q151 : x9_1 < (l0_1.length : Int) := zO (by first | (with_reducible assumption) | assumption)
   obtain ⟨ad151, A151_6, c151_6, e151, hx151_0, hx151_1, hx151_2, hx151_3, hx151_4, hx151_5, hx151_6, hx151_7, hx151_8, hl151_6, hi151_6⟩ := at_T90 HR0_1.out x9_1 p151 q151
   cases e151
   replace hx151_0 := (HB.out.cell (zT w _ hx151_0)).trans hx151_0
   replace hx151_1 := (HB.out.cell (zT w _ hx151_1)).trans hx151_1
   replace hx151_2 := (HB.out.cell (zT w _ hx151_2)).trans hx151_2
   replace hx151_3 := (HB.out.cell (zT w _ hx151_3)).trans hx151_3
   replace hx151_4 := (HB.out.cell (zT w _ hx151_4)).trans hx151_4
   replace hx151_5 := (HB.out.cell (zT w _ hx151_5)).trans hx151_5
   replace hx151_6 := (HB.out.cell (zT w _ hx151_6)).trans hx151_6
   replace hx151_7 := (HB.out.cell (zT w _ hx151_7)).trans hx151_7
   replace hx151_8 := (HB.out.cell (zT w _ hx151_8)).trans hx151_8
   have HR151_6 := zM hi151_6
   have HC151_6 := zM hl151_6
   clear hi151_6 hl151_6
   replace p151 := eq_true p151
   replace q151 := eq_true q151
   go_wp2
   go_roundg k1
   case measure => have := HK1.out; omega
   case rel => exact ⟨(wrap64 (x7_1 + (((rd_T90 l0_1 x9_1).f5).size : Int))), (wrap64 (x8_1 + 1)), (wrap64 (x9_1 + 1)), (by first | rfl | (simp; done) | (simp [*]; done) | (simp; exact zQ _)), (by first | rfl | (simp; done) | (simp [*]; done) | (simp; exact zQ _)), (by first | rfl | (simp; done) | (simp [*]; done) | (simp; exact zQ _)), H', ⟨by have := HK1.out; omega⟩, ⟨by (with_reducible repeat (first | apply Kd.R_alloc | apply Kd.R_drewN | apply Kd.R_drew)); exact HO_6.out⟩, ⟨by (with_reducible repeat (first | refine zK ?_ _ | refine zW ?_ | refine zB ?_ _)); exact BK146.out⟩, ⟨by repeat (first | (with_reducible first | exact HB.out | apply zA | apply zN | apply zD | refine zS ?_ GE146.out) | exact HB.out)⟩⟩
end Go.Proofs.YtiopcpkfjikfdaaDoor.PFnExactWalk
