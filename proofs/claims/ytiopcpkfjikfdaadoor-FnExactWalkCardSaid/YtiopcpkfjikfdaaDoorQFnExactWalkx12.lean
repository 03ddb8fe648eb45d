/- Written by a program of mine (qprint.py, over the kit's print.py, and texts by hand) for the law FnExactWalk: the functions that it reaches, as Lean functions, and that the program answers as they do. -/
import Derived.Test.YtiopcpkfjikfdaaDoorQFnExactWalkx0
namespace Go.Proofs.YtiopcpkfjikfdaaDoor.PFnExactWalk
open Go.RowKit Go.Proofs.YtiopcpkfjikfdaaDoorW.PrintWords Go.Proofs.YtiopcpkfjikfdaaDoorW.PrintLast Go.Proofs.YtiopcpkfjikfdaaDoorW.PrintMore
attribute [local go_sem] max2_int min2_int max_two min_two max_three min_three max_four min_four   -- for this text's walks alone
set_option linter.unusedVariables false
set_option linter.unusedSimpArgs false

/-! ### spec_l4Parent: function 66 -/
mutual
def spec_l4Parent.l0 : Nat → Int → Int → Int → List (S90) → Option (Int)
 | 0, _, _, _, _ => none
 | k + 1, x1, x5, x177000, x177001 => if x5 < (x177001.length : Int) then (spec_l4Parent.l1 k x1 x5 0 x177000 x177001) else (some 1)
def spec_l4Parent.l1 : Nat → Int → Int → Int → Int → List (S90) → Option (Int)
 | 0, _, _, _, _, _ => none
 | k + 1, x1, x5, x6, x177000, x177001 => if 0 ≤ x5 then (if x5 < (x177001.length : Int) then (if x6 < (((rd_T90 x177001 x5).f6).length : Int) then (if 0 ≤ x6 then (if ((rd_T117 ((rd_T90 x177001 x5).f6) x6).f1) = x1 then (some ((rd_T90 x177001 x5).f0)) else (spec_l4Parent.l1 k x1 x5 (wrap64 (x6 + 1)) x177000 x177001)) else (none)) else (spec_l4Parent.l0 k x1 (wrap64 (x5 + 1)) x177000 x177001)) else (none)) else (none)
end
def spec_l4Parent.f (k : Nat) (a0_0 : Int) (l0_1 : List (S90)) (a1 : Int) : Option (Int) := spec_l4Parent.l0 k a1 0 a0_0 l0_1
theorem spec_l4Parent.mono_l : ∀ k, (∀ y0 y1 y2 y3, LeO (spec_l4Parent.l0 k y0 y1 y2 y3) (spec_l4Parent.l0 (k + 1) y0 y1 y2 y3)) ∧ (∀ y0 y1 y2 y3 y4, LeO (spec_l4Parent.l1 k y0 y1 y2 y3 y4) (spec_l4Parent.l1 (k + 1) y0 y1 y2 y3 y4))
 | 0 => ⟨fun _ _ _ _ r h => by simp [spec_l4Parent.l0] at h, fun _ _ _ _ _ r h => by simp [spec_l4Parent.l1] at h⟩
 | k + 1 => by
  obtain ⟨ih0, ih1⟩ := spec_l4Parent.mono_l k
  refine ⟨?_, ?_⟩
  ·intro y0 y1 y2 y3
   unfold spec_l4Parent.l0
   repeat' first | (with_reducible exact ih0 _ _ _ _) | (with_reducible exact ih1 _ _ _ _ _) | (with_reducible exact LeO.refl _) | (with_reducible exact LeO.none _) | (with_reducible refine LeO.ite ?_ ?_) | (with_reducible refine LeO.bind ?_ (fun _ => ?_)) | exact LeO.none _ | refine LeO.ite ?_ ?_ | refine LeO.bind ?_ (fun _ => ?_)
  ·intro y0 y1 y2 y3 y4
   unfold spec_l4Parent.l1
   repeat' first | (with_reducible exact ih0 _ _ _ _) | (with_reducible exact ih1 _ _ _ _ _) | (with_reducible exact LeO.refl _) | (with_reducible exact LeO.none _) | (with_reducible refine LeO.ite ?_ ?_) | (with_reducible refine LeO.bind ?_ (fun _ => ?_)) | exact LeO.none _ | refine LeO.ite ?_ ?_ | refine LeO.bind ?_ (fun _ => ?_)
theorem spec_l4Parent.mono : ∀ a0 a1 a2 k, LeO (spec_l4Parent.f k a0 a1 a2) (spec_l4Parent.f (k + 1) a0 a1 a2) := by
 intro a0 a1 a2 k
 obtain ⟨ih0, ih1⟩ := spec_l4Parent.mono_l k
 unfold spec_l4Parent.f
 repeat' first | (with_reducible exact ih0 _ _ _ _) | (with_reducible exact ih1 _ _ _ _ _) | (with_reducible exact LeO.refl _) | (with_reducible exact LeO.none _) | (with_reducible refine LeO.ite ?_ ?_) | (with_reducible refine LeO.bind ?_ (fun _ => ?_)) | exact LeO.none _ | refine LeO.ite ?_ ?_ | refine LeO.bind ?_ (fun _ => ?_)
set_option maxHeartbeats 8000000 in
set_option maxRecDepth 100000 in
theorem spec_l4Parent.calls (k : Nat) (a0_0 : Int) (A0_1 : Option Addr) (c0_1 : Nat) (l0_1 : List (S90)) (a1 : Int) (r : Int) (w : World) (hr0_1 : Kd.C k90 w A0_1 l0_1.length l0_1) (hc0_1 : l0_1.length ≤ c0_1) (h : spec_l4Parent.f k a0_0 l0_1 a1 = some r) :
  Calls Tryd.prog 66 #[.agg #[.int .i64 a0_0, .slice A0_1 l0_1.length c0_1], .int .i64 a1] w fun e w' => e = .returned (.int .i64 r) ∧ Below w.heap.size w w' := by
 have hu45 := Tryd.underlying45
 have HR0_1 := zM hr0_1
 have HC0_1 := zM hc0_1
 clear hr0_1 hc0_1
 have HB := zM (Below.refl w.heap.size w)
 have H : (spec_l4Parent.l0 k a1 0 a0_0 l0_1) = some r := h
 clear h
 have H' := zM H
 clear H
 go_enter Tryd.func66, Tryd.ntmps66
 go_wp2_with (first | ((with_reducible refine gate_dst (N := 2) rfl ?_); refine box_event ?hg (N := 2) ?hd (cs := #[.int .i64 a0_0, .slice A0_1 l0_1.length c0_1]) (t := 45) ?hr ?_; (case hd => rfl); (case hg => rfl); (case hr => first | (go_simp; done) | (go_simp; rfl)); intro gb176 hg w3 hbox hb; have n0_ := zM (zP (by with_reducible repeat (first | exact HB.out | apply zA | apply zN | apply zD)) hb); have n1_ := zM (hbox); have n2_ := zM ((by rw [hg]; exact (zZ (by with_reducible repeat (first | exact HB.out | apply zA | apply zN | apply zD))) : w.heap.size ≤ gb176)); have n3_ := zM ((by rw [hg]; exact (zZ (by with_reducible repeat (first | exact HB.out | apply zA | apply zN | apply zD))) : w.heap.size ≤ gb176)); clear HB; have HB := n0_; have BK176 := n1_; have GW176 := n2_; have GE176 := n3_; clear n0_ n1_ n2_ n3_; clear hb hbox hg))
 go_loopg [5] k (fun kq v5 w' => ∃ (x5_1 : Int), v5 = .int .i64 x5_1 ∧ Aside0 (spec_l4Parent.l0 kq a1 x5_1 a0_0 l0_1 = some r) ∧ Aside0 (kq ≤ k) ∧ Aside0 (w'.heap[gb176]? = some (.cells #[.int .i64 a0_0, (.slice A0_1 l0_1.length c0_1)] 45 (0, 0))) ∧ Aside0 (Below w.heap.size w w'))
 case atStart => exact ⟨(0), (by first | rfl | (simp; done) | (simp [*]; done) | (simp; exact zQ _)), H', ⟨Nat.le_refl _⟩, ⟨by (with_reducible repeat (first | refine zK ?_ _ | refine zW ?_ | refine zB ?_ _)); exact BK176.out⟩, ⟨by repeat (first | (with_reducible first | exact HB.out | apply zA | apply zN | apply zD | refine zS ?_ GE176.out) | exact HB.out)⟩⟩
 case round =>
  clear H'
  try clear p2
  obtain ⟨x5_1, rfl, HA, HK1, BK176, HB⟩ := hrel
  cases gk with
  | zero => exact absurd HA.out (by simp [spec_l4Parent.l0])
  | succ k1 =>
   have H := HA.out
   clear HA
   simp only [spec_l4Parent.l0] at H
   by_cases c4 : x5_1 < (l0_1.length : Int)
   rotate_left
   ·rw [if_neg c4] at H
    have c4b0 : decide (x5_1 < (l0_1.length : Int)) = false := zG c4
    clear c4
    obtain rfl := zI H
    have hcz14_0 : wr.cell? ⟨gb176, 0, none⟩ = some (.int .i64 a0_0) := (zC BK176.out 0).trans rfl
    have hcz14_1 : wr.cell? ⟨gb176, 1, none⟩ = some (.slice A0_1 l0_1.length c0_1) := (zC BK176.out 1).trans rfl
    have hfz14_0 := zF BK176.out 0
    have hfz14_1 := zF BK176.out 1
    go_wp2
    go_ret
    exact ⟨by first | rfl | (simp [errW_none, errW_some] <;> rfl) | (simp [*, errW_none, errW_some] <;> rfl), by repeat (first | (with_reducible first | exact HB.out | apply zA | apply zN | apply zD | refine zS ?_ GE176.out) | exact HB.out)⟩

   rw [if_pos c4] at H
   have c4b0 : decide (x5_1 < (l0_1.length : Int)) = true := zE c4
   clear c4
   have H' := zM H
   clear H
   have hcz5_0 : wr.cell? ⟨gb176, 0, none⟩ = some (.int .i64 a0_0) := (zC BK176.out 0).trans rfl
   have hcz5_1 : wr.cell? ⟨gb176, 1, none⟩ = some (.slice A0_1 l0_1.length c0_1) := (zC BK176.out 1).trans rfl
   have hfz5_0 := zF BK176.out 0
   have hfz5_1 := zF BK176.out 1
   go_wp2
   go_loopg [6] k1 (fun kq v6 w' => ∃ (x6_2 : Int), v6 = .int .i64 x6_2 ∧ Aside0 (spec_l4Parent.l1 kq a1 x5_1 x6_2 a0_0 l0_1 = some r) ∧ Aside0 (kq ≤ k1) ∧ Aside0 (w'.heap[gb176]? = some (.cells #[.int .i64 a0_0, (.slice A0_1 l0_1.length c0_1)] 45 (0, 0))) ∧ Aside0 (Below w.heap.size w w'))
   case atStart => exact ⟨(0), (by first | rfl | (simp; done) | (simp [*]; done) | (simp; exact zQ _)), H', ⟨Nat.le_refl _⟩, ⟨by (with_reducible repeat (first | refine zK ?_ _ | refine zW ?_ | refine zB ?_ _)); exact BK176.out⟩, ⟨by repeat (first | (with_reducible first | exact HB.out | apply zA | apply zN | apply zD | refine zS ?_ GE176.out) | exact HB.out)⟩⟩
   case round =>
    clear H'
    try clear p2
    try clear c4
    try clear c4b0
    try clear hcz5_0
    try clear hcz5_1
    try clear hfz5_0
    try clear hfz5_1
    try clear p2
    obtain ⟨x6_2, rfl, HA, HK2, BK176, HB⟩ := hrel
    cases gk with
    | zero => exact absurd HA.out (by simp [spec_l4Parent.l1])
    | succ k2 =>
     have H := HA.out
     clear HA
     simp only [spec_l4Parent.l1] at H
     by_cases c6 : 0 ≤ x5_1
     rotate_left
     ·rw [if_neg c6] at H
      exact absurd H (by simp)
     rw [if_pos c6] at H
     have c6b0 : decide (0 ≤ x5_1) = true := zE c6
     clear c6
     by_cases c7 : x5_1 < (l0_1.length : Int)
     rotate_left
     ·rw [if_neg c7] at H
      exact absurd H (by simp)
     rw [if_pos c7] at H
     have c7b0 : decide (x5_1 < (l0_1.length : Int)) = true := zE c7
     clear c7
     by_cases c8 : x6_2 < (((rd_T90 l0_1 x5_1).f6).length : Int)
     rotate_left
     ·rw [if_neg c8] at H
      have c8b0 : decide (x6_2 < (((rd_T90 l0_1 x5_1).f6).length : Int)) = false := zG c8
      clear c8
      have H' := zM H
      clear H
      have hcz13_0 : wr.cell? ⟨gb176, 0, none⟩ = some (.int .i64 a0_0) := (zC BK176.out 0).trans rfl
      have hcz13_1 : wr.cell? ⟨gb176, 1, none⟩ = some (.slice A0_1 l0_1.length c0_1) := (zC BK176.out 1).trans rfl
      have hfz13_0 := zF BK176.out 0
      have hfz13_1 := zF BK176.out 1
      have p177 : 0 ≤ (x5_1 : Int) := zO (by first | (with_reducible assumption) | assumption)
      have q177 : x5_1 < (l0_1.length : Int) := zO (by first | (with_reducible assumption) | assumption)
      obtain ⟨ad177, A177_6, c177_6, e177, hx177_0, hx177_1, hx177_2, hx177_3, hx177_4, hx177_5, hx177_6, hx177_7, hx177_8, hl177_6, hi177_6⟩ := at_T90 HR0_1.out x5_1 p177 q177
      cases e177
      replace hx177_0 := (HB.out.cell (zT w _ hx177_0)).trans hx177_0
      replace hx177_1 := (HB.out.cell (zT w _ hx177_1)).trans hx177_1
      replace hx177_2 := (HB.out.cell (zT w _ hx177_2)).trans hx177_2
      replace hx177_3 := (HB.out.cell (zT w _ hx177_3)).trans hx177_3
      replace hx177_4 := (HB.out.cell (zT w _ hx177_4)).trans hx177_4
      replace hx177_5 := (HB.out.cell (zT w _ hx177_5)).trans hx177_5
      replace hx177_6 := (HB.out.cell (zT w _ hx177_6)).trans hx177_6
      replace hx177_7 := (HB.out.cell (zT w _ hx177_7)).trans hx177_7
      replace hx177_8 := (HB.out.cell (zT w _ hx177_8)).trans hx177_8
      have HR177_6 := zM hi177_6
      have HC177_6 := zM hl177_6
      clear hi177_6 hl177_6
      replace p177 := eq_true p177
      replace q177 := eq_true q177
      go_wp2
      go_roundg k2
      case measure => have := HK1.out; have := HK2.out; omega
      case rel => exact ⟨(wrap64 (x5_1 + 1)), (by first | rfl | (simp; done) | (simp [*]; done) | (simp; exact zQ _)), H', ⟨by have := HK1.out; have := HK2.out; omega⟩, ⟨by (with_reducible repeat (first | refine zK ?_ _ | refine zW ?_ | refine zB ?_ _)); exact BK176.out⟩, ⟨by repeat (first | (with_reducible first | exact HB.out | apply zA | apply zN | apply zD | refine zS ?_ GE176.out) | exact HB.out)⟩⟩
     rw [if_pos c8] at H
     have c8b0 : decide (x6_2 < (((rd_T90 l0_1 x5_1).f6).length : Int)) = true := zE c8
     clear c8
     by_cases c9 : 0 ≤ x6_2
     rotate_left
     ·rw [if_neg c9] at H
      exact absurd H (by simp)
     rw [if_pos c9] at H
     have c9b0 : decide (0 ≤ x6_2) = true := zE c9
     clear c9
     by_cases c10 : ((rd_T117 ((rd_T90 l0_1 x5_1).f6) x6_2).f1) = a1
     rotate_left
     ·rw [if_neg c10] at H
      have c10b0 : (((rd_T117 ((rd_T90 l0_1 x5_1).f6) x6_2).f1) == a1) = false := beq_eq_false_iff_ne.mpr c10
      have c10b1 : (((rd_T117 ((rd_T90 l0_1 x5_1).f6) x6_2).f1) != a1) = true := bne_iff_ne.mpr c10
      have H' := zM H
      clear H
      have hcz12_0 : wr.cell? ⟨gb176, 0, none⟩ = some (.int .i64 a0_0) := (zC BK176.out 0).trans rfl
      have hcz12_1 : wr.cell? ⟨gb176, 1, none⟩ = some (.slice A0_1 l0_1.length c0_1) := (zC BK176.out 1).trans rfl
      have hfz12_0 := zF BK176.out 0
      have hfz12_1 := zF BK176.out 1
      have p177 : 0 ≤ (x5_1 : Int) := zO (by first | (with_reducible assumption) | assumption)
      have q177 : x5_1 < (l0_1.length : Int) := zO (by first | (with_reducible assumption) | assumption)
      obtain ⟨ad177, A177_6, c177_6, e177, hx177_0, hx177_1, hx177_2, hx177_3, hx177_4, hx177_5, hx177_6, hx177_7, hx177_8, hl177_6, hi177_6⟩ := at_T90 HR0_1.out x5_1 p177 q177
      cases e177
      replace hx177_0 := (HB.out.cell (zT w _ hx177_0)).trans hx177_0
      replace hx177_1 := (HB.out.cell (zT w _ hx177_1)).trans hx177_1
      replace hx177_2 := (HB.out.cell (zT w _ hx177_2)).trans hx177_2
      replace hx177_3 := (HB.out.cell (zT w _ hx177_3)).trans hx177_3
      replace hx177_4 := (HB.out.cell (zT w _ hx177_4)).trans hx177_4
      replace hx177_5 := (HB.out.cell (zT w _ hx177_5)).trans hx177_5
      replace hx177_6 := (HB.out.cell (zT w _ hx177_6)).trans hx177_6
      replace hx177_7 := (HB.out.cell (zT w _ hx177_7)).trans hx177_7
      replace hx177_8 := (HB.out.cell (zT w _ hx177_8)).trans hx177_8
      have HR177_6 := zM hi177_6
      have HC177_6 := zM hl177_6
      clear hi177_6 hl177_6
      replace p177 := eq_true p177
      replace q177 := eq_true q177
      have p178 : 0 ≤ (x5_1 : Int) := zO (by first | (with_reducible assumption) | assumption)
      have q178 : x5_1 < (l0_1.length : Int) := zO (by first | (with_reducible assumption) | assumption)
      obtain ⟨ad178, A178_6, c178_6, e178, hx178_0, hx178_1, hx178_2, hx178_3, hx178_4, hx178_5, hx178_6, hx178_7, hx178_8, hl178_6, hi178_6⟩ := at_T90 HR0_1.out x5_1 p178 q178
      obtain rfl : ad177 = ad178 := (by injection e178)
      replace hx178_0 := (HB.out.cell (zT w _ hx178_0)).trans hx178_0
      replace hx178_1 := (HB.out.cell (zT w _ hx178_1)).trans hx178_1
      replace hx178_2 := (HB.out.cell (zT w _ hx178_2)).trans hx178_2
      replace hx178_3 := (HB.out.cell (zT w _ hx178_3)).trans hx178_3
      replace hx178_4 := (HB.out.cell (zT w _ hx178_4)).trans hx178_4
      replace hx178_5 := (HB.out.cell (zT w _ hx178_5)).trans hx178_5
      replace hx178_6 := (HB.out.cell (zT w _ hx178_6)).trans hx178_6
      replace hx178_7 := (HB.out.cell (zT w _ hx178_7)).trans hx178_7
      replace hx178_8 := (HB.out.cell (zT w _ hx178_8)).trans hx178_8
      have HR178_6 := zM hi178_6
      have HC178_6 := zM hl178_6
      clear hi178_6 hl178_6
      replace p178 := eq_true p178
      replace q178 := eq_true q178
      have ea_ := zI (hx177_6.symm.trans hx178_6)
      injection ea_ with ea_ en_ ec_
      subst ea_
      subst ec_
      clear en_
      have p179 : 0 ≤ (x6_2 : Int) := zO (by first | (with_reducible assumption) | assumption)
      have q179 : x6_2 < (((rd_T90 l0_1 x5_1).f6).length : Int) := zO (by first | (with_reducible assumption) | assumption)
      obtain ⟨ad179, e179, hx179_0, hx179_1⟩ := at_T117 HR178_6.out x6_2 p179 q179
      cases e179
      replace hx179_0 := (HB.out.cell (zT w _ hx179_0)).trans hx179_0
      replace hx179_1 := (HB.out.cell (zT w _ hx179_1)).trans hx179_1
      replace p179 := eq_true p179
      replace q179 := eq_true q179
      go_wp2
      go_roundg k2
      case measure => have := HK1.out; have := HK2.out; omega
      case rel => exact ⟨(wrap64 (x6_2 + 1)), (by first | rfl | (simp; done) | (simp [*]; done) | (simp; exact zQ _)), H', ⟨by have := HK1.out; have := HK2.out; omega⟩, ⟨by (with_reducible repeat (first | refine zK ?_ _ | refine zW ?_ | refine zB ?_ _)); exact BK176.out⟩, ⟨by repeat (first | (with_reducible first | exact HB.out | apply zA | apply zN | apply zD | refine zS ?_ GE176.out) | exact HB.out)⟩⟩
     rw [if_pos c10] at H
     have c10b0 : (((rd_T117 ((rd_T90 l0_1 x5_1).f6) x6_2).f1) == a1) = true := beq_iff_eq.mpr c10
     have c10b1 : (((rd_T117 ((rd_T90 l0_1 x5_1).f6) x6_2).f1) != a1) = false := bne_eq_false_iff_eq.mpr c10
     clear c10
     obtain rfl := zI H
     have hcz11_0 : wr.cell? ⟨gb176, 0, none⟩ = some (.int .i64 a0_0) := (zC BK176.out 0).trans rfl
     have hcz11_1 : wr.cell? ⟨gb176, 1, none⟩ = some (.slice A0_1 l0_1.length c0_1) := (zC BK176.out 1).trans rfl
     have hfz11_0 := zF BK176.out 0
     have hfz11_1 := zF BK176.out 1
     have p177 : 0 ≤ (x5_1 : Int) := zO (by first | (with_reducible assumption) | assumption)
     have q177 : x5_1 < (l0_1.length : Int) := zO (by first | (with_reducible assumption) | assumption)
     obtain ⟨ad177, A177_6, c177_6, e177, hx177_0, hx177_1, hx177_2, hx177_3, hx177_4, hx177_5, hx177_6, hx177_7, hx177_8, hl177_6, hi177_6⟩ := at_T90 HR0_1.out x5_1 p177 q177
     cases e177
     replace hx177_0 := (HB.out.cell (zT w _ hx177_0)).trans hx177_0
     replace hx177_1 := (HB.out.cell (zT w _ hx177_1)).trans hx177_1
     replace hx177_2 := (HB.out.cell (zT w _ hx177_2)).trans hx177_2
     replace hx177_3 := (HB.out.cell (zT w _ hx177_3)).trans hx177_3
     replace hx177_4 := (HB.out.cell (zT w _ hx177_4)).trans hx177_4
     replace hx177_5 := (HB.out.cell (zT w _ hx177_5)).trans hx177_5
     replace hx177_6 := (HB.out.cell (zT w _ hx177_6)).trans hx177_6
     replace hx177_7 := (HB.out.cell (zT w _ hx177_7)).trans hx177_7
     replace hx177_8 := (HB.out.cell (zT w _ hx177_8)).trans hx177_8
     have HR177_6 := zM hi177_6
     have HC177_6 := zM hl177_6
     clear hi177_6 hl177_6
     replace p177 := eq_true p177
     replace q177 := eq_true q177
     have p178 : 0 ≤ (x5_1 : Int) := zO (by first | (with_reducible assumption) | assumption)
     have q178 : x5_1 < (l0_1.length : Int) := zO (by first | (with_reducible assumption) | assumption)
     obtain ⟨ad178, A178_6, c178_6, e178, hx178_0, hx178_1, hx178_2, hx178_3, hx178_4, hx178_5, hx178_6, hx178_7, hx178_8, hl178_6, hi178_6⟩ := at_T90 HR0_1.out x5_1 p178 q178
     obtain rfl : ad177 = ad178 := (by injection e178)
     replace hx178_0 := (HB.out.cell (zT w _ hx178_0)).trans hx178_0
     replace hx178_1 := (HB.out.cell (zT w _ hx178_1)).trans hx178_1
     replace hx178_2 := (HB.out.cell (zT w _ hx178_2)).trans hx178_2
     replace hx178_3 := (HB.out.cell (zT w _ hx178_3)).trans hx178_3
     replace hx178_4 := (HB.out.cell (zT w _ hx178_4)).trans hx178_4
     replace hx178_5 := (HB.out.cell (zT w _ hx178_5)).trans hx178_5
     replace hx178_6 := (HB.out.cell (zT w _ hx178_6)).trans hx178_6
     replace hx178_7 := (HB.out.cell (zT w _ hx178_7)).trans hx178_7
     replace hx178_8 := (HB.out.cell (zT w _ hx178_8)).trans hx178_8
     have HR178_6 := zM hi178_6
     have HC178_6 := zM hl178_6
     clear hi178_6 hl178_6
     replace p178 := eq_true p178
     replace q178 := eq_true q178
     have ea_ := zI (hx177_6.symm.trans hx178_6)
     injection ea_ with ea_ en_ ec_
     subst ea_
     subst ec_
     clear en_
     have p179 : 0 ≤ (x6_2 : Int) := zO (by first | (with_reducible assumption) | assumption)
     have q179 : x6_2 < (((rd_T90 l0_1 x5_1).f6).length : Int) := zO (by first | (with_reducible assumption) | assumption)
     obtain ⟨ad179, e179, hx179_0, hx179_1⟩ := at_T117 HR178_6.out x6_2 p179 q179
     cases e179
     replace hx179_0 := (HB.out.cell (zT w _ hx179_0)).trans hx179_0
     replace hx179_1 := (HB.out.cell (zT w _ hx179_1)).trans hx179_1
     replace p179 := eq_true p179
     replace q179 := eq_true q179
     have p180 : 0 ≤ (x5_1 : Int) := zO (by first | (with_reducible assumption) | assumption)
     have q180 : x5_1 < (l0_1.length : Int) := zO (by first | (with_reducible assumption) | assumption)
     obtain ⟨ad180, A180_6, c180_6, e180, hx180_0, hx180_1, hx180_2, hx180_3, hx180_4, hx180_5, hx180_6, hx180_7, hx180_8, hl180_6, hi180_6⟩ := at_T90 HR0_1.out x5_1 p180 q180
     obtain rfl : ad177 = ad180 := (by injection e180)
     replace hx180_0 := (HB.out.cell (zT w _ hx180_0)).trans hx180_0
     replace hx180_1 := (HB.out.cell (zT w _ hx180_1)).trans hx180_1
     replace hx180_2 := (HB.out.cell (zT w _ hx180_2)).trans hx180_2
     replace hx180_3 := (HB.out.cell (zT w _ hx180_3)).trans hx180_3
     replace hx180_4 := (HB.out.cell (zT w _ hx180_4)).trans hx180_4
     replace hx180_5 := (HB.out.cell (zT w _ hx180_5)).trans hx180_5
     replace hx180_6 := (HB.out.cell (zT w _ hx180_6)).trans hx180_6
     replace hx180_7 := (HB.out.cell (zT w _ hx180_7)).trans hx180_7
     replace hx180_8 := (HB.out.cell (zT w _ hx180_8)).trans hx180_8
     have HR180_6 := zM hi180_6
     have HC180_6 := zM hl180_6
     clear hi180_6 hl180_6
     replace p180 := eq_true p180
     replace q180 := eq_true q180
     have ea_ := zI (hx177_6.symm.trans hx180_6)
     injection ea_ with ea_ en_ ec_
     subst ea_
     subst ec_
     clear en_
     go_wp2
     go_ret
     exact ⟨by first | rfl | (simp [errW_none, errW_some] <;> rfl) | (simp [*, errW_none, errW_some] <;> rfl), by repeat (first | (with_reducible first | exact HB.out | apply zA | apply zN | apply zD | refine zS ?_ GE176.out) | exact HB.out)⟩
/-! ### laws_toDirent: function 108 -/
def laws_toDirent.f (a0_0 : ByteArray) (a0_1 : Int) : Option (ByteArray × Int) := some (a0_0, a0_1)
set_option maxHeartbeats 8000000 in
set_option maxRecDepth 100000 in
theorem laws_toDirent.calls (a0_0 : ByteArray) (a0_1 : Int) (r1 : ByteArray) (r2 : Int) (w : World) (h : laws_toDirent.f a0_0 a0_1 = some (r1, r2)) :
  Calls Tryd.prog 108 #[.agg #[.string a0_0, .int .i64 a0_1]] w fun e w' => e = .returned (.agg #[.string r1, .int .i64 r2]) ∧ Below w.heap.size w w' := by
 have hu133 := Tryd.underlying133
 have hu117 := Tryd.underlying117
 have HB := zM (Below.refl w.heap.size w)
 have H : (some (a0_0, a0_1)) = some (r1, r2) := h
 clear h
 simp only [Option.some.injEq, Prod.mk.injEq] at H
 obtain ⟨rfl, rfl⟩ := H
 go_enter Tryd.func108, Tryd.ntmps108
 go_wp2_with (first | ((with_reducible refine gate_dst (N := 1) rfl ?_); refine box_event ?hg (N := 1) ?hd (cs := #[.string a0_0, .int .i64 a0_1]) (t := 133) ?hr ?_; (case hd => rfl); (case hg => rfl); (case hr => first | (go_simp; done) | (go_simp; rfl)); intro gb181 hg w2 hbox hb; have n0_ := zM (zP (by with_reducible repeat (first | exact HB.out | apply zA | apply zN | apply zD)) hb); have n1_ := zM (hbox); have n2_ := zM ((by rw [hg]; exact (zZ (by with_reducible repeat (first | exact HB.out | apply zA | apply zN | apply zD))) : w.heap.size ≤ gb181)); have n3_ := zM ((by rw [hg]; exact (zZ (by with_reducible repeat (first | exact HB.out | apply zA | apply zN | apply zD))) : w.heap.size ≤ gb181)); clear HB; have HB := n0_; have BK181 := n1_; have GW181 := n2_; have GE181 := n3_; clear n0_ n1_ n2_ n3_; clear hb hbox hg) | ((with_reducible refine gate_dst (N := 2) rfl ?_); refine box_event ?hg (N := 2) ?hd (cs := #[.string (⟨#[]⟩ : ByteArray), .int .i64 0]) (t := 117) ?hr ?_; (case hd => rfl); (case hg => rfl); (case hr => first | (go_simp; done) | (go_simp; rfl)); intro gb182 hg w3 hbox hb; have n0_ := zM (zL (g := gb181) (o := .cells #[.string a0_0, .int .i64 a0_1] 133 (0, 0)) (by (with_reducible repeat (first | refine zK ?_ _ | refine zW ?_ | refine zB ?_ _)); exact BK181.out) hb); have n1_ := zM (zP (by with_reducible repeat (first | exact HB.out | apply zA | apply zN | apply zD | refine zS ?_ GE181.out)) hb); have n2_ := zM (hbox); have n3_ := zM ((by rw [hg]; exact (zZ (by with_reducible repeat (first | exact HB.out | apply zA | apply zN | apply zD | refine zS ?_ GE181.out))) : w.heap.size ≤ gb182)); have n4_ := zM ((by rw [hg]; exact (zZ (by with_reducible repeat (first | exact HB.out | apply zA | apply zN | apply zD | refine zS ?_ GE181.out))) : w.heap.size ≤ gb182)); have n5_ := zM ((by rw [hg]; exact Nat.ne_of_lt (blk_lt (g := gb181) (o := .cells #[.string a0_0, .int .i64 a0_1] 133 (0, 0)) (by (with_reducible repeat (first | refine zK ?_ _ | refine zW ?_ | refine zB ?_ _)); exact BK181.out)) : gb181 ≠ gb182)); have n6_ := zM ((by rw [hg]; exact Nat.ne_of_gt (blk_lt (g := gb181) (o := .cells #[.string a0_0, .int .i64 a0_1] 133 (0, 0)) (by (with_reducible repeat (first | refine zK ?_ _ | refine zW ?_ | refine zB ?_ _)); exact BK181.out)) : gb182 ≠ gb181)); clear BK181; clear HB; have BK181 := n0_; have HB := n1_; have BK182 := n2_; have GW182 := n3_; have GE182 := n4_; have NB181_182 := n5_; have NB182_181 := n6_; clear n0_ n1_ n2_ n3_ n4_ n5_ n6_; clear hb hbox hg) | ((with_reducible refine gate_dst (N := 3) rfl ?_); refine box_event ?hg (N := 3) ?hd (cs := #[.string (⟨#[]⟩ : ByteArray), .int .i64 0]) (t := 117) ?hr ?_; (case hd => rfl); (case hg => rfl); (case hr => first | (go_simp; done) | (go_simp; rfl)); intro gb183 hg w4 hbox hb; have n0_ := zM (zL (g := gb181) (o := .cells #[.string a0_0, .int .i64 a0_1] 133 (0, 0)) (by (with_reducible repeat (first | refine zK ?_ _ | refine zW ?_ | refine zB ?_ _)); exact BK181.out) hb); have n1_ := zM (zL (g := gb182) (o := .cells #[.string (⟨#[]⟩ : ByteArray), .int .i64 0] 117 (0, 0)) (by (with_reducible repeat (first | refine zK ?_ _ | refine zW ?_ | refine zB ?_ _)); exact BK182.out) hb); have n2_ := zM (zP (by with_reducible repeat (first | exact HB.out | apply zA | apply zN | apply zD | refine zS ?_ GE181.out | refine zS ?_ GE182.out)) hb); have n3_ := zM (hbox); have n4_ := zM ((by rw [hg]; exact (zZ (by with_reducible repeat (first | exact HB.out | apply zA | apply zN | apply zD | refine zS ?_ GE181.out | refine zS ?_ GE182.out))) : w.heap.size ≤ gb183)); have n5_ := zM ((by rw [hg]; exact (zZ (by with_reducible repeat (first | exact HB.out | apply zA | apply zN | apply zD | refine zS ?_ GE181.out | refine zS ?_ GE182.out))) : w.heap.size ≤ gb183)); have n6_ := zM ((by rw [hg]; exact Nat.ne_of_lt (blk_lt (g := gb181) (o := .cells #[.string a0_0, .int .i64 a0_1] 133 (0, 0)) (by (with_reducible repeat (first | refine zK ?_ _ | refine zW ?_ | refine zB ?_ _)); exact BK181.out)) : gb181 ≠ gb183)); have n7_ := zM ((by rw [hg]; exact Nat.ne_of_gt (blk_lt (g := gb181) (o := .cells #[.string a0_0, .int .i64 a0_1] 133 (0, 0)) (by (with_reducible repeat (first | refine zK ?_ _ | refine zW ?_ | refine zB ?_ _)); exact BK181.out)) : gb183 ≠ gb181)); have n8_ := zM ((by rw [hg]; exact Nat.ne_of_lt (blk_lt (g := gb182) (o := .cells #[.string (⟨#[]⟩ : ByteArray), .int .i64 0] 117 (0, 0)) (by (with_reducible repeat (first | refine zK ?_ _ | refine zW ?_ | refine zB ?_ _)); exact BK182.out)) : gb182 ≠ gb183)); have n9_ := zM ((by rw [hg]; exact Nat.ne_of_gt (blk_lt (g := gb182) (o := .cells #[.string (⟨#[]⟩ : ByteArray), .int .i64 0] 117 (0, 0)) (by (with_reducible repeat (first | refine zK ?_ _ | refine zW ?_ | refine zB ?_ _)); exact BK182.out)) : gb183 ≠ gb182)); clear BK181; clear BK182; clear HB; have BK181 := n0_; have BK182 := n1_; have HB := n2_; have BK183 := n3_; have GW183 := n4_; have GE183 := n5_; have NB181_183 := n6_; have NB183_181 := n7_; have NB182_183 := n8_; have NB183_182 := n9_; clear n0_ n1_ n2_ n3_ n4_ n5_ n6_ n7_ n8_ n9_; clear hb hbox hg; have hnb5 := NB181_182.out; have hnc5 := NB182_181.out; have hnb6 := NB181_183.out; have hnc6 := NB183_181.out; have hcz7_0 : w4.cell? ⟨gb181, 0, none⟩ = some (.string a0_0) := (zC BK181.out 0).trans rfl; have hcz7_1 : w4.cell? ⟨gb181, 1, none⟩ = some (.int .i64 a0_1) := (zC BK181.out 1).trans rfl; have hfz7_0 := zF BK181.out 0; have hfz7_1 := zF BK181.out 1; have hnb8 := NB183_182.out; have hnc8 := NB182_183.out; have hcz9_0 : w4.cell? ⟨gb183, 0, none⟩ = some (.string (⟨#[]⟩ : ByteArray)) := (zC BK183.out 0).trans rfl; have hcz9_1 : w4.cell? ⟨gb183, 1, none⟩ = some (.int .i64 0) := (zC BK183.out 1).trans rfl; have hfz9_0 := zF BK183.out 0; have hfz9_1 := zF BK183.out 1; have hcz10_0 : w4.cell? ⟨gb182, 0, none⟩ = some (.string (⟨#[]⟩ : ByteArray)) := (zC BK182.out 0).trans rfl; have hcz10_1 : w4.cell? ⟨gb182, 1, none⟩ = some (.int .i64 0) := (zC BK182.out 1).trans rfl; have hfz10_0 := zF BK182.out 0; have hfz10_1 := zF BK182.out 1))
 refine bodyPost_ret (results_cell_row rfl _ _ gb182 117 #[.string a0_0, .int .i64 a0_1] (0, 0) _ rfl (by (with_reducible repeat (first | refine zK ?_ _ | refine zW ?_ | refine zB ?_ _)); refine blk_put (cs := #[.string a0_0, .int .i64 0]) ?_ 1 _ rfl; (with_reducible repeat (first | refine zK ?_ _ | refine zW ?_ | refine zB ?_ _)); refine blk_put (cs := #[.string (⟨#[]⟩ : ByteArray), .int .i64 0]) ?_ 0 _ rfl; (with_reducible repeat (first | refine zK ?_ _ | refine zW ?_ | refine zB ?_ _)); refine blk_far ?_ NB182_183.out _; (with_reducible repeat (first | refine zK ?_ _ | refine zW ?_ | refine zB ?_ _)); refine blk_far ?_ NB182_183.out _; (with_reducible repeat (first | refine zK ?_ _ | refine zW ?_ | refine zB ?_ _)); exact BK182.out) Tryd.underlying117 rfl (by kernel_rfl)) rfl ?_
 exact ⟨by first | rfl | (simp [errW_none, errW_some] <;> rfl) | (simp [*, errW_none, errW_some] <;> rfl), by repeat (first | (with_reducible first | exact HB.out | apply zA | apply zN | apply zD | refine zS ?_ GE181.out | refine zS ?_ GE182.out | refine zS ?_ GE183.out) | exact HB.out)⟩

/-! ### laws_toDirentS: function 94 -/
def laws_toDirentS.l0 : Nat → List (S133) → List (S117) → Int → Option ((List (S117)))
 | 0, _, _, _ => none
 | k + 1, x0, x3, x4 => if x4 < (x0.length : Int) then (if 0 ≤ x4 then ((laws_toDirent.f ((rd_T133 x0 x4).f0) ((rd_T133 x0 x4).f1)).bind fun bt188 => (if x4 < (x3.length : Int) then (laws_toDirentS.l0 k x0 (x3.set (x4 : Int).toNat (⟨bt188.1, bt188.2⟩ : S117)) (wrap64 (x4 + 1))) else (none))) else (none)) else (some x3)
def laws_toDirentS.f (k : Nat) (l0 : List (S133)) : Option ((List (S117))) := if 0 ≤ (l0.length : Int) then (if ((l0.length : Int) : Int).toNat ≤ 11728124029610 then (laws_toDirentS.l0 k l0 (List.replicate ((l0.length : Int) : Int).toNat z117) 0) else (none)) else (none)
theorem laws_toDirentS.mono_l : ∀ k, (∀ y0 y1 y2, LeO (laws_toDirentS.l0 k y0 y1 y2) (laws_toDirentS.l0 (k + 1) y0 y1 y2))
 | 0 => fun _ _ _ r h => by simp [laws_toDirentS.l0] at h
 | k + 1 => by
  have ih0 := laws_toDirentS.mono_l k
  ·intro y0 y1 y2
   unfold laws_toDirentS.l0
   repeat' first | (with_reducible exact ih0 _ _ _) | (with_reducible exact LeO.refl _) | (with_reducible exact LeO.none _) | (with_reducible refine LeO.ite ?_ ?_) | (with_reducible refine LeO.bind ?_ (fun _ => ?_)) | exact LeO.none _ | refine LeO.ite ?_ ?_ | refine LeO.bind ?_ (fun _ => ?_)
theorem laws_toDirentS.mono : ∀ a0 k, LeO (laws_toDirentS.f k a0) (laws_toDirentS.f (k + 1) a0) := by
 intro a0 k
 have ih0 := laws_toDirentS.mono_l k
 unfold laws_toDirentS.f
 repeat' first | (with_reducible exact ih0 _ _ _) | (with_reducible exact LeO.refl _) | (with_reducible exact LeO.none _) | (with_reducible refine LeO.ite ?_ ?_) | (with_reducible refine LeO.bind ?_ (fun _ => ?_)) | exact LeO.none _ | refine LeO.ite ?_ ?_ | refine LeO.bind ?_ (fun _ => ?_)
set_option maxHeartbeats 8000000 in
set_option maxRecDepth 100000 in
theorem laws_toDirentS.calls (k : Nat) (A0 : Option Addr) (c0 : Nat) (l0 : List (S133)) (r : List (S117)) (w : World) (hr0 : Kd.C k133 w A0 l0.length l0) (hc0 : l0.length ≤ c0) (h : laws_toDirentS.f k l0 = some r) :
  Calls Tryd.prog 94 #[.slice A0 l0.length c0] w fun e w' => ∃ v0_ : Value, e = .returned (v0_) ∧ Kd.R k117 117 w' w.heap.size (fun _ => True) v0_ r ∧ Below w.heap.size w w' := by
 have hu133 := Tryd.underlying133
 have hu117 := Tryd.underlying117
 have HR0 := zM hr0
 have HC0 := zM hc0
 clear hr0 hc0
 have HB := zM (Below.refl w.heap.size w)
 have H : (if 0 ≤ (l0.length : Int) then (if ((l0.length : Int) : Int).toNat ≤ 11728124029610 then (laws_toDirentS.l0 k l0 (List.replicate ((l0.length : Int) : Int).toNat z117) 0) else (none)) else (none)) = some r := h
 clear h
 by_cases c2 : 0 ≤ (l0.length : Int)
 rotate_left
 ·rw [if_neg c2] at H
  exact absurd H (by simp)

 rw [if_pos c2] at H
 have c2b0 := eq_true c2
 have c2b1 : decide (0 ≤ (l0.length : Int)) = true := zE c2
 clear c2
 by_cases c3 : ((l0.length : Int) : Int).toNat ≤ 11728124029610
 rotate_left
 ·rw [if_neg c3] at H
  exact absurd H (by simp)
 rw [if_pos c3] at H
 have c3b0 := eq_true c3
 have c3b1 : decide (((l0.length : Int) : Int).toNat ≤ 11728124029610) = true := zE c3
 clear c3
 obtain ⟨y184, hy184⟩ : ∃ y_ : List (S117), y_ = (List.replicate ((l0.length : Int) : Int).toNat z117) := ⟨_, rfl⟩
 replace H : (laws_toDirentS.l0 k l0 y184 0) = some r := by first | (rw [hy184]; with_reducible exact H) | (have H2_ := (Option.bind_some _ _).symm.trans H; rw [hy184]; with_reducible exact H2_) | (have H2_ := (Option.bind_some _ _).symm.trans H; with_reducible exact H2_) | with_reducible exact H | (rw [hy184]; exact H) | exact H
 have Ny184 := zM hy184
 clear hy184
 have H' := zM H
 clear H
 go_enter Tryd.func94, Tryd.ntmps94
 go_wp2_with (first | ((with_reducible refine gate_dst (N := 7) rfl ?_); refine Kd.R_make k117 _ 117 rfl (N := 7) rfl 88 _ _ rfl (l0.length : Int) rfl rfl Tryd.underlying88 (.agg #[(.string ⟨#[]⟩), (.int .i64 0)]) 24 info117 rfl (by decide) (by omega) z117 (ok := fun _ => True) (okp := fun _ => True) (k117_mkM _ _ _ z117 ) (fun _ hk => hk) trivial (zO (by first | (with_reducible assumption) | assumption)) (Nat.le_trans (Nat.mul_le_mul_right _ (zO (by first | (with_reducible assumption) | assumption) : (l0.length : Int).toNat ≤ 11728124029610)) (by omega)) (Below.refl _ _) (Nat.le_refl _) ?_; intro v185 w4 ho5 hb hg_ hnew_; clear hg_ hnew_; (first | rw [← Ny184.out] at ho5 | (simp only [Int.reduceToNat] at ho5; rw [← Ny184.out] at ho5)); have n0_ := zM (Kd.R_lower ho5 (zZ (by with_reducible repeat (first | exact HB.out | apply zA | apply zN | apply zD)))); have n1_ := zM (zP (by with_reducible repeat (first | exact HB.out | apply zA | apply zN | apply zD)) hb); clear HB; have HO186 := n0_; have HB := n1_; clear n0_ n1_; clear hb ho5))
 go_loopg [4] k (fun kq v4 w' => ∃ (x3_1 : List (S117)) (x4_1 : Int), v4 = .int .i64 x4_1 ∧ Aside0 (laws_toDirentS.l0 kq l0 x3_1 x4_1 = some r) ∧ Aside0 (kq ≤ k) ∧ Aside0 (Kd.R k117 117 w' w.heap.size (fun _ => True) v185 x3_1) ∧ Aside0 (Below w.heap.size w w'))
 case atStart => exact ⟨(y184), (0), (by first | rfl | (simp; done) | (simp [*]; done) | (simp; exact zQ _)), H', ⟨Nat.le_refl _⟩, ⟨by (with_reducible repeat (first | apply Kd.R_alloc | apply Kd.R_drewN | apply Kd.R_drew)); exact HO186.out⟩, ⟨by repeat (first | (with_reducible first | exact HB.out | apply zA | apply zN | apply zD) | exact HB.out)⟩⟩
 case round =>
  clear H'
  try clear c2
  try clear c2b0
  try clear c2b1
  try clear p2
  try clear c3
  try clear c3b0
  try clear c3b1
  obtain ⟨x3_1, x4_1, rfl, HA, HK1, HO_3, HB⟩ := hrel
  cases gk with
  | zero => exact absurd HA.out (by simp [laws_toDirentS.l0])
  | succ k1 =>
   have H := HA.out
   clear HA
   simp only [laws_toDirentS.l0] at H
   by_cases c6 : x4_1 < (l0.length : Int)
   rotate_left
   ·rw [if_neg c6] at H
    have c6b0 : decide (x4_1 < (l0.length : Int)) = false := zG c6
    clear c6
    obtain rfl := zI H
    go_wp2
    go_ret
    exact ⟨_, by first | rfl | (simp [errW_none, errW_some] <;> rfl) | (simp [*, errW_none, errW_some] <;> rfl), by (with_reducible repeat (first | apply Kd.R_alloc | apply Kd.R_drewN | apply Kd.R_drew)); exact HO_3.out, by repeat (first | (with_reducible first | exact HB.out | apply zA | apply zN | apply zD) | exact HB.out)⟩
   rw [if_pos c6] at H
   have c6b0 : decide (x4_1 < (l0.length : Int)) = true := zE c6
   clear c6
   by_cases c7 : 0 ≤ x4_1
   rotate_left
   ·rw [if_neg c7] at H
    exact absurd H (by simp)
   rw [if_pos c7] at H
   have c7b0 : decide (0 ≤ x4_1) = true := zE c7
   clear c7
   replace H := Option.bind_eq_some_iff.mp H
   obtain ⟨⟨t188, t189⟩, A80, H⟩ := H
   replace H : (if x4_1 < (x3_1.length : Int) then (laws_toDirentS.l0 k1 l0 (x3_1.set (x4_1 : Int).toNat (⟨t188, t189⟩ : S117)) (wrap64 (x4_1 + 1))) else (none)) = some r := H
   have A8 := zM A80
   clear A80
   by_cases c9 : x4_1 < (x3_1.length : Int)
   rotate_left
   ·rw [if_neg c9] at H
    exact absurd H (by simp)
   rw [if_pos c9] at H
   have c9b0 : decide (x4_1 < (x3_1.length : Int)) = true := zE c9
   clear c9
   obtain ⟨y190, hy190⟩ : ∃ y_ : List (S117), y_ = (x3_1.set (x4_1 : Int).toNat (⟨t188, t189⟩ : S117)) := ⟨_, rfl⟩
   replace H : (laws_toDirentS.l0 k1 l0 y190 (wrap64 (x4_1 + 1))) = some r := by first | (rw [hy190]; with_reducible exact H) | (have H2_ := (Option.bind_some _ _).symm.trans H; rw [hy190]; with_reducible exact H2_) | (have H2_ := (Option.bind_some _ _).symm.trans H; with_reducible exact H2_) | with_reducible exact H | (rw [hy190]; exact H) | exact H
   have Ny190 := zM hy190
   clear hy190
   have H' := zM H
   clear H
   have p187 : 0 ≤ (x4_1 : Int) := zO (by first | (with_reducible assumption) | assumption)
   have q187 : x4_1 < (l0.length : Int) := zO (by first | (with_reducible assumption) | assumption)
   obtain ⟨ad187, e187, hx187_0, hx187_1⟩ := at_T133 HR0.out x4_1 p187 q187
   cases e187
   replace hx187_0 := (HB.out.cell (zT w _ hx187_0)).trans hx187_0
   replace hx187_1 := (HB.out.cell (zT w _ hx187_1)).trans hx187_1
   replace p187 := eq_true p187
   replace q187 := eq_true q187
   go_wp2_with (first | ((with_reducible refine gate_callee (f := 108) rfl ?_); refine goesL_ (some 20) rfl rfl Tryd.func108 (by kernel_rfl) rfl #[.agg #[.string ((rd_T133 l0 x4_1).f0), .int .i64 ((rd_T133 l0 x4_1).f1)]] rfl (by (try simp only [List.map_toArray, List.map_cons, List.map_nil]); first | done | rfl | (simp only [List.length_drop, List.length_take]; rfl)) ?_; (with_reducible refine (laws_toDirent.calls ((rd_T133 l0 x4_1).f0) ((rd_T133 l0 x4_1).f1) t188 t189 _ A8.out).mono ?_); rintro e w11 ⟨rfl, hb⟩; refine ⟨_, rfl, ?_⟩; have n0_ := zM (Kd.R_below (by (with_reducible repeat (first | apply Kd.R_alloc | apply Kd.R_drewN | apply Kd.R_drew)); exact HO_3.out) hb); have n1_ := zM (zP (by with_reducible repeat (first | exact HB.out | apply zA | apply zN | apply zD)) hb); clear HO_3; clear HB; have HO_3 := n0_; have HB := n1_; clear n0_ n1_; (try clear hb); (try clear hb2); (try clear hk); (try clear hi); have p10 : 0 ≤ (x4_1 : Int) := zO (by first | (with_reducible assumption) | assumption); have q10 : (x4_1 : Int) < ((x3_1.length : Int) : Int) := zO (by first | (with_reducible assumption) | assumption); obtain ⟨go10, co10, eo10, gb10, gl10, cl10, HG10⟩ := Kd.R_form HO_3.out (by omega); (first | cases eo10 | (injection eo10 with ea_ en_ ec_; (first | subst ea_ | (injection ea_ with ea_; subst ea_)); subst ec_; clear en_)); have GB10 := zM gb10; have GG10 := zM HG10; clear gb10 gl10 HG10; obtain ⟨ce10, hcl10, hM10, hcc10, hfr10⟩ := Kd.R_elem HO_3.out z117 (x4_1 : Int) p10 q10; obtain rfl := k117_openM hM10; have hx10_0 : w11.cell? ⟨go10, (x4_1 : Int).toNat * 2, none⟩ = some (.string ((rd_T117 x3_1 x4_1).f0)) := hcc10 0 _ rfl; have hx10_1 : w11.cell? ⟨go10, (x4_1 : Int).toNat * 2 + 1, none⟩ = some (.int .i64 ((rd_T117 x3_1 x4_1).f1)) := hcc10 1 _ rfl; have hf10_0 : w11.frozen? ⟨go10, (x4_1 : Int).toNat * 2, none⟩ = false := hfr10 0; have hf10_1 : w11.frozen? ⟨go10, (x4_1 : Int).toNat * 2 + 1, none⟩ = false := hfr10 1; clear hcl10 hcc10 hfr10 hM10; replace p10 := eq_true p10; replace q10 := eq_true q10; have HX12 := zM (show Kd.R k117 117 w11 w.heap.size (fun _ => True) (.slice (some ⟨go10, 0, none⟩) x3_1.length co10) x3_1 from (by (with_reducible repeat (first | apply Kd.R_alloc | apply Kd.R_drewN | apply Kd.R_drew)); exact HO_3.out)); obtain ⟨ce12, hcl12, hM12, hcc12, hfr12⟩ := Kd.R_elem HX12.out z117 (x4_1 : Int) (zO (by first | (with_reducible assumption) | assumption)) (by have h_ : (x4_1 : Int) < ((x3_1.length : Int) : Int) := zO (by first | (with_reducible assumption) | assumption); first | exact h_ | (have e_ := (Kd.R_reads' HO_3.out).1; omega) | simpa using h_); obtain rfl := k117_openM hM12; have HP12 := Kd.R_seg HX12.out (x4_1 : Int) (zO (by first | (with_reducible assumption) | assumption)) (by have h_ : (x4_1 : Int) < ((x3_1.length : Int) : Int) := zO (by first | (with_reducible assumption) | assumption); first | exact h_ | (have e_ := (Kd.R_reads' HO_3.out).1; omega) | simpa using h_) (seg := [.string t188, .int .i64 t189]) (j := 0) hcl12 hcc12 (show 2 ≤ 2 from by decide) (x' := (⟨t188, t189⟩ : S117)) (k117_mkM _ _ _ (⟨t188, t189⟩ : S117) ) (fun _ hk => hk); have hx12_0 := hcc12 0 _ rfl; (try simp only [show (k117).sz = 2 from rfl, Nat.mul_one, Nat.add_zero] at hx12_0); have hf12_0 := hfr12 0; (try simp only [show (k117).sz = 2 from rfl, Nat.mul_one, Nat.add_zero] at hf12_0); have hx12_1 := hcc12 1 _ rfl; (try simp only [show (k117).sz = 2 from rfl, Nat.mul_one, Nat.add_zero] at hx12_1); have hf12_1 := hfr12 1; (try simp only [show (k117).sz = 2 from rfl, Nat.mul_one, Nat.add_zero] at hf12_1); clear hcl12 hcc12 hfr12 hM12) | ((with_reducible refine gate_store (t := 117) (p := 21) rfl ?_); refine store_event (t := 117) (p := 21) (v := ?vo_w13) (w1 := ((w11.setCell ⟨go10, (x4_1 : Int).toNat * 2, none⟩ (.string t188)).setCell ⟨go10, (x4_1 : Int).toNat * 2 + 1, none⟩ (.int .i64 t189))) ?hg ?ho ?hn ?hr ?_; (case ho => rfl); (case hg => rfl); (case hn => rfl); (case hr => first | (go_simp; done) | (go_simp; rfl)); intro w13 hw; have hg : w11.grownBy w13 (some go10) := (by rw [hw]; exact HP12.2); have hp_ : Kd.R k117 117 w13 w.heap.size (fun _ => True) (.slice (some ⟨go10, 0, none⟩) x3_1.length co10) y190 := (by rw [hw, Ny190.out]; exact HP12.1); clear HP12; have n0_ := zM (hp_); have n1_ := zM ((by rw [hw]; exact zS (zS (HB.out) GB10.out) GB10.out : Below w.heap.size w w13)); clear HO_3; clear HB; have HO_3 := n0_; have HB := n1_; clear n0_ n1_; clear hg hw hp_))
   go_roundg k1
   case measure => have := HK1.out; omega
   case rel => exact ⟨(y190), (wrap64 (x4_1 + 1)), (by first | rfl | (simp; done) | (simp [*]; done) | (simp; exact zQ _)), H', ⟨by have := HK1.out; omega⟩, ⟨by (with_reducible repeat (first | apply Kd.R_alloc | apply Kd.R_drewN | apply Kd.R_drew)); exact HO_3.out⟩, ⟨by repeat (first | (with_reducible first | exact HB.out | apply zA | apply zN | apply zD) | exact HB.out)⟩⟩
/-! ### laws_toInode: function 68 -/
def laws_toInode.f (k : Nat) (a0_0 : Int) (a0_1 : Int) (a0_2 : Int) (a0_3 : Int) (a0_4 : Int) (a0_5 : ByteArray) (l0_6 : List (S133)) (a0_7 : Int) (a0_8 : Int) : Option (Int × Int × Int × Int × Int × ByteArray × (List (S117)) × Int × Int) := (laws_toDirentS.f k l0_6).bind fun t194 => (some (a0_0, a0_1, a0_2, a0_3, a0_4, a0_5, t194, a0_7, a0_8))
theorem laws_toInode.mono : ∀ a0 a1 a2 a3 a4 a5 a6 a7 a8 k, LeO (laws_toInode.f k a0 a1 a2 a3 a4 a5 a6 a7 a8) (laws_toInode.f (k + 1) a0 a1 a2 a3 a4 a5 a6 a7 a8) := by
 intro a0 a1 a2 a3 a4 a5 a6 a7 a8 k
 unfold laws_toInode.f
 repeat' first | (with_reducible exact laws_toDirentS.mono _ _) | (with_reducible exact LeO.refl _) | (with_reducible exact LeO.none _) | (with_reducible refine LeO.ite ?_ ?_) | (with_reducible refine LeO.bind ?_ (fun _ => ?_)) | exact LeO.none _ | refine LeO.ite ?_ ?_ | refine LeO.bind ?_ (fun _ => ?_)
set_option maxHeartbeats 8000000 in
set_option maxRecDepth 100000 in
theorem laws_toInode.calls (k : Nat) (a0_0 : Int) (a0_1 : Int) (a0_2 : Int) (a0_3 : Int) (a0_4 : Int) (a0_5 : ByteArray) (A0_6 : Option Addr) (c0_6 : Nat) (l0_6 : List (S133)) (a0_7 : Int) (a0_8 : Int) (r1 : Int) (r2 : Int) (r3 : Int) (r4 : Int) (r5 : Int) (r6 : ByteArray) (r7 : List (S117)) (r8 : Int) (r9 : Int) (w : World) (hr0_6 : Kd.C k133 w A0_6 l0_6.length l0_6) (hc0_6 : l0_6.length ≤ c0_6) (h : laws_toInode.f k a0_0 a0_1 a0_2 a0_3 a0_4 a0_5 l0_6 a0_7 a0_8 = some (r1, r2, r3, r4, r5, r6, r7, r8, r9)) :
  Calls Tryd.prog 68 #[.agg #[.int .i64 a0_0, .int .i64 a0_1, .int .i64 a0_2, .int .i64 a0_3, .int .i64 a0_4, .string a0_5, .slice A0_6 l0_6.length c0_6, .int .i64 a0_7, .int .i64 a0_8]] w fun e w' => ∃ v6_ : Value, e = .returned (.agg #[.int .i64 r1, .int .i64 r2, .int .i64 r3, .int .i64 r4, .int .i64 r5, .string r6, v6_, .int .i64 r8, .int .i64 r9]) ∧ Kd.R k117 117 w' w.heap.size (fun _ => True) v6_ r7 ∧ Below w.heap.size w w' := by
 have hu87 := Tryd.underlying87
 have hu90 := Tryd.underlying90
 have HR0_6 := zM hr0_6
 have HC0_6 := zM hc0_6
 clear hr0_6 hc0_6
 have HB := zM (Below.refl w.heap.size w)
 have H : ((laws_toDirentS.f k l0_6).bind fun t194 => (some (a0_0, a0_1, a0_2, a0_3, a0_4, a0_5, t194, a0_7, a0_8))) = some (r1, r2, r3, r4, r5, r6, r7, r8, r9) := h
 clear h
 replace H := Option.bind_eq_some_iff.mp H
 obtain ⟨t194, A20, H⟩ := H
 replace H : (some (a0_0, a0_1, a0_2, a0_3, a0_4, a0_5, t194, a0_7, a0_8)) = some (r1, r2, r3, r4, r5, r6, r7, r8, r9) := H
 have A2 := zM A20
 clear A20
 simp only [Option.some.injEq, Prod.mk.injEq] at H
 obtain ⟨rfl, rfl, rfl, rfl, rfl, rfl, rfl, rfl, rfl⟩ := H
 go_enter Tryd.func68, Tryd.ntmps68
 go_wp2_with (first | ((with_reducible refine gate_dst (N := 1) rfl ?_); refine box_event ?hg (N := 1) ?hd (cs := #[.int .i64 a0_0, .int .i64 a0_1, .int .i64 a0_2, .int .i64 a0_3, .int .i64 a0_4, .string a0_5, .slice A0_6 l0_6.length c0_6, .int .i64 a0_7, .int .i64 a0_8]) (t := 87) ?hr ?_; (case hd => rfl); (case hg => rfl); (case hr => first | (go_simp; done) | (go_simp; rfl)); intro gb191 hg w3 hbox hb; have n0_ := zM (zP (by with_reducible repeat (first | exact HB.out | apply zA | apply zN | apply zD)) hb); have n1_ := zM (hbox); have n2_ := zM ((by rw [hg]; exact (zZ (by with_reducible repeat (first | exact HB.out | apply zA | apply zN | apply zD))) : w.heap.size ≤ gb191)); have n3_ := zM ((by rw [hg]; exact (zZ (by with_reducible repeat (first | exact HB.out | apply zA | apply zN | apply zD))) : w.heap.size ≤ gb191)); clear HB; have HB := n0_; have BK191 := n1_; have GW191 := n2_; have GE191 := n3_; clear n0_ n1_ n2_ n3_; clear hb hbox hg) | ((with_reducible refine gate_dst (N := 2) rfl ?_); refine box_event ?hg (N := 2) ?hd (cs := #[.int .i64 0, .int .i64 0, .int .i64 0, .int .i64 0, .int .i64 0, .string (⟨#[]⟩ : ByteArray), .slice none 0 0, .int .i64 0, .int .i64 0]) (t := 90) ?hr ?_; (case hd => rfl); (case hg => rfl); (case hr => first | (go_simp; done) | (go_simp; rfl)); intro gb192 hg w4 hbox hb; have n0_ := zM (zL (g := gb191) (o := .cells #[.int .i64 a0_0, .int .i64 a0_1, .int .i64 a0_2, .int .i64 a0_3, .int .i64 a0_4, .string a0_5, .slice A0_6 l0_6.length c0_6, .int .i64 a0_7, .int .i64 a0_8] 87 (0, 0)) (by (with_reducible repeat (first | refine zK ?_ _ | refine zW ?_ | refine zB ?_ _)); exact BK191.out) hb); have n1_ := zM (zP (by with_reducible repeat (first | exact HB.out | apply zA | apply zN | apply zD | refine zS ?_ GE191.out)) hb); have n2_ := zM (hbox); have n3_ := zM ((by rw [hg]; exact (zZ (by with_reducible repeat (first | exact HB.out | apply zA | apply zN | apply zD | refine zS ?_ GE191.out))) : w.heap.size ≤ gb192)); have n4_ := zM ((by rw [hg]; exact (zZ (by with_reducible repeat (first | exact HB.out | apply zA | apply zN | apply zD | refine zS ?_ GE191.out))) : w.heap.size ≤ gb192)); have n5_ := zM ((by rw [hg]; exact Nat.ne_of_lt (blk_lt (g := gb191) (o := .cells #[.int .i64 a0_0, .int .i64 a0_1, .int .i64 a0_2, .int .i64 a0_3, .int .i64 a0_4, .string a0_5, .slice A0_6 l0_6.length c0_6, .int .i64 a0_7, .int .i64 a0_8] 87 (0, 0)) (by (with_reducible repeat (first | refine zK ?_ _ | refine zW ?_ | refine zB ?_ _)); exact BK191.out)) : gb191 ≠ gb192)); have n6_ := zM ((by rw [hg]; exact Nat.ne_of_gt (blk_lt (g := gb191) (o := .cells #[.int .i64 a0_0, .int .i64 a0_1, .int .i64 a0_2, .int .i64 a0_3, .int .i64 a0_4, .string a0_5, .slice A0_6 l0_6.length c0_6, .int .i64 a0_7, .int .i64 a0_8] 87 (0, 0)) (by (with_reducible repeat (first | refine zK ?_ _ | refine zW ?_ | refine zB ?_ _)); exact BK191.out)) : gb192 ≠ gb191)); clear BK191; clear HB; have BK191 := n0_; have HB := n1_; have BK192 := n2_; have GW192 := n3_; have GE192 := n4_; have NB191_192 := n5_; have NB192_191 := n6_; clear n0_ n1_ n2_ n3_ n4_ n5_ n6_; clear hb hbox hg) | ((with_reducible refine gate_dst (N := 3) rfl ?_); refine box_event ?hg (N := 3) ?hd (cs := #[.int .i64 0, .int .i64 0, .int .i64 0, .int .i64 0, .int .i64 0, .string (⟨#[]⟩ : ByteArray), .slice none 0 0, .int .i64 0, .int .i64 0]) (t := 90) ?hr ?_; (case hd => rfl); (case hg => rfl); (case hr => first | (go_simp; done) | (go_simp; rfl)); intro gb193 hg w5 hbox hb; have n0_ := zM (zL (g := gb191) (o := .cells #[.int .i64 a0_0, .int .i64 a0_1, .int .i64 a0_2, .int .i64 a0_3, .int .i64 a0_4, .string a0_5, .slice A0_6 l0_6.length c0_6, .int .i64 a0_7, .int .i64 a0_8] 87 (0, 0)) (by (with_reducible repeat (first | refine zK ?_ _ | refine zW ?_ | refine zB ?_ _)); exact BK191.out) hb); have n1_ := zM (zL (g := gb192) (o := .cells #[.int .i64 0, .int .i64 0, .int .i64 0, .int .i64 0, .int .i64 0, .string (⟨#[]⟩ : ByteArray), .slice none 0 0, .int .i64 0, .int .i64 0] 90 (0, 0)) (by (with_reducible repeat (first | refine zK ?_ _ | refine zW ?_ | refine zB ?_ _)); exact BK192.out) hb); have n2_ := zM (zP (by with_reducible repeat (first | exact HB.out | apply zA | apply zN | apply zD | refine zS ?_ GE191.out | refine zS ?_ GE192.out)) hb); have n3_ := zM (hbox); have n4_ := zM ((by rw [hg]; exact (zZ (by with_reducible repeat (first | exact HB.out | apply zA | apply zN | apply zD | refine zS ?_ GE191.out | refine zS ?_ GE192.out))) : w.heap.size ≤ gb193)); have n5_ := zM ((by rw [hg]; exact (zZ (by with_reducible repeat (first | exact HB.out | apply zA | apply zN | apply zD | refine zS ?_ GE191.out | refine zS ?_ GE192.out))) : w.heap.size ≤ gb193)); have n6_ := zM ((by rw [hg]; exact Nat.ne_of_lt (blk_lt (g := gb191) (o := .cells #[.int .i64 a0_0, .int .i64 a0_1, .int .i64 a0_2, .int .i64 a0_3, .int .i64 a0_4, .string a0_5, .slice A0_6 l0_6.length c0_6, .int .i64 a0_7, .int .i64 a0_8] 87 (0, 0)) (by (with_reducible repeat (first | refine zK ?_ _ | refine zW ?_ | refine zB ?_ _)); exact BK191.out)) : gb191 ≠ gb193)); have n7_ := zM ((by rw [hg]; exact Nat.ne_of_gt (blk_lt (g := gb191) (o := .cells #[.int .i64 a0_0, .int .i64 a0_1, .int .i64 a0_2, .int .i64 a0_3, .int .i64 a0_4, .string a0_5, .slice A0_6 l0_6.length c0_6, .int .i64 a0_7, .int .i64 a0_8] 87 (0, 0)) (by (with_reducible repeat (first | refine zK ?_ _ | refine zW ?_ | refine zB ?_ _)); exact BK191.out)) : gb193 ≠ gb191)); have n8_ := zM ((by rw [hg]; exact Nat.ne_of_lt (blk_lt (g := gb192) (o := .cells #[.int .i64 0, .int .i64 0, .int .i64 0, .int .i64 0, .int .i64 0, .string (⟨#[]⟩ : ByteArray), .slice none 0 0, .int .i64 0, .int .i64 0] 90 (0, 0)) (by (with_reducible repeat (first | refine zK ?_ _ | refine zW ?_ | refine zB ?_ _)); exact BK192.out)) : gb192 ≠ gb193)); have n9_ := zM ((by rw [hg]; exact Nat.ne_of_gt (blk_lt (g := gb192) (o := .cells #[.int .i64 0, .int .i64 0, .int .i64 0, .int .i64 0, .int .i64 0, .string (⟨#[]⟩ : ByteArray), .slice none 0 0, .int .i64 0, .int .i64 0] 90 (0, 0)) (by (with_reducible repeat (first | refine zK ?_ _ | refine zW ?_ | refine zB ?_ _)); exact BK192.out)) : gb193 ≠ gb192)); clear BK191; clear BK192; clear HB; have BK191 := n0_; have BK192 := n1_; have HB := n2_; have BK193 := n3_; have GW193 := n4_; have GE193 := n5_; have NB191_193 := n6_; have NB193_191 := n7_; have NB192_193 := n8_; have NB193_192 := n9_; clear n0_ n1_ n2_ n3_ n4_ n5_ n6_ n7_ n8_ n9_; clear hb hbox hg; have hnb6 := NB191_192.out; have hnc6 := NB192_191.out; have hnb7 := NB191_193.out; have hnc7 := NB193_191.out; have hcz8_0 : w5.cell? ⟨gb191, 0, none⟩ = some (.int .i64 a0_0) := (zC BK191.out 0).trans rfl; have hcz8_1 : w5.cell? ⟨gb191, 1, none⟩ = some (.int .i64 a0_1) := (zC BK191.out 1).trans rfl; have hcz8_2 : w5.cell? ⟨gb191, 2, none⟩ = some (.int .i64 a0_2) := (zC BK191.out 2).trans rfl; have hcz8_3 : w5.cell? ⟨gb191, 3, none⟩ = some (.int .i64 a0_3) := (zC BK191.out 3).trans rfl; have hcz8_4 : w5.cell? ⟨gb191, 4, none⟩ = some (.int .i64 a0_4) := (zC BK191.out 4).trans rfl; have hcz8_5 : w5.cell? ⟨gb191, 5, none⟩ = some (.string a0_5) := (zC BK191.out 5).trans rfl; have hcz8_6 : w5.cell? ⟨gb191, 6, none⟩ = some (.slice A0_6 l0_6.length c0_6) := (zC BK191.out 6).trans rfl; have hcz8_7 : w5.cell? ⟨gb191, 7, none⟩ = some (.int .i64 a0_7) := (zC BK191.out 7).trans rfl; have hcz8_8 : w5.cell? ⟨gb191, 8, none⟩ = some (.int .i64 a0_8) := (zC BK191.out 8).trans rfl; have hfz8_0 := zF BK191.out 0; have hfz8_1 := zF BK191.out 1; have hfz8_2 := zF BK191.out 2; have hfz8_3 := zF BK191.out 3; have hfz8_4 := zF BK191.out 4; have hfz8_5 := zF BK191.out 5; have hfz8_6 := zF BK191.out 6; have hfz8_7 := zF BK191.out 7; have hfz8_8 := zF BK191.out 8; have hnb9 := NB193_192.out; have hnc9 := NB192_193.out; have hcz10_0 : w5.cell? ⟨gb193, 0, none⟩ = some (.int .i64 0) := (zC BK193.out 0).trans rfl; have hcz10_1 : w5.cell? ⟨gb193, 1, none⟩ = some (.int .i64 0) := (zC BK193.out 1).trans rfl; have hcz10_2 : w5.cell? ⟨gb193, 2, none⟩ = some (.int .i64 0) := (zC BK193.out 2).trans rfl; have hcz10_3 : w5.cell? ⟨gb193, 3, none⟩ = some (.int .i64 0) := (zC BK193.out 3).trans rfl; have hcz10_4 : w5.cell? ⟨gb193, 4, none⟩ = some (.int .i64 0) := (zC BK193.out 4).trans rfl; have hcz10_5 : w5.cell? ⟨gb193, 5, none⟩ = some (.string (⟨#[]⟩ : ByteArray)) := (zC BK193.out 5).trans rfl; have hcz10_6 : w5.cell? ⟨gb193, 6, none⟩ = some (.slice none 0 0) := (zC BK193.out 6).trans rfl; have hcz10_7 : w5.cell? ⟨gb193, 7, none⟩ = some (.int .i64 0) := (zC BK193.out 7).trans rfl; have hcz10_8 : w5.cell? ⟨gb193, 8, none⟩ = some (.int .i64 0) := (zC BK193.out 8).trans rfl; have hfz10_0 := zF BK193.out 0; have hfz10_1 := zF BK193.out 1; have hfz10_2 := zF BK193.out 2; have hfz10_3 := zF BK193.out 3; have hfz10_4 := zF BK193.out 4; have hfz10_5 := zF BK193.out 5; have hfz10_6 := zF BK193.out 6; have hfz10_7 := zF BK193.out 7; have hfz10_8 := zF BK193.out 8) | ((with_reducible refine gate_callee (f := 94) rfl ?_); refine goesL_ (some 24) rfl rfl Tryd.func94 (by kernel_rfl) rfl #[.slice A0_6 l0_6.length c0_6] rfl (by (try simp only [List.map_toArray, List.map_cons, List.map_nil]); first | done | rfl | (simp only [List.length_drop, List.length_take]; rfl)) ?_; (with_reducible refine (laws_toDirentS.calls k _ _ l0_6 t194 _ ?side1 ?side2 A2.out).mono ?_); (case side1 => exact Kd.C_below HR0_6.out (by with_reducible repeat (first | exact HB.out | apply zA | apply zN | apply zD | refine zS ?_ GE191.out | refine zS ?_ GE192.out | refine zS ?_ GE193.out))); (case side2 => exact HC0_6.out); rintro e w11 ⟨v195, rfl, ho0, hb⟩; refine ⟨_, rfl, ?_⟩; have n0_ := zM (Kd.R_lower ho0 (zZ (by with_reducible repeat (first | exact HB.out | apply zA | apply zN | apply zD | refine zS ?_ GE191.out | refine zS ?_ GE192.out | refine zS ?_ GE193.out)))); have n1_ := zM (zL (g := gb191) (o := .cells #[.int .i64 a0_0, .int .i64 a0_1, .int .i64 a0_2, .int .i64 a0_3, .int .i64 a0_4, .string a0_5, .slice A0_6 l0_6.length c0_6, .int .i64 a0_7, .int .i64 a0_8] 87 (0, 0)) (by (with_reducible repeat (first | refine zK ?_ _ | refine zW ?_ | refine zB ?_ _)); refine blk_far ?_ NB191_193.out _; (with_reducible repeat (first | refine zK ?_ _ | refine zW ?_ | refine zB ?_ _)); refine blk_far ?_ NB191_193.out _; (with_reducible repeat (first | refine zK ?_ _ | refine zW ?_ | refine zB ?_ _)); refine blk_far ?_ NB191_193.out _; (with_reducible repeat (first | refine zK ?_ _ | refine zW ?_ | refine zB ?_ _)); refine blk_far ?_ NB191_193.out _; (with_reducible repeat (first | refine zK ?_ _ | refine zW ?_ | refine zB ?_ _)); refine blk_far ?_ NB191_193.out _; (with_reducible repeat (first | refine zK ?_ _ | refine zW ?_ | refine zB ?_ _)); refine blk_far ?_ NB191_193.out _; (with_reducible repeat (first | refine zK ?_ _ | refine zW ?_ | refine zB ?_ _)); exact BK191.out) hb); have n2_ := zM (zL (g := gb192) (o := .cells #[.int .i64 0, .int .i64 0, .int .i64 0, .int .i64 0, .int .i64 0, .string (⟨#[]⟩ : ByteArray), .slice none 0 0, .int .i64 0, .int .i64 0] 90 (0, 0)) (by (with_reducible repeat (first | refine zK ?_ _ | refine zW ?_ | refine zB ?_ _)); refine blk_far ?_ NB192_193.out _; (with_reducible repeat (first | refine zK ?_ _ | refine zW ?_ | refine zB ?_ _)); refine blk_far ?_ NB192_193.out _; (with_reducible repeat (first | refine zK ?_ _ | refine zW ?_ | refine zB ?_ _)); refine blk_far ?_ NB192_193.out _; (with_reducible repeat (first | refine zK ?_ _ | refine zW ?_ | refine zB ?_ _)); refine blk_far ?_ NB192_193.out _; (with_reducible repeat (first | refine zK ?_ _ | refine zW ?_ | refine zB ?_ _)); refine blk_far ?_ NB192_193.out _; (with_reducible repeat (first | refine zK ?_ _ | refine zW ?_ | refine zB ?_ _)); refine blk_far ?_ NB192_193.out _; (with_reducible repeat (first | refine zK ?_ _ | refine zW ?_ | refine zB ?_ _)); exact BK192.out) hb); have n3_ := zM (zL (g := gb193) (o := .cells #[.int .i64 a0_0, .int .i64 a0_1, .int .i64 a0_2, .int .i64 a0_3, .int .i64 a0_4, .string a0_5, .slice none 0 0, .int .i64 0, .int .i64 0] 90 (0, 0)) (by (with_reducible repeat (first | refine zK ?_ _ | refine zW ?_ | refine zB ?_ _)); refine blk_put (cs := #[.int .i64 a0_0, .int .i64 a0_1, .int .i64 a0_2, .int .i64 a0_3, .int .i64 a0_4, .string (⟨#[]⟩ : ByteArray), .slice none 0 0, .int .i64 0, .int .i64 0]) ?_ 5 _ rfl; (with_reducible repeat (first | refine zK ?_ _ | refine zW ?_ | refine zB ?_ _)); refine blk_put (cs := #[.int .i64 a0_0, .int .i64 a0_1, .int .i64 a0_2, .int .i64 a0_3, .int .i64 0, .string (⟨#[]⟩ : ByteArray), .slice none 0 0, .int .i64 0, .int .i64 0]) ?_ 4 _ rfl; (with_reducible repeat (first | refine zK ?_ _ | refine zW ?_ | refine zB ?_ _)); refine blk_put (cs := #[.int .i64 a0_0, .int .i64 a0_1, .int .i64 a0_2, .int .i64 0, .int .i64 0, .string (⟨#[]⟩ : ByteArray), .slice none 0 0, .int .i64 0, .int .i64 0]) ?_ 3 _ rfl; (with_reducible repeat (first | refine zK ?_ _ | refine zW ?_ | refine zB ?_ _)); refine blk_put (cs := #[.int .i64 a0_0, .int .i64 a0_1, .int .i64 0, .int .i64 0, .int .i64 0, .string (⟨#[]⟩ : ByteArray), .slice none 0 0, .int .i64 0, .int .i64 0]) ?_ 2 _ rfl; (with_reducible repeat (first | refine zK ?_ _ | refine zW ?_ | refine zB ?_ _)); refine blk_put (cs := #[.int .i64 a0_0, .int .i64 0, .int .i64 0, .int .i64 0, .int .i64 0, .string (⟨#[]⟩ : ByteArray), .slice none 0 0, .int .i64 0, .int .i64 0]) ?_ 1 _ rfl; (with_reducible repeat (first | refine zK ?_ _ | refine zW ?_ | refine zB ?_ _)); refine blk_put (cs := #[.int .i64 0, .int .i64 0, .int .i64 0, .int .i64 0, .int .i64 0, .string (⟨#[]⟩ : ByteArray), .slice none 0 0, .int .i64 0, .int .i64 0]) ?_ 0 _ rfl; (with_reducible repeat (first | refine zK ?_ _ | refine zW ?_ | refine zB ?_ _)); exact BK193.out) hb); have n4_ := zM (zP (by with_reducible repeat (first | exact HB.out | apply zA | apply zN | apply zD | refine zS ?_ GE191.out | refine zS ?_ GE192.out | refine zS ?_ GE193.out)) hb); clear BK191; clear BK192; clear BK193; clear HB; have HO196 := n0_; have BK191 := n1_; have BK192 := n2_; have BK193 := n3_; have HB := n4_; clear n0_ n1_ n2_ n3_ n4_; (try clear hb); (try clear hb2); (try clear hk); (try clear hi); (try clear ho0); obtain ⟨Ao12, co12, eo12⟩ := Kd.R_slice HO196.out; subst eo12; have hcz13_0 : w11.cell? ⟨gb193, 0, none⟩ = some (.int .i64 a0_0) := (zC BK193.out 0).trans rfl; have hcz13_1 : w11.cell? ⟨gb193, 1, none⟩ = some (.int .i64 a0_1) := (zC BK193.out 1).trans rfl; have hcz13_2 : w11.cell? ⟨gb193, 2, none⟩ = some (.int .i64 a0_2) := (zC BK193.out 2).trans rfl; have hcz13_3 : w11.cell? ⟨gb193, 3, none⟩ = some (.int .i64 a0_3) := (zC BK193.out 3).trans rfl; have hcz13_4 : w11.cell? ⟨gb193, 4, none⟩ = some (.int .i64 a0_4) := (zC BK193.out 4).trans rfl; have hcz13_5 : w11.cell? ⟨gb193, 5, none⟩ = some (.string a0_5) := (zC BK193.out 5).trans rfl; have hcz13_6 : w11.cell? ⟨gb193, 6, none⟩ = some (.slice none 0 0) := (zC BK193.out 6).trans rfl; have hcz13_7 : w11.cell? ⟨gb193, 7, none⟩ = some (.int .i64 0) := (zC BK193.out 7).trans rfl; have hcz13_8 : w11.cell? ⟨gb193, 8, none⟩ = some (.int .i64 0) := (zC BK193.out 8).trans rfl; have hfz13_0 := zF BK193.out 0; have hfz13_1 := zF BK193.out 1; have hfz13_2 := zF BK193.out 2; have hfz13_3 := zF BK193.out 3; have hfz13_4 := zF BK193.out 4; have hfz13_5 := zF BK193.out 5; have hfz13_6 := zF BK193.out 6; have hfz13_7 := zF BK193.out 7; have hfz13_8 := zF BK193.out 8; have hcz14_0 : w11.cell? ⟨gb191, 0, none⟩ = some (.int .i64 a0_0) := (zC BK191.out 0).trans rfl; have hcz14_1 : w11.cell? ⟨gb191, 1, none⟩ = some (.int .i64 a0_1) := (zC BK191.out 1).trans rfl; have hcz14_2 : w11.cell? ⟨gb191, 2, none⟩ = some (.int .i64 a0_2) := (zC BK191.out 2).trans rfl; have hcz14_3 : w11.cell? ⟨gb191, 3, none⟩ = some (.int .i64 a0_3) := (zC BK191.out 3).trans rfl; have hcz14_4 : w11.cell? ⟨gb191, 4, none⟩ = some (.int .i64 a0_4) := (zC BK191.out 4).trans rfl; have hcz14_5 : w11.cell? ⟨gb191, 5, none⟩ = some (.string a0_5) := (zC BK191.out 5).trans rfl; have hcz14_6 : w11.cell? ⟨gb191, 6, none⟩ = some (.slice A0_6 l0_6.length c0_6) := (zC BK191.out 6).trans rfl; have hcz14_7 : w11.cell? ⟨gb191, 7, none⟩ = some (.int .i64 a0_7) := (zC BK191.out 7).trans rfl; have hcz14_8 : w11.cell? ⟨gb191, 8, none⟩ = some (.int .i64 a0_8) := (zC BK191.out 8).trans rfl; have hfz14_0 := zF BK191.out 0; have hfz14_1 := zF BK191.out 1; have hfz14_2 := zF BK191.out 2; have hfz14_3 := zF BK191.out 3; have hfz14_4 := zF BK191.out 4; have hfz14_5 := zF BK191.out 5; have hfz14_6 := zF BK191.out 6; have hfz14_7 := zF BK191.out 7; have hfz14_8 := zF BK191.out 8; have hcz15_0 : w11.cell? ⟨gb192, 0, none⟩ = some (.int .i64 0) := (zC BK192.out 0).trans rfl; have hcz15_1 : w11.cell? ⟨gb192, 1, none⟩ = some (.int .i64 0) := (zC BK192.out 1).trans rfl; have hcz15_2 : w11.cell? ⟨gb192, 2, none⟩ = some (.int .i64 0) := (zC BK192.out 2).trans rfl; have hcz15_3 : w11.cell? ⟨gb192, 3, none⟩ = some (.int .i64 0) := (zC BK192.out 3).trans rfl; have hcz15_4 : w11.cell? ⟨gb192, 4, none⟩ = some (.int .i64 0) := (zC BK192.out 4).trans rfl; have hcz15_5 : w11.cell? ⟨gb192, 5, none⟩ = some (.string (⟨#[]⟩ : ByteArray)) := (zC BK192.out 5).trans rfl; have hcz15_6 : w11.cell? ⟨gb192, 6, none⟩ = some (.slice none 0 0) := (zC BK192.out 6).trans rfl; have hcz15_7 : w11.cell? ⟨gb192, 7, none⟩ = some (.int .i64 0) := (zC BK192.out 7).trans rfl; have hcz15_8 : w11.cell? ⟨gb192, 8, none⟩ = some (.int .i64 0) := (zC BK192.out 8).trans rfl; have hfz15_0 := zF BK192.out 0; have hfz15_1 := zF BK192.out 1; have hfz15_2 := zF BK192.out 2; have hfz15_3 := zF BK192.out 3; have hfz15_4 := zF BK192.out 4; have hfz15_5 := zF BK192.out 5; have hfz15_6 := zF BK192.out 6; have hfz15_7 := zF BK192.out 7; have hfz15_8 := zF BK192.out 8))
 refine bodyPost_ret (results_cell_row rfl _ _ gb192 90 #[.int .i64 a0_0, .int .i64 a0_1, .int .i64 a0_2, .int .i64 a0_3, .int .i64 a0_4, .string a0_5, .slice Ao12 t194.length co12, .int .i64 a0_7, .int .i64 a0_8] (0, 0) _ rfl (by (with_reducible repeat (first | refine zK ?_ _ | refine zW ?_ | refine zB ?_ _)); refine blk_put (cs := #[.int .i64 a0_0, .int .i64 a0_1, .int .i64 a0_2, .int .i64 a0_3, .int .i64 a0_4, .string a0_5, .slice Ao12 t194.length co12, .int .i64 a0_7, .int .i64 0]) ?_ 8 _ rfl; (with_reducible repeat (first | refine zK ?_ _ | refine zW ?_ | refine zB ?_ _)); refine blk_put (cs := #[.int .i64 a0_0, .int .i64 a0_1, .int .i64 a0_2, .int .i64 a0_3, .int .i64 a0_4, .string a0_5, .slice Ao12 t194.length co12, .int .i64 0, .int .i64 0]) ?_ 7 _ rfl; (with_reducible repeat (first | refine zK ?_ _ | refine zW ?_ | refine zB ?_ _)); refine blk_put (cs := #[.int .i64 a0_0, .int .i64 a0_1, .int .i64 a0_2, .int .i64 a0_3, .int .i64 a0_4, .string a0_5, .slice none 0 0, .int .i64 0, .int .i64 0]) ?_ 6 _ rfl; (with_reducible repeat (first | refine zK ?_ _ | refine zW ?_ | refine zB ?_ _)); refine blk_put (cs := #[.int .i64 a0_0, .int .i64 a0_1, .int .i64 a0_2, .int .i64 a0_3, .int .i64 a0_4, .string (⟨#[]⟩ : ByteArray), .slice none 0 0, .int .i64 0, .int .i64 0]) ?_ 5 _ rfl; (with_reducible repeat (first | refine zK ?_ _ | refine zW ?_ | refine zB ?_ _)); refine blk_put (cs := #[.int .i64 a0_0, .int .i64 a0_1, .int .i64 a0_2, .int .i64 a0_3, .int .i64 0, .string (⟨#[]⟩ : ByteArray), .slice none 0 0, .int .i64 0, .int .i64 0]) ?_ 4 _ rfl; (with_reducible repeat (first | refine zK ?_ _ | refine zW ?_ | refine zB ?_ _)); refine blk_put (cs := #[.int .i64 a0_0, .int .i64 a0_1, .int .i64 a0_2, .int .i64 0, .int .i64 0, .string (⟨#[]⟩ : ByteArray), .slice none 0 0, .int .i64 0, .int .i64 0]) ?_ 3 _ rfl; (with_reducible repeat (first | refine zK ?_ _ | refine zW ?_ | refine zB ?_ _)); refine blk_put (cs := #[.int .i64 a0_0, .int .i64 a0_1, .int .i64 0, .int .i64 0, .int .i64 0, .string (⟨#[]⟩ : ByteArray), .slice none 0 0, .int .i64 0, .int .i64 0]) ?_ 2 _ rfl; (with_reducible repeat (first | refine zK ?_ _ | refine zW ?_ | refine zB ?_ _)); refine blk_put (cs := #[.int .i64 a0_0, .int .i64 0, .int .i64 0, .int .i64 0, .int .i64 0, .string (⟨#[]⟩ : ByteArray), .slice none 0 0, .int .i64 0, .int .i64 0]) ?_ 1 _ rfl; (with_reducible repeat (first | refine zK ?_ _ | refine zW ?_ | refine zB ?_ _)); refine blk_put (cs := #[.int .i64 0, .int .i64 0, .int .i64 0, .int .i64 0, .int .i64 0, .string (⟨#[]⟩ : ByteArray), .slice none 0 0, .int .i64 0, .int .i64 0]) ?_ 0 _ rfl; (with_reducible repeat (first | refine zK ?_ _ | refine zW ?_ | refine zB ?_ _)); refine blk_far ?_ NB192_193.out _; (with_reducible repeat (first | refine zK ?_ _ | refine zW ?_ | refine zB ?_ _)); refine blk_far ?_ NB192_193.out _; (with_reducible repeat (first | refine zK ?_ _ | refine zW ?_ | refine zB ?_ _)); refine blk_far ?_ NB192_193.out _; (with_reducible repeat (first | refine zK ?_ _ | refine zW ?_ | refine zB ?_ _)); exact BK192.out) Tryd.underlying90 rfl (by kernel_rfl)) rfl ?_
 exact ⟨_, by first | rfl | (simp [errW_none, errW_some] <;> rfl) | (simp [*, errW_none, errW_some] <;> rfl), by (with_reducible repeat (first | apply Kd.R_alloc | apply Kd.R_drewN | apply Kd.R_drew)); exact Kd.R_mono (Kd.R_far (p := ⟨gb192, 8, none⟩) (Kd.R_far (p := ⟨gb192, 7, none⟩) (Kd.R_far (p := ⟨gb192, 6, none⟩) (Kd.R_far (p := ⟨gb192, 5, none⟩) (Kd.R_far (p := ⟨gb192, 4, none⟩) (Kd.R_far (p := ⟨gb192, 3, none⟩) (Kd.R_far (p := ⟨gb192, 2, none⟩) (Kd.R_far (p := ⟨gb192, 1, none⟩) (Kd.R_far (p := ⟨gb192, 0, none⟩) (Kd.R_far (p := ⟨gb193, 8, none⟩) (Kd.R_far (p := ⟨gb193, 7, none⟩) (Kd.R_far (p := ⟨gb193, 6, none⟩) (Kd.R_types (Kd.R_types HO196.out BK193.out (by decide)) BK192.out (by decide)) (fun _ hk => hk.1.2) (.slice Ao12 t194.length co12)) (fun _ hk => hk.1.2) (.int .i64 a0_7)) (fun _ hk => hk.1.2) (.int .i64 a0_8)) (fun _ hk => hk.2) (.int .i64 a0_0)) (fun _ hk => hk.2) (.int .i64 a0_1)) (fun _ hk => hk.2) (.int .i64 a0_2)) (fun _ hk => hk.2) (.int .i64 a0_3)) (fun _ hk => hk.2) (.int .i64 a0_4)) (fun _ hk => hk.2) (.string a0_5)) (fun _ hk => hk.2) (.slice Ao12 t194.length co12)) (fun _ hk => hk.2) (.int .i64 a0_7)) (fun _ hk => hk.2) (.int .i64 a0_8)) (fun _ hk => trivial), by repeat (first | (with_reducible first | exact HB.out | apply zA | apply zN | apply zD | refine zS ?_ GE191.out | refine zS ?_ GE192.out | refine zS ?_ GE193.out) | exact HB.out)⟩

/-! ### laws_toInodeS: function 42 -/
def laws_toInodeS.l0 : Nat → List (S87) → List (S90) → Int → Option ((List (S90)))
 | 0, _, _, _ => none
 | k + 1, x0, x3, x4 => if x4 < (x0.length : Int) then (if 0 ≤ x4 then ((laws_toInode.f k ((rd_T87 x0 x4).f0) ((rd_T87 x0 x4).f1) ((rd_T87 x0 x4).f2) ((rd_T87 x0 x4).f3) ((rd_T87 x0 x4).f4) ((rd_T87 x0 x4).f5) ((rd_T87 x0 x4).f6) ((rd_T87 x0 x4).f7) ((rd_T87 x0 x4).f8)).bind fun bt201 => (if x4 < (x3.length : Int) then (laws_toInodeS.l0 k x0 (x3.set (x4 : Int).toNat (⟨bt201.1, bt201.2.1, bt201.2.2.1, bt201.2.2.2.1, bt201.2.2.2.2.1, bt201.2.2.2.2.2.1, bt201.2.2.2.2.2.2.1, bt201.2.2.2.2.2.2.2.1, bt201.2.2.2.2.2.2.2.2⟩ : S90)) (wrap64 (x4 + 1))) else (none))) else (none)) else (some x3)
def laws_toInodeS.f (k : Nat) (l0 : List (S87)) : Option ((List (S90))) := if 0 ≤ (l0.length : Int) then (if ((l0.length : Int) : Int).toNat ≤ 2932031007402 then (laws_toInodeS.l0 k l0 (List.replicate ((l0.length : Int) : Int).toNat z90) 0) else (none)) else (none)
theorem laws_toInodeS.mono_l : ∀ k, (∀ y0 y1 y2, LeO (laws_toInodeS.l0 k y0 y1 y2) (laws_toInodeS.l0 (k + 1) y0 y1 y2))
 | 0 => fun _ _ _ r h => by simp [laws_toInodeS.l0] at h
 | k + 1 => by
  have ih0 := laws_toInodeS.mono_l k
  ·intro y0 y1 y2
   unfold laws_toInodeS.l0
   repeat' first | (with_reducible exact ih0 _ _ _) | (with_reducible exact laws_toInode.mono _ _ _ _ _ _ _ _ _ _) | (with_reducible exact LeO.refl _) | (with_reducible exact LeO.none _) | (with_reducible refine LeO.ite ?_ ?_) | (with_reducible refine LeO.bind ?_ (fun _ => ?_)) | exact LeO.none _ | refine LeO.ite ?_ ?_ | refine LeO.bind ?_ (fun _ => ?_)
theorem laws_toInodeS.mono : ∀ a0 k, LeO (laws_toInodeS.f k a0) (laws_toInodeS.f (k + 1) a0) := by
 intro a0 k
 have ih0 := laws_toInodeS.mono_l k
 unfold laws_toInodeS.f
 repeat' first | (with_reducible exact ih0 _ _ _) | (with_reducible exact laws_toInode.mono _ _ _ _ _ _ _ _ _ _) | (with_reducible exact LeO.refl _) | (with_reducible exact LeO.none _) | (with_reducible refine LeO.ite ?_ ?_) | (with_reducible refine LeO.bind ?_ (fun _ => ?_)) | exact LeO.none _ | refine LeO.ite ?_ ?_ | refine LeO.bind ?_ (fun _ => ?_)
set_option maxHeartbeats 8000000 in
set_option maxRecDepth 100000 in
theorem laws_toInodeS.calls (k : Nat) (A0 : Option Addr) (c0 : Nat) (l0 : List (S87)) (r : List (S90)) (w : World) (hr0 : Kd.C k87 w A0 l0.length l0) (hc0 : l0.length ≤ c0) (h : laws_toInodeS.f k l0 = some r) :
  Calls Tryd.prog 42 #[.slice A0 l0.length c0] w fun e w' => ∃ v0_ : Value, e = .returned (v0_) ∧ Kd.S k90 90 w' w.heap.size (fun _ => True) v0_ r ∧ Below w.heap.size w w' := by
 have hu87 := Tryd.underlying87
 have hu90 := Tryd.underlying90
 have HR0 := zM hr0
 have HC0 := zM hc0
 clear hr0 hc0
 have HB := zM (Below.refl w.heap.size w)
 have H : (if 0 ≤ (l0.length : Int) then (if ((l0.length : Int) : Int).toNat ≤ 2932031007402 then (laws_toInodeS.l0 k l0 (List.replicate ((l0.length : Int) : Int).toNat z90) 0) else (none)) else (none)) = some r := h
 clear h
 by_cases c2 : 0 ≤ (l0.length : Int)
 rotate_left
 ·rw [if_neg c2] at H
  exact absurd H (by simp)

 rw [if_pos c2] at H
 have c2b0 := eq_true c2
 have c2b1 : decide (0 ≤ (l0.length : Int)) = true := zE c2
 clear c2
 by_cases c3 : ((l0.length : Int) : Int).toNat ≤ 2932031007402
 rotate_left
 ·rw [if_neg c3] at H
  exact absurd H (by simp)
 rw [if_pos c3] at H
 have c3b0 := eq_true c3
 have c3b1 : decide (((l0.length : Int) : Int).toNat ≤ 2932031007402) = true := zE c3
 clear c3
 obtain ⟨y197, hy197⟩ : ∃ y_ : List (S90), y_ = (List.replicate ((l0.length : Int) : Int).toNat z90) := ⟨_, rfl⟩
 replace H : (laws_toInodeS.l0 k l0 y197 0) = some r := by first | (rw [hy197]; with_reducible exact H) | (have H2_ := (Option.bind_some _ _).symm.trans H; rw [hy197]; with_reducible exact H2_) | (have H2_ := (Option.bind_some _ _).symm.trans H; with_reducible exact H2_) | with_reducible exact H | (rw [hy197]; exact H) | exact H
 have Ny197 := zM hy197
 clear hy197
 have H' := zM H
 clear H
 go_enter Tryd.func42, Tryd.ntmps42
 go_wp2_with (first | ((with_reducible refine gate_dst (N := 7) rfl ?_); refine Kd.S_make k90 _ 90 rfl (N := 7) rfl 43 _ _ rfl (l0.length : Int) rfl rfl Tryd.underlying43 (.agg #[(.int .i64 0), (.int .i64 0), (.int .i64 0), (.int .i64 0), (.int .i64 0), (.string ⟨#[]⟩), (.slice none 0 0), (.int .i64 0), (.int .i64 0)]) 96 info90 rfl (by decide) (by omega) z90 (ok := fun _ => True) (okp := fun _ => True) (k90_mkM _ _ _ z90 (Kd.R_nil _ _ _ _ _)) (fun _ hk => hk) trivial (zO (by first | (with_reducible assumption) | assumption)) (Nat.le_trans (Nat.mul_le_mul_right _ (zO (by first | (with_reducible assumption) | assumption) : (l0.length : Int).toNat ≤ 2932031007402)) (by omega)) (Below.refl _ _) (Nat.le_refl _) ?_; intro v198 w4 ho5 hb hg_ hnew_; clear hg_ hnew_; (first | rw [← Ny197.out] at ho5 | (simp only [Int.reduceToNat] at ho5; rw [← Ny197.out] at ho5)); have n0_ := zM (Kd.S_lower ho5 (zZ (by with_reducible repeat (first | exact HB.out | apply zA | apply zN | apply zD)))); have n1_ := zM (zP (by with_reducible repeat (first | exact HB.out | apply zA | apply zN | apply zD)) hb); clear HB; have HO199 := n0_; have HB := n1_; clear n0_ n1_; clear hb ho5))
 go_loopg [4] k (fun kq v4 w' => ∃ (x3_1 : List (S90)) (x4_1 : Int), v4 = .int .i64 x4_1 ∧ Aside0 (laws_toInodeS.l0 kq l0 x3_1 x4_1 = some r) ∧ Aside0 (kq ≤ k) ∧ Aside0 (Kd.S k90 90 w' w.heap.size (fun _ => True) v198 x3_1) ∧ Aside0 (Below w.heap.size w w'))
 case atStart => exact ⟨(y197), (0), (by first | rfl | (simp; done) | (simp [*]; done) | (simp; exact zQ _)), H', ⟨Nat.le_refl _⟩, ⟨by (with_reducible repeat (first | apply Kd.S_alloc | apply Kd.S_drewN | apply Kd.S_drew)); exact HO199.out⟩, ⟨by repeat (first | (with_reducible first | exact HB.out | apply zA | apply zN | apply zD) | exact HB.out)⟩⟩
 case round =>
  clear H'
  try clear c2
  try clear c2b0
  try clear c2b1
  try clear p2
  try clear c3
  try clear c3b0
  try clear c3b1
  try clear c4
  obtain ⟨x3_1, x4_1, rfl, HA, HK1, HO_3, HB⟩ := hrel
  cases gk with
  | zero => exact absurd HA.out (by simp [laws_toInodeS.l0])
  | succ k1 =>
   have H := HA.out
   clear HA
   simp only [laws_toInodeS.l0] at H
   by_cases c6 : x4_1 < (l0.length : Int)
   rotate_left
   ·rw [if_neg c6] at H
    have c6b0 : decide (x4_1 < (l0.length : Int)) = false := zG c6
    clear c6
    obtain rfl := zI H
    go_wp2
    go_ret
    exact ⟨_, by first | rfl | (simp [errW_none, errW_some] <;> rfl) | (simp [*, errW_none, errW_some] <;> rfl), by (with_reducible repeat (first | apply Kd.S_alloc | apply Kd.S_drewN | apply Kd.S_drew)); exact HO_3.out, by repeat (first | (with_reducible first | exact HB.out | apply zA | apply zN | apply zD) | exact HB.out)⟩
   rw [if_pos c6] at H
   have c6b0 : decide (x4_1 < (l0.length : Int)) = true := zE c6
   clear c6
   by_cases c7 : 0 ≤ x4_1
   rotate_left
   ·rw [if_neg c7] at H
    exact absurd H (by simp)
   rw [if_pos c7] at H
   have c7b0 : decide (0 ≤ x4_1) = true := zE c7
   clear c7
   replace H := Option.bind_eq_some_iff.mp H
   obtain ⟨⟨t201, t202, t203, t204, t205, t206, t207, t210, t211⟩, A80, H⟩ := H
   replace H : (if x4_1 < (x3_1.length : Int) then (laws_toInodeS.l0 k1 l0 (x3_1.set (x4_1 : Int).toNat (⟨t201, t202, t203, t204, t205, t206, t207, t210, t211⟩ : S90)) (wrap64 (x4_1 + 1))) else (none)) = some r := H
   have A8 := zM A80
   clear A80
   by_cases c9 : x4_1 < (x3_1.length : Int)
   rotate_left
   ·rw [if_neg c9] at H
    exact absurd H (by simp)
   rw [if_pos c9] at H
   have c9b0 : decide (x4_1 < (x3_1.length : Int)) = true := zE c9
   clear c9
   obtain ⟨y212, hy212⟩ : ∃ y_ : List (S90), y_ = (x3_1.set (x4_1 : Int).toNat (⟨t201, t202, t203, t204, t205, t206, t207, t210, t211⟩ : S90)) := ⟨_, rfl⟩
   replace H : (laws_toInodeS.l0 k1 l0 y212 (wrap64 (x4_1 + 1))) = some r := by first | (rw [hy212]; with_reducible exact H) | (have H2_ := (Option.bind_some _ _).symm.trans H; rw [hy212]; with_reducible exact H2_) | (have H2_ := (Option.bind_some _ _).symm.trans H; with_reducible exact H2_) | with_reducible exact H | (rw [hy212]; exact H) | exact H
   have Ny212 := zM hy212
   clear hy212
   have H' := zM H
   clear H
   have p200 : 0 ≤ (x4_1 : Int) := zO (by first | (with_reducible assumption) | assumption)
   have q200 : x4_1 < (l0.length : Int) := zO (by first | (with_reducible assumption) | assumption)
   obtain ⟨ad200, A200_6, c200_6, e200, hx200_0, hx200_1, hx200_2, hx200_3, hx200_4, hx200_5, hx200_6, hx200_7, hx200_8, hl200_6, hi200_6⟩ := at_T87 HR0.out x4_1 p200 q200
   cases e200
   replace hx200_0 := (HB.out.cell (zT w _ hx200_0)).trans hx200_0
   replace hx200_1 := (HB.out.cell (zT w _ hx200_1)).trans hx200_1
   replace hx200_2 := (HB.out.cell (zT w _ hx200_2)).trans hx200_2
   replace hx200_3 := (HB.out.cell (zT w _ hx200_3)).trans hx200_3
   replace hx200_4 := (HB.out.cell (zT w _ hx200_4)).trans hx200_4
   replace hx200_5 := (HB.out.cell (zT w _ hx200_5)).trans hx200_5
   replace hx200_6 := (HB.out.cell (zT w _ hx200_6)).trans hx200_6
   replace hx200_7 := (HB.out.cell (zT w _ hx200_7)).trans hx200_7
   replace hx200_8 := (HB.out.cell (zT w _ hx200_8)).trans hx200_8
   have HR200_6 := zM hi200_6
   have HC200_6 := zM hl200_6
   clear hi200_6 hl200_6
   replace p200 := eq_true p200
   replace q200 := eq_true q200
   go_wp2_with (first | ((with_reducible refine gate_callee (f := 68) rfl ?_); refine goesL_ (some 20) rfl rfl Tryd.func68 (by kernel_rfl) rfl #[.agg #[.int .i64 ((rd_T87 l0 x4_1).f0), .int .i64 ((rd_T87 l0 x4_1).f1), .int .i64 ((rd_T87 l0 x4_1).f2), .int .i64 ((rd_T87 l0 x4_1).f3), .int .i64 ((rd_T87 l0 x4_1).f4), .string ((rd_T87 l0 x4_1).f5), .slice A200_6 ((rd_T87 l0 x4_1).f6).length c200_6, .int .i64 ((rd_T87 l0 x4_1).f7), .int .i64 ((rd_T87 l0 x4_1).f8)]] rfl (by (try simp only [List.map_toArray, List.map_cons, List.map_nil]); first | done | rfl | (simp only [List.length_drop, List.length_take]; rfl)) ?_; (with_reducible refine (laws_toInode.calls k1 ((rd_T87 l0 x4_1).f0) ((rd_T87 l0 x4_1).f1) ((rd_T87 l0 x4_1).f2) ((rd_T87 l0 x4_1).f3) ((rd_T87 l0 x4_1).f4) ((rd_T87 l0 x4_1).f5) _ _ ((rd_T87 l0 x4_1).f6) ((rd_T87 l0 x4_1).f7) ((rd_T87 l0 x4_1).f8) t201 t202 t203 t204 t205 t206 t207 t210 t211 _ ?side1 ?side2 A8.out).mono ?_); (case side1 => repeat (first | exact (Kd.C_below HR200_6.out HB.out) | (with_reducible refine Kd.C_alloc ?_ _) | (with_reducible refine Kd.C_drewN ?_ _) | (with_reducible refine Kd.C_drew ?_))); (case side2 => exact HC200_6.out); rintro e w11 ⟨v_, rfl, ho0, hb⟩; obtain ⟨As_, cs_, ev_⟩ := Kd.R_slice ho0; subst ev_; refine ⟨_, rfl, ?_⟩; have n0_ := zM (Kd.S_elder' (by (with_reducible repeat (first | apply Kd.S_alloc | apply Kd.S_drewN | apply Kd.S_drew)); exact HO_3.out) (Kd.R_base ho0) hb); have n1_ := zM (Kd.R_lower ho0 (zZ (by with_reducible repeat (first | exact HB.out | apply zA | apply zN | apply zD)))); have n2_ := zM (zP (by with_reducible repeat (first | exact HB.out | apply zA | apply zN | apply zD)) hb); clear HO_3; clear HB; have HO_3 := n0_; have HO209 := n1_; have HB := n2_; clear n0_ n1_ n2_; (try clear hb); (try clear hb2); (try clear hk); (try clear hi); (try clear ho0); have p10 : 0 ≤ (x4_1 : Int) := zO (by first | (with_reducible assumption) | assumption); have q10 : (x4_1 : Int) < ((x3_1.length : Int) : Int) := zO (by first | (with_reducible assumption) | assumption); obtain ⟨go10, co10, eo10, gb10, gl10, cl10, HG10⟩ := Kd.S_form HO_3.out (by omega); (first | cases eo10 | (injection eo10 with ea_ en_ ec_; (first | subst ea_ | (injection ea_ with ea_; subst ea_)); subst ec_; clear en_)); have GB10 := zM gb10; have GG10 := zM HG10; clear gb10 gl10 HG10; obtain ⟨_, ce10, hcl10, hM10, hcc10, hfr10, _, _⟩ := Kd.S_elem HO_3.out z90 (x4_1 : Int) p10 q10; obtain ⟨ve10_6, rfl, ge10_6⟩ := k90_openM hM10; have hx10_0 : w11.cell? ⟨go10, (x4_1 : Int).toNat * 9, none⟩ = some (.int .i64 ((rd_T90 x3_1 x4_1).f0)) := hcc10 0 _ rfl; have hx10_1 : w11.cell? ⟨go10, (x4_1 : Int).toNat * 9 + 1, none⟩ = some (.int .i64 ((rd_T90 x3_1 x4_1).f1)) := hcc10 1 _ rfl; have hx10_2 : w11.cell? ⟨go10, (x4_1 : Int).toNat * 9 + 2, none⟩ = some (.int .i64 ((rd_T90 x3_1 x4_1).f2)) := hcc10 2 _ rfl; have hx10_3 : w11.cell? ⟨go10, (x4_1 : Int).toNat * 9 + 3, none⟩ = some (.int .i64 ((rd_T90 x3_1 x4_1).f3)) := hcc10 3 _ rfl; have hx10_4 : w11.cell? ⟨go10, (x4_1 : Int).toNat * 9 + 4, none⟩ = some (.int .i64 ((rd_T90 x3_1 x4_1).f4)) := hcc10 4 _ rfl; have hx10_5 : w11.cell? ⟨go10, (x4_1 : Int).toNat * 9 + 5, none⟩ = some (.string ((rd_T90 x3_1 x4_1).f5)) := hcc10 5 _ rfl; have hx10_6 : w11.cell? ⟨go10, (x4_1 : Int).toNat * 9 + 6, none⟩ = some (ve10_6) := hcc10 6 _ rfl; have hx10_7 : w11.cell? ⟨go10, (x4_1 : Int).toNat * 9 + 7, none⟩ = some (.int .i64 ((rd_T90 x3_1 x4_1).f7)) := hcc10 7 _ rfl; have hx10_8 : w11.cell? ⟨go10, (x4_1 : Int).toNat * 9 + 8, none⟩ = some (.int .i64 ((rd_T90 x3_1 x4_1).f8)) := hcc10 8 _ rfl; have hf10_0 : w11.frozen? ⟨go10, (x4_1 : Int).toNat * 9, none⟩ = false := hfr10 0; have hf10_1 : w11.frozen? ⟨go10, (x4_1 : Int).toNat * 9 + 1, none⟩ = false := hfr10 1; have hf10_2 : w11.frozen? ⟨go10, (x4_1 : Int).toNat * 9 + 2, none⟩ = false := hfr10 2; have hf10_3 : w11.frozen? ⟨go10, (x4_1 : Int).toNat * 9 + 3, none⟩ = false := hfr10 3; have hf10_4 : w11.frozen? ⟨go10, (x4_1 : Int).toNat * 9 + 4, none⟩ = false := hfr10 4; have hf10_5 : w11.frozen? ⟨go10, (x4_1 : Int).toNat * 9 + 5, none⟩ = false := hfr10 5; have hf10_6 : w11.frozen? ⟨go10, (x4_1 : Int).toNat * 9 + 6, none⟩ = false := hfr10 6; have hf10_7 : w11.frozen? ⟨go10, (x4_1 : Int).toNat * 9 + 7, none⟩ = false := hfr10 7; have hf10_8 : w11.frozen? ⟨go10, (x4_1 : Int).toNat * 9 + 8, none⟩ = false := hfr10 8; clear hcl10 hcc10 hfr10 hM10; replace p10 := eq_true p10; replace q10 := eq_true q10; have n_ := zM (Kd.S_mono (ok' := (fun k_ => some k_ ≠ (.slice As_ t207.length cs_ : Value).ownBlock)) HO_3.out (fun k_ hk => hk.2)); clear HO_3; have HO_3 := n_; clear n_; have HX12 := zM (show Kd.S k90 90 w11 w.heap.size (fun k_ => ((fun _ => True)) k_ ∧ ¬ ((fun k_ => some k_ = (.slice As_ t207.length cs_ : Value).ownBlock)) k_) (.slice (some ⟨go10, 0, none⟩) x3_1.length co10) x3_1 from (by (with_reducible repeat (first | apply Kd.S_alloc | apply Kd.S_drewN | apply Kd.S_drew)); exact Kd.S_mono HO_3.out (fun k_ hk => ⟨trivial, fun e_ => hk e_⟩))); obtain ⟨oki12, ce12, hcl12, hM12, hcc12, hfr12, hoki12, hH12⟩ := Kd.S_elem HX12.out z90 (x4_1 : Int) (zO (by first | (with_reducible assumption) | assumption)) (by have h_ : (x4_1 : Int) < ((x3_1.length : Int) : Int) := zO (by first | (with_reducible assumption) | assumption); first | exact h_ | (have e_ := (Kd.S_reads' HO_3.out).1; omega) | simpa using h_); obtain ⟨ve12_6, rfl, ge12_6⟩ := k90_openM hM12; have HP12 := Kd.S_seg hH12 (zO (by first | (with_reducible assumption) | assumption)) (by have h_ : (x4_1 : Int) < ((x3_1.length : Int) : Int) := zO (by first | (with_reducible assumption) | assumption); first | exact h_ | (have e_ := (Kd.S_reads' HO_3.out).1; omega) | simpa using h_) (seg := [.int .i64 t201, .int .i64 t202, .int .i64 t203, .int .i64 t204, .int .i64 t205, .string t206, (.slice As_ t207.length cs_), .int .i64 t210, .int .i64 t211]) (j := 0) (show 9 ≤ 9 from by decide) (x' := (⟨t201, t202, t203, t204, t205, t206, t207, t210, t211⟩ : S90)) (k90_mkM _ _ _ (⟨t201, t202, t203, t204, t205, t206, t207, t210, t211⟩ : S90) (Kd.R_mono (Kd.R_tight rfl (Kd.R_mono (ok' := fun k_ => ((fun _ => True)) k_ ∧ k_ ≠ go10) (Kd.R_apart' (HO209.out) (Kd.S_typed HO_3.out) (by decide)) (fun k_ hk => ⟨trivial, fun e_ => (hk.2) (by rw [e_]; rfl)⟩))) (fun _ h_ => Or.inr (h_)))) (fun _ hk => hk) (fun k_ hk_ => ((Kd.R_mono (ok' := fun k_ => ((fun _ => True)) k_ ∧ k_ ≠ go10) (Kd.R_apart' (HO209.out) (Kd.S_typed HO_3.out) (by decide)) (fun k_ hk => ⟨trivial, fun e_ => (hk.2) (by rw [e_]; rfl)⟩))).1 k_ hk_.symm); have hx12_0 := hcc12 0 _ rfl; (try simp only [show (k90).sz = 9 from rfl, Nat.mul_one, Nat.add_zero] at hx12_0); have hf12_0 := hfr12 0; (try simp only [show (k90).sz = 9 from rfl, Nat.mul_one, Nat.add_zero] at hf12_0); have hx12_1 := hcc12 1 _ rfl; (try simp only [show (k90).sz = 9 from rfl, Nat.mul_one, Nat.add_zero] at hx12_1); have hf12_1 := hfr12 1; (try simp only [show (k90).sz = 9 from rfl, Nat.mul_one, Nat.add_zero] at hf12_1); have hx12_2 := hcc12 2 _ rfl; (try simp only [show (k90).sz = 9 from rfl, Nat.mul_one, Nat.add_zero] at hx12_2); have hf12_2 := hfr12 2; (try simp only [show (k90).sz = 9 from rfl, Nat.mul_one, Nat.add_zero] at hf12_2); have hx12_3 := hcc12 3 _ rfl; (try simp only [show (k90).sz = 9 from rfl, Nat.mul_one, Nat.add_zero] at hx12_3); have hf12_3 := hfr12 3; (try simp only [show (k90).sz = 9 from rfl, Nat.mul_one, Nat.add_zero] at hf12_3); have hx12_4 := hcc12 4 _ rfl; (try simp only [show (k90).sz = 9 from rfl, Nat.mul_one, Nat.add_zero] at hx12_4); have hf12_4 := hfr12 4; (try simp only [show (k90).sz = 9 from rfl, Nat.mul_one, Nat.add_zero] at hf12_4); have hx12_5 := hcc12 5 _ rfl; (try simp only [show (k90).sz = 9 from rfl, Nat.mul_one, Nat.add_zero] at hx12_5); have hf12_5 := hfr12 5; (try simp only [show (k90).sz = 9 from rfl, Nat.mul_one, Nat.add_zero] at hf12_5); have hx12_6 := hcc12 6 _ rfl; (try simp only [show (k90).sz = 9 from rfl, Nat.mul_one, Nat.add_zero] at hx12_6); have hf12_6 := hfr12 6; (try simp only [show (k90).sz = 9 from rfl, Nat.mul_one, Nat.add_zero] at hf12_6); have hx12_7 := hcc12 7 _ rfl; (try simp only [show (k90).sz = 9 from rfl, Nat.mul_one, Nat.add_zero] at hx12_7); have hf12_7 := hfr12 7; (try simp only [show (k90).sz = 9 from rfl, Nat.mul_one, Nat.add_zero] at hf12_7); have hx12_8 := hcc12 8 _ rfl; (try simp only [show (k90).sz = 9 from rfl, Nat.mul_one, Nat.add_zero] at hx12_8); have hf12_8 := hfr12 8; (try simp only [show (k90).sz = 9 from rfl, Nat.mul_one, Nat.add_zero] at hf12_8); clear hcl12 hcc12 hfr12 hM12 hoki12 hH12) | ((with_reducible refine gate_store (t := 90) (p := 21) rfl ?_); refine store_event (t := 90) (p := 21) (v := ?vo_w13) (w1 := (((((((((w11.setCell ⟨go10, (x4_1 : Int).toNat * 9, none⟩ (.int .i64 t201)).setCell ⟨go10, (x4_1 : Int).toNat * 9 + 1, none⟩ (.int .i64 t202)).setCell ⟨go10, (x4_1 : Int).toNat * 9 + 2, none⟩ (.int .i64 t203)).setCell ⟨go10, (x4_1 : Int).toNat * 9 + 3, none⟩ (.int .i64 t204)).setCell ⟨go10, (x4_1 : Int).toNat * 9 + 4, none⟩ (.int .i64 t205)).setCell ⟨go10, (x4_1 : Int).toNat * 9 + 5, none⟩ (.string t206)).setCell ⟨go10, (x4_1 : Int).toNat * 9 + 6, none⟩ ((.slice As_ t207.length cs_))).setCell ⟨go10, (x4_1 : Int).toNat * 9 + 7, none⟩ (.int .i64 t210)).setCell ⟨go10, (x4_1 : Int).toNat * 9 + 8, none⟩ (.int .i64 t211))) ?hg ?ho ?hn ?hr ?_; (case ho => rfl); (case hg => rfl); (case hn => rfl); (case hr => first | (go_simp; done) | (go_simp; rfl)); intro w13 hw; have hg : w11.grownBy w13 (some go10) := (by rw [hw]; exact HP12.2); have hp_ : Kd.S k90 90 w13 w.heap.size (fun _ => True) (.slice (some ⟨go10, 0, none⟩) x3_1.length co10) y212 := (by rw [hw, Ny212.out]; exact HP12.1); clear HP12; have n0_ := zM (hp_); have n1_ := zM ((by rw [hw]; exact zS (zS (zS (zS (zS (zS (zS (zS (zS (HB.out) GB10.out) GB10.out) GB10.out) GB10.out) GB10.out) GB10.out) GB10.out) GB10.out) GB10.out : Below w.heap.size w w13)); clear HO_3; clear HB; clear HO209; have HO_3 := n0_; have HB := n1_; clear n0_ n1_; clear hg hw hp_))
   go_roundg k1
   case measure => have := HK1.out; omega
   case rel => exact ⟨(y212), (wrap64 (x4_1 + 1)), (by first | rfl | (simp; done) | (simp [*]; done) | (simp; exact zQ _)), H', ⟨by have := HK1.out; omega⟩, ⟨by (with_reducible repeat (first | apply Kd.S_alloc | apply Kd.S_drewN | apply Kd.S_drew)); exact HO_3.out⟩, ⟨by repeat (first | (with_reducible first | exact HB.out | apply zA | apply zN | apply zD) | exact HB.out)⟩⟩
/-! ### laws_toVol: function 19 -/
def laws_toVol.f (k : Nat) (a0_0 : Int) (l0_1 : List (S87)) : Option (Int × (List (S90))) := (laws_toInodeS.f k l0_1).bind fun t216 => (some (a0_0, t216))
theorem laws_toVol.mono : ∀ a0 a1 k, LeO (laws_toVol.f k a0 a1) (laws_toVol.f (k + 1) a0 a1) := by
 intro a0 a1 k
 unfold laws_toVol.f
 repeat' first | (with_reducible exact laws_toInodeS.mono _ _) | (with_reducible exact LeO.refl _) | (with_reducible exact LeO.none _) | (with_reducible refine LeO.ite ?_ ?_) | (with_reducible refine LeO.bind ?_ (fun _ => ?_)) | exact LeO.none _ | refine LeO.ite ?_ ?_ | refine LeO.bind ?_ (fun _ => ?_)
set_option maxHeartbeats 8000000 in
set_option maxRecDepth 100000 in
theorem laws_toVol.calls (k : Nat) (a0_0 : Int) (A0_1 : Option Addr) (c0_1 : Nat) (l0_1 : List (S87)) (r1 : Int) (r2 : List (S90)) (w : World) (hr0_1 : Kd.C k87 w A0_1 l0_1.length l0_1) (hc0_1 : l0_1.length ≤ c0_1) (h : laws_toVol.f k a0_0 l0_1 = some (r1, r2)) :
  Calls Tryd.prog 19 #[.agg #[.int .i64 a0_0, .slice A0_1 l0_1.length c0_1]] w fun e w' => ∃ v1_ : Value, e = .returned (.agg #[.int .i64 r1, v1_]) ∧ Kd.S k90 90 w' w.heap.size (fun _ => True) v1_ r2 ∧ Below w.heap.size w w' := by
 have hu34 := Tryd.underlying34
 have hu45 := Tryd.underlying45
 have HR0_1 := zM hr0_1
 have HC0_1 := zM hc0_1
 clear hr0_1 hc0_1
 have HB := zM (Below.refl w.heap.size w)
 have H : ((laws_toInodeS.f k l0_1).bind fun t216 => (some (a0_0, t216))) = some (r1, r2) := h
 clear h
 replace H := Option.bind_eq_some_iff.mp H
 obtain ⟨t216, A20, H⟩ := H
 replace H : (some (a0_0, t216)) = some (r1, r2) := H
 have A2 := zM A20
 clear A20
 simp only [Option.some.injEq, Prod.mk.injEq] at H
 obtain ⟨rfl, rfl⟩ := H
 go_enter Tryd.func19, Tryd.ntmps19
 go_wp2_with (first | ((with_reducible refine gate_dst (N := 1) rfl ?_); refine box_event ?hg (N := 1) ?hd (cs := #[.int .i64 a0_0, .slice A0_1 l0_1.length c0_1]) (t := 34) ?hr ?_; (case hd => rfl); (case hg => rfl); (case hr => first | (go_simp; done) | (go_simp; rfl)); intro gb213 hg w3 hbox hb; have n0_ := zM (zP (by with_reducible repeat (first | exact HB.out | apply zA | apply zN | apply zD)) hb); have n1_ := zM (hbox); have n2_ := zM ((by rw [hg]; exact (zZ (by with_reducible repeat (first | exact HB.out | apply zA | apply zN | apply zD))) : w.heap.size ≤ gb213)); have n3_ := zM ((by rw [hg]; exact (zZ (by with_reducible repeat (first | exact HB.out | apply zA | apply zN | apply zD))) : w.heap.size ≤ gb213)); clear HB; have HB := n0_; have BK213 := n1_; have GW213 := n2_; have GE213 := n3_; clear n0_ n1_ n2_ n3_; clear hb hbox hg) | ((with_reducible refine gate_dst (N := 2) rfl ?_); refine box_event ?hg (N := 2) ?hd (cs := #[.int .i64 0, .slice none 0 0]) (t := 45) ?hr ?_; (case hd => rfl); (case hg => rfl); (case hr => first | (go_simp; done) | (go_simp; rfl)); intro gb214 hg w4 hbox hb; have n0_ := zM (zL (g := gb213) (o := .cells #[.int .i64 a0_0, .slice A0_1 l0_1.length c0_1] 34 (0, 0)) (by (with_reducible repeat (first | refine zK ?_ _ | refine zW ?_ | refine zB ?_ _)); exact BK213.out) hb); have n1_ := zM (zP (by with_reducible repeat (first | exact HB.out | apply zA | apply zN | apply zD | refine zS ?_ GE213.out)) hb); have n2_ := zM (hbox); have n3_ := zM ((by rw [hg]; exact (zZ (by with_reducible repeat (first | exact HB.out | apply zA | apply zN | apply zD | refine zS ?_ GE213.out))) : w.heap.size ≤ gb214)); have n4_ := zM ((by rw [hg]; exact (zZ (by with_reducible repeat (first | exact HB.out | apply zA | apply zN | apply zD | refine zS ?_ GE213.out))) : w.heap.size ≤ gb214)); have n5_ := zM ((by rw [hg]; exact Nat.ne_of_lt (blk_lt (g := gb213) (o := .cells #[.int .i64 a0_0, .slice A0_1 l0_1.length c0_1] 34 (0, 0)) (by (with_reducible repeat (first | refine zK ?_ _ | refine zW ?_ | refine zB ?_ _)); exact BK213.out)) : gb213 ≠ gb214)); have n6_ := zM ((by rw [hg]; exact Nat.ne_of_gt (blk_lt (g := gb213) (o := .cells #[.int .i64 a0_0, .slice A0_1 l0_1.length c0_1] 34 (0, 0)) (by (with_reducible repeat (first | refine zK ?_ _ | refine zW ?_ | refine zB ?_ _)); exact BK213.out)) : gb214 ≠ gb213)); clear BK213; clear HB; have BK213 := n0_; have HB := n1_; have BK214 := n2_; have GW214 := n3_; have GE214 := n4_; have NB213_214 := n5_; have NB214_213 := n6_; clear n0_ n1_ n2_ n3_ n4_ n5_ n6_; clear hb hbox hg) | ((with_reducible refine gate_dst (N := 3) rfl ?_); refine box_event ?hg (N := 3) ?hd (cs := #[.int .i64 0, .slice none 0 0]) (t := 45) ?hr ?_; (case hd => rfl); (case hg => rfl); (case hr => first | (go_simp; done) | (go_simp; rfl)); intro gb215 hg w5 hbox hb; have n0_ := zM (zL (g := gb213) (o := .cells #[.int .i64 a0_0, .slice A0_1 l0_1.length c0_1] 34 (0, 0)) (by (with_reducible repeat (first | refine zK ?_ _ | refine zW ?_ | refine zB ?_ _)); exact BK213.out) hb); have n1_ := zM (zL (g := gb214) (o := .cells #[.int .i64 0, .slice none 0 0] 45 (0, 0)) (by (with_reducible repeat (first | refine zK ?_ _ | refine zW ?_ | refine zB ?_ _)); exact BK214.out) hb); have n2_ := zM (zP (by with_reducible repeat (first | exact HB.out | apply zA | apply zN | apply zD | refine zS ?_ GE213.out | refine zS ?_ GE214.out)) hb); have n3_ := zM (hbox); have n4_ := zM ((by rw [hg]; exact (zZ (by with_reducible repeat (first | exact HB.out | apply zA | apply zN | apply zD | refine zS ?_ GE213.out | refine zS ?_ GE214.out))) : w.heap.size ≤ gb215)); have n5_ := zM ((by rw [hg]; exact (zZ (by with_reducible repeat (first | exact HB.out | apply zA | apply zN | apply zD | refine zS ?_ GE213.out | refine zS ?_ GE214.out))) : w.heap.size ≤ gb215)); have n6_ := zM ((by rw [hg]; exact Nat.ne_of_lt (blk_lt (g := gb213) (o := .cells #[.int .i64 a0_0, .slice A0_1 l0_1.length c0_1] 34 (0, 0)) (by (with_reducible repeat (first | refine zK ?_ _ | refine zW ?_ | refine zB ?_ _)); exact BK213.out)) : gb213 ≠ gb215)); have n7_ := zM ((by rw [hg]; exact Nat.ne_of_gt (blk_lt (g := gb213) (o := .cells #[.int .i64 a0_0, .slice A0_1 l0_1.length c0_1] 34 (0, 0)) (by (with_reducible repeat (first | refine zK ?_ _ | refine zW ?_ | refine zB ?_ _)); exact BK213.out)) : gb215 ≠ gb213)); have n8_ := zM ((by rw [hg]; exact Nat.ne_of_lt (blk_lt (g := gb214) (o := .cells #[.int .i64 0, .slice none 0 0] 45 (0, 0)) (by (with_reducible repeat (first | refine zK ?_ _ | refine zW ?_ | refine zB ?_ _)); exact BK214.out)) : gb214 ≠ gb215)); have n9_ := zM ((by rw [hg]; exact Nat.ne_of_gt (blk_lt (g := gb214) (o := .cells #[.int .i64 0, .slice none 0 0] 45 (0, 0)) (by (with_reducible repeat (first | refine zK ?_ _ | refine zW ?_ | refine zB ?_ _)); exact BK214.out)) : gb215 ≠ gb214)); clear BK213; clear BK214; clear HB; have BK213 := n0_; have BK214 := n1_; have HB := n2_; have BK215 := n3_; have GW215 := n4_; have GE215 := n5_; have NB213_215 := n6_; have NB215_213 := n7_; have NB214_215 := n8_; have NB215_214 := n9_; clear n0_ n1_ n2_ n3_ n4_ n5_ n6_ n7_ n8_ n9_; clear hb hbox hg; have hnb6 := NB213_214.out; have hnc6 := NB214_213.out; have hnb7 := NB213_215.out; have hnc7 := NB215_213.out; have hcz8_0 : w5.cell? ⟨gb213, 0, none⟩ = some (.int .i64 a0_0) := (zC BK213.out 0).trans rfl; have hcz8_1 : w5.cell? ⟨gb213, 1, none⟩ = some (.slice A0_1 l0_1.length c0_1) := (zC BK213.out 1).trans rfl; have hfz8_0 := zF BK213.out 0; have hfz8_1 := zF BK213.out 1; have hnb9 := NB215_214.out; have hnc9 := NB214_215.out; have hcz10_0 : w5.cell? ⟨gb215, 0, none⟩ = some (.int .i64 0) := (zC BK215.out 0).trans rfl; have hcz10_1 : w5.cell? ⟨gb215, 1, none⟩ = some (.slice none 0 0) := (zC BK215.out 1).trans rfl; have hfz10_0 := zF BK215.out 0; have hfz10_1 := zF BK215.out 1) | ((with_reducible refine gate_callee (f := 42) rfl ?_); refine goesL_ (some 9) rfl rfl Tryd.func42 (by kernel_rfl) rfl #[.slice A0_1 l0_1.length c0_1] rfl (by (try simp only [List.map_toArray, List.map_cons, List.map_nil]); first | done | rfl | (simp only [List.length_drop, List.length_take]; rfl)) ?_; (with_reducible refine (laws_toInodeS.calls k _ _ l0_1 t216 _ ?side1 ?side2 A2.out).mono ?_); (case side1 => exact Kd.C_below HR0_1.out (by with_reducible repeat (first | exact HB.out | apply zA | apply zN | apply zD | refine zS ?_ GE213.out | refine zS ?_ GE214.out | refine zS ?_ GE215.out))); (case side2 => exact HC0_1.out); rintro e w11 ⟨v217, rfl, ho0, hb⟩; refine ⟨_, rfl, ?_⟩; have n0_ := zM (Kd.S_lower ho0 (zZ (by with_reducible repeat (first | exact HB.out | apply zA | apply zN | apply zD | refine zS ?_ GE213.out | refine zS ?_ GE214.out | refine zS ?_ GE215.out)))); have n1_ := zM (zL (g := gb213) (o := .cells #[.int .i64 a0_0, .slice A0_1 l0_1.length c0_1] 34 (0, 0)) (by (with_reducible repeat (first | refine zK ?_ _ | refine zW ?_ | refine zB ?_ _)); refine blk_far ?_ NB213_215.out _; (with_reducible repeat (first | refine zK ?_ _ | refine zW ?_ | refine zB ?_ _)); exact BK213.out) hb); have n2_ := zM (zL (g := gb214) (o := .cells #[.int .i64 0, .slice none 0 0] 45 (0, 0)) (by (with_reducible repeat (first | refine zK ?_ _ | refine zW ?_ | refine zB ?_ _)); refine blk_far ?_ NB214_215.out _; (with_reducible repeat (first | refine zK ?_ _ | refine zW ?_ | refine zB ?_ _)); exact BK214.out) hb); have n3_ := zM (zL (g := gb215) (o := .cells #[.int .i64 a0_0, .slice none 0 0] 45 (0, 0)) (by (with_reducible repeat (first | refine zK ?_ _ | refine zW ?_ | refine zB ?_ _)); refine blk_put (cs := #[.int .i64 0, .slice none 0 0]) ?_ 0 _ rfl; (with_reducible repeat (first | refine zK ?_ _ | refine zW ?_ | refine zB ?_ _)); exact BK215.out) hb); have n4_ := zM (zP (by with_reducible repeat (first | exact HB.out | apply zA | apply zN | apply zD | refine zS ?_ GE213.out | refine zS ?_ GE214.out | refine zS ?_ GE215.out)) hb); clear BK213; clear BK214; clear BK215; clear HB; have HO218 := n0_; have BK213 := n1_; have BK214 := n2_; have BK215 := n3_; have HB := n4_; clear n0_ n1_ n2_ n3_ n4_; (try clear hb); (try clear hb2); (try clear hk); (try clear hi); (try clear ho0); obtain ⟨Ao12, co12, eo12⟩ := Kd.S_slice HO218.out; subst eo12; have hcz13_0 : w11.cell? ⟨gb215, 0, none⟩ = some (.int .i64 a0_0) := (zC BK215.out 0).trans rfl; have hcz13_1 : w11.cell? ⟨gb215, 1, none⟩ = some (.slice none 0 0) := (zC BK215.out 1).trans rfl; have hfz13_0 := zF BK215.out 0; have hfz13_1 := zF BK215.out 1; have hcz14_0 : w11.cell? ⟨gb214, 0, none⟩ = some (.int .i64 0) := (zC BK214.out 0).trans rfl; have hcz14_1 : w11.cell? ⟨gb214, 1, none⟩ = some (.slice none 0 0) := (zC BK214.out 1).trans rfl; have hfz14_0 := zF BK214.out 0; have hfz14_1 := zF BK214.out 1))
 refine bodyPost_ret (results_cell_row rfl _ _ gb214 45 #[.int .i64 a0_0, .slice Ao12 t216.length co12] (0, 0) _ rfl (by (with_reducible repeat (first | refine zK ?_ _ | refine zW ?_ | refine zB ?_ _)); refine blk_put (cs := #[.int .i64 a0_0, .slice none 0 0]) ?_ 1 _ rfl; (with_reducible repeat (first | refine zK ?_ _ | refine zW ?_ | refine zB ?_ _)); refine blk_put (cs := #[.int .i64 0, .slice none 0 0]) ?_ 0 _ rfl; (with_reducible repeat (first | refine zK ?_ _ | refine zW ?_ | refine zB ?_ _)); refine blk_far ?_ NB214_215.out _; (with_reducible repeat (first | refine zK ?_ _ | refine zW ?_ | refine zB ?_ _)); exact BK214.out) Tryd.underlying45 rfl (by kernel_rfl)) rfl ?_
 exact ⟨_, by first | rfl | (simp [errW_none, errW_some] <;> rfl) | (simp [*, errW_none, errW_some] <;> rfl), by (with_reducible repeat (first | apply Kd.S_alloc | apply Kd.S_drewN | apply Kd.S_drew)); exact Kd.S_mono (Kd.S_far (p := ⟨gb214, 1, none⟩) (Kd.S_far (p := ⟨gb214, 0, none⟩) (Kd.S_far (p := ⟨gb215, 1, none⟩) (Kd.S_types (Kd.S_types HO218.out BK215.out (by decide)) BK214.out (by decide)) (fun _ hk => hk.1.2) (.slice Ao12 t216.length co12)) (fun _ hk => hk.2) (.int .i64 a0_0)) (fun _ hk => hk.2) (.slice Ao12 t216.length co12)) (fun _ hk => trivial), by repeat (first | (with_reducible first | exact HB.out | apply zA | apply zN | apply zD | refine zS ?_ GE213.out | refine zS ?_ GE214.out | refine zS ?_ GE215.out) | exact HB.out)⟩

/-! ### laws_toIntS: function 43 -/
def laws_toIntS.l0 : Nat → List Int → List Int → Int → Option (List Int)
 | 0, _, _, _ => none
 | k + 1, x0, x3, x4 => if x4 < (x0.length : Int) then (if 0 ≤ x4 then (if x4 < (x3.length : Int) then (laws_toIntS.l0 k x0 (x3.set (x4 : Int).toNat (rd x0 x4)) (wrap64 (x4 + 1))) else (none)) else (none)) else (some x3)
def laws_toIntS.f (k : Nat) (l0 : List Int) : Option (List Int) := if 0 ≤ (l0.length : Int) then (if ((l0.length : Int) : Int).toNat ≤ 35184372088832 then (laws_toIntS.l0 k l0 (List.replicate ((l0.length : Int) : Int).toNat 0) 0) else (none)) else (none)
theorem laws_toIntS.mono_l : ∀ k, (∀ y0 y1 y2, LeO (laws_toIntS.l0 k y0 y1 y2) (laws_toIntS.l0 (k + 1) y0 y1 y2))
 | 0 => fun _ _ _ r h => by simp [laws_toIntS.l0] at h
 | k + 1 => by
  have ih0 := laws_toIntS.mono_l k
  ·intro y0 y1 y2
   unfold laws_toIntS.l0
   repeat' first | (with_reducible exact ih0 _ _ _) | (with_reducible exact LeO.refl _) | (with_reducible exact LeO.none _) | (with_reducible refine LeO.ite ?_ ?_) | (with_reducible refine LeO.bind ?_ (fun _ => ?_)) | exact LeO.none _ | refine LeO.ite ?_ ?_ | refine LeO.bind ?_ (fun _ => ?_)
theorem laws_toIntS.mono : ∀ a0 k, LeO (laws_toIntS.f k a0) (laws_toIntS.f (k + 1) a0) := by
 intro a0 k
 have ih0 := laws_toIntS.mono_l k
 unfold laws_toIntS.f
 repeat' first | (with_reducible exact ih0 _ _ _) | (with_reducible exact LeO.refl _) | (with_reducible exact LeO.none _) | (with_reducible refine LeO.ite ?_ ?_) | (with_reducible refine LeO.bind ?_ (fun _ => ?_)) | exact LeO.none _ | refine LeO.ite ?_ ?_ | refine LeO.bind ?_ (fun _ => ?_)
set_option maxHeartbeats 8000000 in
set_option maxRecDepth 100000 in
theorem laws_toIntS.calls (k : Nat) (A0 : Option Addr) (c0 : Nat) (l0 : List Int) (r : List Int) (w : World) (hr0 : Kd.C (Kd.int .i64) w A0 l0.length l0) (hc0 : l0.length ≤ c0) (h : laws_toIntS.f k l0 = some r) :
  Calls Tryd.prog 43 #[.slice A0 l0.length c0] w fun e w' => ∃ v0_ : Value, e = .returned (v0_) ∧ Kd.R (Kd.int .i64) 3 w' w.heap.size (fun _ => True) v0_ r ∧ Below w.heap.size w w' := by
 have HR0 := zM hr0
 have HC0 := zM hc0
 clear hr0 hc0
 have HB := zM (Below.refl w.heap.size w)
 have H : (if 0 ≤ (l0.length : Int) then (if ((l0.length : Int) : Int).toNat ≤ 35184372088832 then (laws_toIntS.l0 k l0 (List.replicate ((l0.length : Int) : Int).toNat 0) 0) else (none)) else (none)) = some r := h
 clear h
 by_cases c2 : 0 ≤ (l0.length : Int)
 rotate_left
 ·rw [if_neg c2] at H
  exact absurd H (by simp)

 rw [if_pos c2] at H
 have c2b0 := eq_true c2
 have c2b1 : decide (0 ≤ (l0.length : Int)) = true := zE c2
 clear c2
 by_cases c3 : ((l0.length : Int) : Int).toNat ≤ 35184372088832
 rotate_left
 ·rw [if_neg c3] at H
  exact absurd H (by simp)
 rw [if_pos c3] at H
 have c3b0 := eq_true c3
 have c3b1 : decide (((l0.length : Int) : Int).toNat ≤ 35184372088832) = true := zE c3
 clear c3
 obtain ⟨y219, hy219⟩ : ∃ y_ : List Int, y_ = (List.replicate ((l0.length : Int) : Int).toNat 0) := ⟨_, rfl⟩
 replace H : (laws_toIntS.l0 k l0 y219 0) = some r := by first | (rw [hy219]; with_reducible exact H) | (have H2_ := (Option.bind_some _ _).symm.trans H; rw [hy219]; with_reducible exact H2_) | (have H2_ := (Option.bind_some _ _).symm.trans H; with_reducible exact H2_) | with_reducible exact H | (rw [hy219]; exact H) | exact H
 have Ny219 := zM hy219
 clear hy219
 have H' := zM H
 clear H
 go_enter Tryd.func43, Tryd.ntmps43
 go_wp2_with (first | ((with_reducible refine gate_dst (N := 7) rfl ?_); refine Kd.R_make (Kd.int .i64) _ 3 rfl (N := 7) rfl 35 _ _ rfl (l0.length : Int) rfl rfl Tryd.underlying35 (.int .i64 0) 8 info3 rfl (by decide) (by omega) 0 (ok := fun _ => True) (okp := fun _ => True) rfl (fun _ hk => hk) trivial (zO (by first | (with_reducible assumption) | assumption)) (Nat.le_trans (Nat.mul_le_mul_right _ (zO (by first | (with_reducible assumption) | assumption) : (l0.length : Int).toNat ≤ 35184372088832)) (by omega)) (Below.refl _ _) (Nat.le_refl _) ?_; intro v220 w4 ho5 hb hg_ hnew_; clear hg_ hnew_; (first | rw [← Ny219.out] at ho5 | (simp only [Int.reduceToNat] at ho5; rw [← Ny219.out] at ho5)); have n0_ := zM (Kd.R_lower ho5 (zZ (by with_reducible repeat (first | exact HB.out | apply zA | apply zN | apply zD)))); have n1_ := zM (zP (by with_reducible repeat (first | exact HB.out | apply zA | apply zN | apply zD)) hb); clear HB; have HO221 := n0_; have HB := n1_; clear n0_ n1_; clear hb ho5))
 go_loopg [4] k (fun kq v4 w' => ∃ (x3_1 : List Int) (x4_1 : Int), v4 = .int .i64 x4_1 ∧ Aside0 (laws_toIntS.l0 kq l0 x3_1 x4_1 = some r) ∧ Aside0 (kq ≤ k) ∧ Aside0 (Kd.R (Kd.int .i64) 3 w' w.heap.size (fun _ => True) v220 x3_1) ∧ Aside0 (Below w.heap.size w w'))
 case atStart => exact ⟨(y219), (0), (by first | rfl | (simp; done) | (simp [*]; done) | (simp; exact zQ _)), H', ⟨Nat.le_refl _⟩, ⟨by (with_reducible repeat (first | apply Kd.R_alloc | apply Kd.R_drewN | apply Kd.R_drew)); exact HO221.out⟩, ⟨by repeat (first | (with_reducible first | exact HB.out | apply zA | apply zN | apply zD) | exact HB.out)⟩⟩
 case round =>
  clear H'
  try clear c2
  try clear c2b0
  try clear c2b1
  try clear p2
  try clear c3
  try clear c3b0
  try clear c3b1
  try clear c4
  obtain ⟨x3_1, x4_1, rfl, HA, HK1, HO_3, HB⟩ := hrel
  cases gk with
  | zero => exact absurd HA.out (by simp [laws_toIntS.l0])
  | succ k1 =>
   have H := HA.out
   clear HA
   simp only [laws_toIntS.l0] at H
   by_cases c6 : x4_1 < (l0.length : Int)
   rotate_left
   ·rw [if_neg c6] at H
    have c6b0 : decide (x4_1 < (l0.length : Int)) = false := zG c6
    clear c6
    obtain rfl := zI H
    go_wp2
    go_ret
    exact ⟨_, by first | rfl | (simp [errW_none, errW_some] <;> rfl) | (simp [*, errW_none, errW_some] <;> rfl), by (with_reducible repeat (first | apply Kd.R_alloc | apply Kd.R_drewN | apply Kd.R_drew)); exact HO_3.out, by repeat (first | (with_reducible first | exact HB.out | apply zA | apply zN | apply zD) | exact HB.out)⟩
   rw [if_pos c6] at H
   have c6b0 : decide (x4_1 < (l0.length : Int)) = true := zE c6
   clear c6
   by_cases c7 : 0 ≤ x4_1
   rotate_left
   ·rw [if_neg c7] at H
    exact absurd H (by simp)
   rw [if_pos c7] at H
   have c7b0 : decide (0 ≤ x4_1) = true := zE c7
   clear c7
   by_cases c8 : x4_1 < (x3_1.length : Int)
   rotate_left
   ·rw [if_neg c8] at H
    exact absurd H (by simp)
   rw [if_pos c8] at H
   have c8b0 : decide (x4_1 < (x3_1.length : Int)) = true := zE c8
   clear c8
   obtain ⟨y223, hy223⟩ : ∃ y_ : List Int, y_ = (x3_1.set (x4_1 : Int).toNat (rd l0 x4_1)) := ⟨_, rfl⟩
   replace H : (laws_toIntS.l0 k1 l0 y223 (wrap64 (x4_1 + 1))) = some r := by first | (rw [hy223]; with_reducible exact H) | (have H2_ := (Option.bind_some _ _).symm.trans H; rw [hy223]; with_reducible exact H2_) | (have H2_ := (Option.bind_some _ _).symm.trans H; with_reducible exact H2_) | with_reducible exact H | (rw [hy223]; exact H) | exact H
   have Ny223 := zM hy223
   clear hy223
   have H' := zM H
   clear H
   have p222 : 0 ≤ (x4_1 : Int) := zO (by first | (with_reducible assumption) | assumption)
   have q222 : x4_1 < (l0.length : Int) := zO (by first | (with_reducible assumption) | assumption)
   obtain ⟨ad222, e222, hx222_0⟩ := Kd.at_int HR0.out x4_1 p222 q222
   cases e222
   replace hx222_0 := (HB.out.cell (zT w _ hx222_0)).trans hx222_0
   replace p222 := eq_true p222
   replace q222 := eq_true q222
   have p9 : 0 ≤ (x4_1 : Int) := zO (by first | (with_reducible assumption) | assumption)
   have q9 : (x4_1 : Int) < ((x3_1.length : Int) : Int) := zO (by first | (with_reducible assumption) | assumption)
   obtain ⟨go9, co9, eo9, gb9, gl9, cl9, HG9⟩ := Kd.R_form HO_3.out (by omega)
   (first | cases eo9 | (injection eo9 with ea_ en_ ec_; (first | subst ea_ | (injection ea_ with ea_; subst ea_)); subst ec_; clear en_))
   have GB9 := zM gb9
   have GG9 := zM HG9
   clear gb9 gl9 HG9
   obtain ⟨hx9_0, hf9_0⟩ := Kd.R_celln 0 HO_3.out (x4_1 : Int) p9 q9
   replace p9 := eq_true p9
   replace q9 := eq_true q9
   have HP10 := Kd.R_putg HO_3.out (x4_1 : Int) (rd l0 x4_1)
   go_wp2_with (first | ((with_reducible refine gate_store (t := 3) (p := 20) rfl ?_); refine store_event (t := 3) (p := 20) (v := ?vo_w11) (w1 := (wr.setCell ⟨go9, (x4_1 : Int).toNat, none⟩ (.int .i64 (rd l0 x4_1)))) ?hg ?ho ?hn ?hr ?_; (case ho => rfl); (case hg => rfl); (case hn => rfl); (case hr => first | (go_simp; done) | (go_simp; rfl)); intro w11 hw; have hg : wr.grownBy w11 (some go9) := (by rw [hw]; exact HP10.2); have hp_ : Kd.R (Kd.int .i64) 3 w11 w.heap.size (fun _ => True) (.slice (some ⟨go9, 0, none⟩) x3_1.length co9) y223 := (by rw [hw, Ny223.out]; exact HP10.1); clear HP10; have n0_ := zM (hp_); have n1_ := zM ((by rw [hw]; exact zS (HB.out) GB9.out : Below w.heap.size w w11)); clear HO_3; clear HB; have HO_3 := n0_; have HB := n1_; clear n0_ n1_; clear hg hw hp_))
   go_roundg k1
   case measure => have := HK1.out; omega
   case rel => exact ⟨(y223), (wrap64 (x4_1 + 1)), (by first | rfl | (simp; done) | (simp [*]; done) | (simp; exact zQ _)), H', ⟨by have := HK1.out; omega⟩, ⟨by (with_reducible repeat (first | apply Kd.R_alloc | apply Kd.R_drewN | apply Kd.R_drew)); exact HO_3.out⟩, ⟨by repeat (first | (with_reducible first | exact HB.out | apply zA | apply zN | apply zD) | exact HB.out)⟩⟩
/-! ### laws_toCred: function 20 -/
def laws_toCred.f (k : Nat) (a0_0 : Int) (a0_1 : Int) (l0_2 : List Int) : Option (Int × Int × List Int) := (laws_toIntS.f k l0_2).bind fun t227 => (some (a0_0, a0_1, t227))
theorem laws_toCred.mono : ∀ a0 a1 a2 k, LeO (laws_toCred.f k a0 a1 a2) (laws_toCred.f (k + 1) a0 a1 a2) := by
 intro a0 a1 a2 k
 unfold laws_toCred.f
 repeat' first | (with_reducible exact laws_toIntS.mono _ _) | (with_reducible exact LeO.refl _) | (with_reducible exact LeO.none _) | (with_reducible refine LeO.ite ?_ ?_) | (with_reducible refine LeO.bind ?_ (fun _ => ?_)) | exact LeO.none _ | refine LeO.ite ?_ ?_ | refine LeO.bind ?_ (fun _ => ?_)
set_option maxHeartbeats 8000000 in
set_option maxRecDepth 100000 in
theorem laws_toCred.calls (k : Nat) (a0_0 : Int) (a0_1 : Int) (A0_2 : Option Addr) (c0_2 : Nat) (l0_2 : List Int) (r1 : Int) (r2 : Int) (r3 : List Int) (w : World) (hr0_2 : Kd.C (Kd.int .i64) w A0_2 l0_2.length l0_2) (hc0_2 : l0_2.length ≤ c0_2) (h : laws_toCred.f k a0_0 a0_1 l0_2 = some (r1, r2, r3)) :
  Calls Tryd.prog 20 #[.agg #[.int .i64 a0_0, .int .i64 a0_1, .slice A0_2 l0_2.length c0_2]] w fun e w' => ∃ v2_ : Value, e = .returned (.agg #[.int .i64 r1, .int .i64 r2, v2_]) ∧ Kd.R (Kd.int .i64) 3 w' w.heap.size (fun _ => True) v2_ r3 ∧ Below w.heap.size w w' := by
 have hu37 := Tryd.underlying37
 have hu47 := Tryd.underlying47
 have HR0_2 := zM hr0_2
 have HC0_2 := zM hc0_2
 clear hr0_2 hc0_2
 have HB := zM (Below.refl w.heap.size w)
 have H : ((laws_toIntS.f k l0_2).bind fun t227 => (some (a0_0, a0_1, t227))) = some (r1, r2, r3) := h
 clear h
 replace H := Option.bind_eq_some_iff.mp H
 obtain ⟨t227, A20, H⟩ := H
 replace H : (some (a0_0, a0_1, t227)) = some (r1, r2, r3) := H
 have A2 := zM A20
 clear A20
 simp only [Option.some.injEq, Prod.mk.injEq] at H
 obtain ⟨rfl, rfl, rfl⟩ := H
 go_enter Tryd.func20, Tryd.ntmps20
 go_wp2_with (first | ((with_reducible refine gate_dst (N := 1) rfl ?_); refine box_event ?hg (N := 1) ?hd (cs := #[.int .i64 a0_0, .int .i64 a0_1, .slice A0_2 l0_2.length c0_2]) (t := 37) ?hr ?_; (case hd => rfl); (case hg => rfl); (case hr => first | (go_simp; done) | (go_simp; rfl)); intro gb224 hg w3 hbox hb; have n0_ := zM (zP (by with_reducible repeat (first | exact HB.out | apply zA | apply zN | apply zD)) hb); have n1_ := zM (hbox); have n2_ := zM ((by rw [hg]; exact (zZ (by with_reducible repeat (first | exact HB.out | apply zA | apply zN | apply zD))) : w.heap.size ≤ gb224)); have n3_ := zM ((by rw [hg]; exact (zZ (by with_reducible repeat (first | exact HB.out | apply zA | apply zN | apply zD))) : w.heap.size ≤ gb224)); clear HB; have HB := n0_; have BK224 := n1_; have GW224 := n2_; have GE224 := n3_; clear n0_ n1_ n2_ n3_; clear hb hbox hg) | ((with_reducible refine gate_dst (N := 2) rfl ?_); refine box_event ?hg (N := 2) ?hd (cs := #[.int .i64 0, .int .i64 0, .slice none 0 0]) (t := 47) ?hr ?_; (case hd => rfl); (case hg => rfl); (case hr => first | (go_simp; done) | (go_simp; rfl)); intro gb225 hg w4 hbox hb; have n0_ := zM (zL (g := gb224) (o := .cells #[.int .i64 a0_0, .int .i64 a0_1, .slice A0_2 l0_2.length c0_2] 37 (0, 0)) (by (with_reducible repeat (first | refine zK ?_ _ | refine zW ?_ | refine zB ?_ _)); exact BK224.out) hb); have n1_ := zM (zP (by with_reducible repeat (first | exact HB.out | apply zA | apply zN | apply zD | refine zS ?_ GE224.out)) hb); have n2_ := zM (hbox); have n3_ := zM ((by rw [hg]; exact (zZ (by with_reducible repeat (first | exact HB.out | apply zA | apply zN | apply zD | refine zS ?_ GE224.out))) : w.heap.size ≤ gb225)); have n4_ := zM ((by rw [hg]; exact (zZ (by with_reducible repeat (first | exact HB.out | apply zA | apply zN | apply zD | refine zS ?_ GE224.out))) : w.heap.size ≤ gb225)); have n5_ := zM ((by rw [hg]; exact Nat.ne_of_lt (blk_lt (g := gb224) (o := .cells #[.int .i64 a0_0, .int .i64 a0_1, .slice A0_2 l0_2.length c0_2] 37 (0, 0)) (by (with_reducible repeat (first | refine zK ?_ _ | refine zW ?_ | refine zB ?_ _)); exact BK224.out)) : gb224 ≠ gb225)); have n6_ := zM ((by rw [hg]; exact Nat.ne_of_gt (blk_lt (g := gb224) (o := .cells #[.int .i64 a0_0, .int .i64 a0_1, .slice A0_2 l0_2.length c0_2] 37 (0, 0)) (by (with_reducible repeat (first | refine zK ?_ _ | refine zW ?_ | refine zB ?_ _)); exact BK224.out)) : gb225 ≠ gb224)); clear BK224; clear HB; have BK224 := n0_; have HB := n1_; have BK225 := n2_; have GW225 := n3_; have GE225 := n4_; have NB224_225 := n5_; have NB225_224 := n6_; clear n0_ n1_ n2_ n3_ n4_ n5_ n6_; clear hb hbox hg) | ((with_reducible refine gate_dst (N := 3) rfl ?_); refine box_event ?hg (N := 3) ?hd (cs := #[.int .i64 0, .int .i64 0, .slice none 0 0]) (t := 47) ?hr ?_; (case hd => rfl); (case hg => rfl); (case hr => first | (go_simp; done) | (go_simp; rfl)); intro gb226 hg w5 hbox hb; have n0_ := zM (zL (g := gb224) (o := .cells #[.int .i64 a0_0, .int .i64 a0_1, .slice A0_2 l0_2.length c0_2] 37 (0, 0)) (by (with_reducible repeat (first | refine zK ?_ _ | refine zW ?_ | refine zB ?_ _)); exact BK224.out) hb); have n1_ := zM (zL (g := gb225) (o := .cells #[.int .i64 0, .int .i64 0, .slice none 0 0] 47 (0, 0)) (by (with_reducible repeat (first | refine zK ?_ _ | refine zW ?_ | refine zB ?_ _)); exact BK225.out) hb); have n2_ := zM (zP (by with_reducible repeat (first | exact HB.out | apply zA | apply zN | apply zD | refine zS ?_ GE224.out | refine zS ?_ GE225.out)) hb); have n3_ := zM (hbox); have n4_ := zM ((by rw [hg]; exact (zZ (by with_reducible repeat (first | exact HB.out | apply zA | apply zN | apply zD | refine zS ?_ GE224.out | refine zS ?_ GE225.out))) : w.heap.size ≤ gb226)); have n5_ := zM ((by rw [hg]; exact (zZ (by with_reducible repeat (first | exact HB.out | apply zA | apply zN | apply zD | refine zS ?_ GE224.out | refine zS ?_ GE225.out))) : w.heap.size ≤ gb226)); have n6_ := zM ((by rw [hg]; exact Nat.ne_of_lt (blk_lt (g := gb224) (o := .cells #[.int .i64 a0_0, .int .i64 a0_1, .slice A0_2 l0_2.length c0_2] 37 (0, 0)) (by (with_reducible repeat (first | refine zK ?_ _ | refine zW ?_ | refine zB ?_ _)); exact BK224.out)) : gb224 ≠ gb226)); have n7_ := zM ((by rw [hg]; exact Nat.ne_of_gt (blk_lt (g := gb224) (o := .cells #[.int .i64 a0_0, .int .i64 a0_1, .slice A0_2 l0_2.length c0_2] 37 (0, 0)) (by (with_reducible repeat (first | refine zK ?_ _ | refine zW ?_ | refine zB ?_ _)); exact BK224.out)) : gb226 ≠ gb224)); have n8_ := zM ((by rw [hg]; exact Nat.ne_of_lt (blk_lt (g := gb225) (o := .cells #[.int .i64 0, .int .i64 0, .slice none 0 0] 47 (0, 0)) (by (with_reducible repeat (first | refine zK ?_ _ | refine zW ?_ | refine zB ?_ _)); exact BK225.out)) : gb225 ≠ gb226)); have n9_ := zM ((by rw [hg]; exact Nat.ne_of_gt (blk_lt (g := gb225) (o := .cells #[.int .i64 0, .int .i64 0, .slice none 0 0] 47 (0, 0)) (by (with_reducible repeat (first | refine zK ?_ _ | refine zW ?_ | refine zB ?_ _)); exact BK225.out)) : gb226 ≠ gb225)); clear BK224; clear BK225; clear HB; have BK224 := n0_; have BK225 := n1_; have HB := n2_; have BK226 := n3_; have GW226 := n4_; have GE226 := n5_; have NB224_226 := n6_; have NB226_224 := n7_; have NB225_226 := n8_; have NB226_225 := n9_; clear n0_ n1_ n2_ n3_ n4_ n5_ n6_ n7_ n8_ n9_; clear hb hbox hg; have hnb6 := NB224_225.out; have hnc6 := NB225_224.out; have hnb7 := NB224_226.out; have hnc7 := NB226_224.out; have hcz8_0 : w5.cell? ⟨gb224, 0, none⟩ = some (.int .i64 a0_0) := (zC BK224.out 0).trans rfl; have hcz8_1 : w5.cell? ⟨gb224, 1, none⟩ = some (.int .i64 a0_1) := (zC BK224.out 1).trans rfl; have hcz8_2 : w5.cell? ⟨gb224, 2, none⟩ = some (.slice A0_2 l0_2.length c0_2) := (zC BK224.out 2).trans rfl; have hfz8_0 := zF BK224.out 0; have hfz8_1 := zF BK224.out 1; have hfz8_2 := zF BK224.out 2; have hnb9 := NB226_225.out; have hnc9 := NB225_226.out; have hcz10_0 : w5.cell? ⟨gb226, 0, none⟩ = some (.int .i64 0) := (zC BK226.out 0).trans rfl; have hcz10_1 : w5.cell? ⟨gb226, 1, none⟩ = some (.int .i64 0) := (zC BK226.out 1).trans rfl; have hcz10_2 : w5.cell? ⟨gb226, 2, none⟩ = some (.slice none 0 0) := (zC BK226.out 2).trans rfl; have hfz10_0 := zF BK226.out 0; have hfz10_1 := zF BK226.out 1; have hfz10_2 := zF BK226.out 2) | ((with_reducible refine gate_callee (f := 43) rfl ?_); refine goesL_ (some 12) rfl rfl Tryd.func43 (by kernel_rfl) rfl #[.slice A0_2 l0_2.length c0_2] rfl (by (try simp only [List.map_toArray, List.map_cons, List.map_nil]); first | done | rfl | (simp only [List.length_drop, List.length_take]; rfl)) ?_; (with_reducible refine (laws_toIntS.calls k _ _ l0_2 t227 _ ?side1 ?side2 A2.out).mono ?_); (case side1 => exact Kd.C_below HR0_2.out (by with_reducible repeat (first | exact HB.out | apply zA | apply zN | apply zD | refine zS ?_ GE224.out | refine zS ?_ GE225.out | refine zS ?_ GE226.out))); (case side2 => exact HC0_2.out); rintro e w11 ⟨v228, rfl, ho0, hb⟩; refine ⟨_, rfl, ?_⟩; have n0_ := zM (Kd.R_lower ho0 (zZ (by with_reducible repeat (first | exact HB.out | apply zA | apply zN | apply zD | refine zS ?_ GE224.out | refine zS ?_ GE225.out | refine zS ?_ GE226.out)))); have n1_ := zM (zL (g := gb224) (o := .cells #[.int .i64 a0_0, .int .i64 a0_1, .slice A0_2 l0_2.length c0_2] 37 (0, 0)) (by (with_reducible repeat (first | refine zK ?_ _ | refine zW ?_ | refine zB ?_ _)); refine blk_far ?_ NB224_226.out _; (with_reducible repeat (first | refine zK ?_ _ | refine zW ?_ | refine zB ?_ _)); refine blk_far ?_ NB224_226.out _; (with_reducible repeat (first | refine zK ?_ _ | refine zW ?_ | refine zB ?_ _)); exact BK224.out) hb); have n2_ := zM (zL (g := gb225) (o := .cells #[.int .i64 0, .int .i64 0, .slice none 0 0] 47 (0, 0)) (by (with_reducible repeat (first | refine zK ?_ _ | refine zW ?_ | refine zB ?_ _)); refine blk_far ?_ NB225_226.out _; (with_reducible repeat (first | refine zK ?_ _ | refine zW ?_ | refine zB ?_ _)); refine blk_far ?_ NB225_226.out _; (with_reducible repeat (first | refine zK ?_ _ | refine zW ?_ | refine zB ?_ _)); exact BK225.out) hb); have n3_ := zM (zL (g := gb226) (o := .cells #[.int .i64 a0_0, .int .i64 a0_1, .slice none 0 0] 47 (0, 0)) (by (with_reducible repeat (first | refine zK ?_ _ | refine zW ?_ | refine zB ?_ _)); refine blk_put (cs := #[.int .i64 a0_0, .int .i64 0, .slice none 0 0]) ?_ 1 _ rfl; (with_reducible repeat (first | refine zK ?_ _ | refine zW ?_ | refine zB ?_ _)); refine blk_put (cs := #[.int .i64 0, .int .i64 0, .slice none 0 0]) ?_ 0 _ rfl; (with_reducible repeat (first | refine zK ?_ _ | refine zW ?_ | refine zB ?_ _)); exact BK226.out) hb); have n4_ := zM (zP (by with_reducible repeat (first | exact HB.out | apply zA | apply zN | apply zD | refine zS ?_ GE224.out | refine zS ?_ GE225.out | refine zS ?_ GE226.out)) hb); clear BK224; clear BK225; clear BK226; clear HB; have HO229 := n0_; have BK224 := n1_; have BK225 := n2_; have BK226 := n3_; have HB := n4_; clear n0_ n1_ n2_ n3_ n4_; (try clear hb); (try clear hb2); (try clear hk); (try clear hi); (try clear ho0); obtain ⟨Ao12, co12, eo12⟩ := Kd.R_slice HO229.out; subst eo12; have hcz13_0 : w11.cell? ⟨gb226, 0, none⟩ = some (.int .i64 a0_0) := (zC BK226.out 0).trans rfl; have hcz13_1 : w11.cell? ⟨gb226, 1, none⟩ = some (.int .i64 a0_1) := (zC BK226.out 1).trans rfl; have hcz13_2 : w11.cell? ⟨gb226, 2, none⟩ = some (.slice none 0 0) := (zC BK226.out 2).trans rfl; have hfz13_0 := zF BK226.out 0; have hfz13_1 := zF BK226.out 1; have hfz13_2 := zF BK226.out 2; have hcz14_0 : w11.cell? ⟨gb225, 0, none⟩ = some (.int .i64 0) := (zC BK225.out 0).trans rfl; have hcz14_1 : w11.cell? ⟨gb225, 1, none⟩ = some (.int .i64 0) := (zC BK225.out 1).trans rfl; have hcz14_2 : w11.cell? ⟨gb225, 2, none⟩ = some (.slice none 0 0) := (zC BK225.out 2).trans rfl; have hfz14_0 := zF BK225.out 0; have hfz14_1 := zF BK225.out 1; have hfz14_2 := zF BK225.out 2))
 refine bodyPost_ret (results_cell_row rfl _ _ gb225 47 #[.int .i64 a0_0, .int .i64 a0_1, .slice Ao12 t227.length co12] (0, 0) _ rfl (by (with_reducible repeat (first | refine zK ?_ _ | refine zW ?_ | refine zB ?_ _)); refine blk_put (cs := #[.int .i64 a0_0, .int .i64 a0_1, .slice none 0 0]) ?_ 2 _ rfl; (with_reducible repeat (first | refine zK ?_ _ | refine zW ?_ | refine zB ?_ _)); refine blk_put (cs := #[.int .i64 a0_0, .int .i64 0, .slice none 0 0]) ?_ 1 _ rfl; (with_reducible repeat (first | refine zK ?_ _ | refine zW ?_ | refine zB ?_ _)); refine blk_put (cs := #[.int .i64 0, .int .i64 0, .slice none 0 0]) ?_ 0 _ rfl; (with_reducible repeat (first | refine zK ?_ _ | refine zW ?_ | refine zB ?_ _)); refine blk_far ?_ NB225_226.out _; (with_reducible repeat (first | refine zK ?_ _ | refine zW ?_ | refine zB ?_ _)); exact BK225.out) Tryd.underlying47 rfl (by kernel_rfl)) rfl ?_
 exact ⟨_, by first | rfl | (simp [errW_none, errW_some] <;> rfl) | (simp [*, errW_none, errW_some] <;> rfl), by (with_reducible repeat (first | apply Kd.R_alloc | apply Kd.R_drewN | apply Kd.R_drew)); exact Kd.R_mono (Kd.R_far (p := ⟨gb225, 2, none⟩) (Kd.R_far (p := ⟨gb225, 1, none⟩) (Kd.R_far (p := ⟨gb225, 0, none⟩) (Kd.R_far (p := ⟨gb226, 2, none⟩) (Kd.R_types (Kd.R_types HO229.out BK226.out (by decide)) BK225.out (by decide)) (fun _ hk => hk.1.2) (.slice Ao12 t227.length co12)) (fun _ hk => hk.2) (.int .i64 a0_0)) (fun _ hk => hk.2) (.int .i64 a0_1)) (fun _ hk => hk.2) (.slice Ao12 t227.length co12)) (fun _ hk => trivial), by repeat (first | (with_reducible first | exact HB.out | apply zA | apply zN | apply zD | refine zS ?_ GE224.out | refine zS ?_ GE225.out | refine zS ?_ GE226.out) | exact HB.out)⟩

end Go.Proofs.YtiopcpkfjikfdaaDoor.PFnExactWalk
