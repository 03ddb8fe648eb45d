/- Written by a program of mine (qprint.py, over the kit's print.py, and texts by hand) for the law FnExactWalk: the functions that it reaches, as Lean functions, and that the program answers as they do. -/
import Derived.Test.YtiopcpkfjikfdaaDoorQFnExactWalkx0
import Derived.Test.YtiopcpkfjikfdaaDoorQFnExactWalkx5
namespace Go.Proofs.YtiopcpkfjikfdaaDoor.PFnExactWalk
open Go.RowKit Go.Proofs.YtiopcpkfjikfdaaDoorW.PrintWords Go.Proofs.YtiopcpkfjikfdaaDoorW.PrintLast Go.Proofs.YtiopcpkfjikfdaaDoorW.PrintMore
attribute [local go_sem] max2_int min2_int max_two min_two max_three min_three max_four min_four   -- for this text's walks alone
set_option linter.unusedVariables false
set_option linter.unusedSimpArgs false

/-! ### spec_l4Over: function 62 -/
mutual
def spec_l4Over.l0 : Nat → Int → Int → List (S90) → Option (Bool)
 | 0, _, _, _ => none
 | k + 1, x3, x153000, x153001 => if x3 < (x153001.length : Int) then (if 0 ≤ x3 then (if ((rd_T90 x153001 x3).f1) = 2 then (if ((rd_T90 x153001 x3).f7) = 0 then (spec_l4Over.j1 k x3 (((rd_T90 x153001 x3).f8) == 0) x153000 x153001 ((rd_T90 x153001 x3).f0) ((rd_T90 x153001 x3).f1) ((rd_T90 x153001 x3).f2) ((rd_T90 x153001 x3).f3) ((rd_T90 x153001 x3).f4) ((rd_T90 x153001 x3).f5) ((rd_T90 x153001 x3).f6) ((rd_T90 x153001 x3).f7) ((rd_T90 x153001 x3).f8)) else (spec_l4Over.j1 k x3 false x153000 x153001 ((rd_T90 x153001 x3).f0) ((rd_T90 x153001 x3).f1) ((rd_T90 x153001 x3).f2) ((rd_T90 x153001 x3).f3) ((rd_T90 x153001 x3).f4) ((rd_T90 x153001 x3).f5) ((rd_T90 x153001 x3).f6) ((rd_T90 x153001 x3).f7) ((rd_T90 x153001 x3).f8))) else (spec_l4Over.j1 k x3 true x153000 x153001 ((rd_T90 x153001 x3).f0) ((rd_T90 x153001 x3).f1) ((rd_T90 x153001 x3).f2) ((rd_T90 x153001 x3).f3) ((rd_T90 x153001 x3).f4) ((rd_T90 x153001 x3).f5) ((rd_T90 x153001 x3).f6) ((rd_T90 x153001 x3).f7) ((rd_T90 x153001 x3).f8))) else (none)) else (some false)
def spec_l4Over.j1 : Nat → Int → Bool → Int → List (S90) → Int → Int → Int → Int → Int → ByteArray → List (S117) → Int → Int → Option (Bool)
 | 0, _, _, _, _, _, _, _, _, _, _, _, _, _ => none
 | k + 1, x3, x31, x153000, x153001, x155000, x155001, x155002, x155003, x155004, x155005, x155006, x155007, x155008 => if x31 = true then (spec_l4Over.l0 k (wrap64 (x3 + 1)) x153000 x153001) else ((spec_l4Usage.f k x153000 x153001 x155000).bind fun bt155 => (if x155007 > 0 then (if bt155.1 > x155007 then (some true) else (if x155008 > 0 then (if bt155.2 > x155008 then (some true) else (spec_l4Over.l0 k (wrap64 (x3 + 1)) x153000 x153001)) else (spec_l4Over.l0 k (wrap64 (x3 + 1)) x153000 x153001))) else (if x155008 > 0 then (if bt155.2 > x155008 then (some true) else (spec_l4Over.l0 k (wrap64 (x3 + 1)) x153000 x153001)) else (spec_l4Over.l0 k (wrap64 (x3 + 1)) x153000 x153001))))
end
def spec_l4Over.f (k : Nat) (a0_0 : Int) (l0_1 : List (S90)) : Option (Bool) := spec_l4Over.l0 k 0 a0_0 l0_1
theorem spec_l4Over.mono_l : ∀ k, (∀ y0 y1 y2, LeO (spec_l4Over.l0 k y0 y1 y2) (spec_l4Over.l0 (k + 1) y0 y1 y2)) ∧ (∀ y0 y1 y2 y3 y4 y5 y6 y7 y8 y9 y10 y11 y12, LeO (spec_l4Over.j1 k y0 y1 y2 y3 y4 y5 y6 y7 y8 y9 y10 y11 y12) (spec_l4Over.j1 (k + 1) y0 y1 y2 y3 y4 y5 y6 y7 y8 y9 y10 y11 y12))
 | 0 => ⟨fun _ _ _ r h => by simp [spec_l4Over.l0] at h, fun _ _ _ _ _ _ _ _ _ _ _ _ _ r h => by simp [spec_l4Over.j1] at h⟩
 | k + 1 => by
  obtain ⟨ih0, ih1⟩ := spec_l4Over.mono_l k
  refine ⟨?_, ?_⟩
  ·intro y0 y1 y2
   unfold spec_l4Over.l0
   repeat' first | (with_reducible exact ih0 _ _ _) | (with_reducible exact ih1 _ _ _ _ _ _ _ _ _ _ _ _ _) | (with_reducible exact spec_l4Usage.mono _ _ _ _) | (with_reducible exact LeO.refl _) | (with_reducible exact LeO.none _) | (with_reducible refine LeO.ite ?_ ?_) | (with_reducible refine LeO.bind ?_ (fun _ => ?_)) | exact LeO.none _ | refine LeO.ite ?_ ?_ | refine LeO.bind ?_ (fun _ => ?_)
  ·intro y0 y1 y2 y3 y4 y5 y6 y7 y8 y9 y10 y11 y12
   unfold spec_l4Over.j1
   repeat' first | (with_reducible exact ih0 _ _ _) | (with_reducible exact ih1 _ _ _ _ _ _ _ _ _ _ _ _ _) | (with_reducible exact spec_l4Usage.mono _ _ _ _) | (with_reducible exact LeO.refl _) | (with_reducible exact LeO.none _) | (with_reducible refine LeO.ite ?_ ?_) | (with_reducible refine LeO.bind ?_ (fun _ => ?_)) | exact LeO.none _ | refine LeO.ite ?_ ?_ | refine LeO.bind ?_ (fun _ => ?_)
theorem spec_l4Over.mono : ∀ a0 a1 k, LeO (spec_l4Over.f k a0 a1) (spec_l4Over.f (k + 1) a0 a1) := by
 intro a0 a1 k
 obtain ⟨ih0, ih1⟩ := spec_l4Over.mono_l k
 unfold spec_l4Over.f
 repeat' first | (with_reducible exact ih0 _ _ _) | (with_reducible exact ih1 _ _ _ _ _ _ _ _ _ _ _ _ _) | (with_reducible exact spec_l4Usage.mono _ _ _ _) | (with_reducible exact LeO.refl _) | (with_reducible exact LeO.none _) | (with_reducible refine LeO.ite ?_ ?_) | (with_reducible refine LeO.bind ?_ (fun _ => ?_)) | exact LeO.none _ | refine LeO.ite ?_ ?_ | refine LeO.bind ?_ (fun _ => ?_)
set_option maxHeartbeats 8000000 in
set_option maxRecDepth 100000 in
theorem spec_l4Over.calls (k : Nat) (a0_0 : Int) (A0_1 : Option Addr) (c0_1 : Nat) (l0_1 : List (S90)) (r : Bool) (w : World) (hr0_1 : Kd.C k90 w A0_1 l0_1.length l0_1) (hc0_1 : l0_1.length ≤ c0_1) (h : spec_l4Over.f k a0_0 l0_1 = some r) :
  Calls Tryd.prog 62 #[.agg #[.int .i64 a0_0, .slice A0_1 l0_1.length c0_1]] w fun e w' => e = .returned (.bool r) ∧ Below w.heap.size w w' := by
 have hu45 := Tryd.underlying45
 have hu90 := Tryd.underlying90
 have HR0_1 := zM hr0_1
 have HC0_1 := zM hc0_1
 clear hr0_1 hc0_1
 have HB := zM (Below.refl w.heap.size w)
 have H : (spec_l4Over.l0 k 0 a0_0 l0_1) = some r := h
 clear h
 have H' := zM H
 clear H
 go_enter Tryd.func62, Tryd.ntmps62
 go_wp2_with (first | ((with_reducible refine gate_dst (N := 1) rfl ?_); refine box_event ?hg (N := 1) ?hd (cs := #[.int .i64 a0_0, .slice A0_1 l0_1.length c0_1]) (t := 45) ?hr ?_; (case hd => rfl); (case hg => rfl); (case hr => first | (go_simp; done) | (go_simp; rfl)); intro gb152 hg w2 hbox hb; have n0_ := zM (zP (by repeat (first | exact HB.out | apply zA | apply zN | apply zD)) hb); have n1_ := zM (hbox); have n2_ := zM ((by rw [hg]; exact (zZ (by repeat (first | exact HB.out | apply zA | apply zN | apply zD))) : w.heap.size ≤ gb152)); have n3_ := zM ((by rw [hg]; exact (zZ (by repeat (first | exact HB.out | apply zA | apply zN | apply zD))) : w.heap.size ≤ gb152)); clear HB; have HB := n0_; have BK152 := n1_; have GW152 := n2_; have GE152 := n3_; clear n0_ n1_ n2_ n3_; clear hb hbox hg))
 go_loopg [3] k (fun kq v3 w' => ∃ (x3_1 : Int), v3 = .int .i64 x3_1 ∧ Aside0 (spec_l4Over.l0 kq x3_1 a0_0 l0_1 = some r) ∧ Aside0 (kq ≤ k) ∧ Aside0 (w'.heap[gb152]? = some (.cells #[.int .i64 a0_0, (.slice A0_1 l0_1.length c0_1)] 45 (0, 0))) ∧ Aside0 (Below w.heap.size w w'))
 case atStart => exact ⟨(0), (by first | rfl | (simp; done) | (simp [*]; done) | (simp; exact zQ _)), H', ⟨Nat.le_refl _⟩, ⟨by (with_reducible repeat (first | refine zK ?_ _ | refine zW ?_ | refine zB ?_ _)); exact BK152.out⟩, ⟨by repeat (first | (with_reducible first | exact HB.out | apply zA | apply zN | apply zD | refine zS ?_ GE152.out) | exact HB.out)⟩⟩
 case round =>
  clear H'
  try clear p2
  obtain ⟨x3_1, rfl, HA, HK1, BK152, HB⟩ := hrel
  cases gk with
  | zero => exact absurd HA.out (by simp [spec_l4Over.l0])
  | succ k1 =>
   have H := HA.out
   clear HA
   simp only [spec_l4Over.l0] at H
   by_cases c3 : x3_1 < (l0_1.length : Int)
   rotate_left
   ·rw [if_neg c3] at H
    have c3b0 : decide (x3_1 < (l0_1.length : Int)) = false := zG c3
    clear c3
    obtain rfl := zI H
    have hcz61_0 : wr.cell? ⟨gb152, 0, none⟩ = some (.int .i64 a0_0) := (zC BK152.out 0).trans rfl
    have hcz61_1 : wr.cell? ⟨gb152, 1, none⟩ = some (.slice A0_1 l0_1.length c0_1) := (zC BK152.out 1).trans rfl
    have hfz61_0 := zF BK152.out 0
    have hfz61_1 := zF BK152.out 1
    go_wp2
    go_ret
    exact ⟨by first | rfl | (simp [errW_none, errW_some] <;> rfl) | (simp [*, errW_none, errW_some] <;> rfl), by repeat (first | (with_reducible first | exact HB.out | apply zA | apply zN | apply zD | refine zS ?_ GE152.out) | exact HB.out)⟩

   rw [if_pos c3] at H
   have c3b0 : decide (x3_1 < (l0_1.length : Int)) = true := zE c3
   clear c3
   by_cases c4 : 0 ≤ x3_1
   rotate_left
   ·rw [if_neg c4] at H
    exact absurd H (by simp)
   rw [if_pos c4] at H
   have c4b0 : decide (0 ≤ x3_1) = true := zE c4
   clear c4
   have HC5 := zM H
   clear H
   have hcz6_0 : wr.cell? ⟨gb152, 0, none⟩ = some (.int .i64 a0_0) := (zC BK152.out 0).trans rfl
   have hcz6_1 : wr.cell? ⟨gb152, 1, none⟩ = some (.slice A0_1 l0_1.length c0_1) := (zC BK152.out 1).trans rfl
   have hfz6_0 := zF BK152.out 0
   have hfz6_1 := zF BK152.out 1
   have p153 : 0 ≤ (x3_1 : Int) := zO (by first | (with_reducible assumption) | assumption)
   have q153 : x3_1 < (l0_1.length : Int) := zO (by first | (with_reducible assumption) | assumption)
   obtain ⟨ad153, A153_6, c153_6, e153, hx153_0, hx153_1, hx153_2, hx153_3, hx153_4, hx153_5, hx153_6, hx153_7, hx153_8, hl153_6, hi153_6⟩ := at_T90 HR0_1.out x3_1 p153 q153
   cases e153
   replace hx153_0 := (HB.out.cell (zT w _ hx153_0)).trans hx153_0
   replace hx153_1 := (HB.out.cell (zT w _ hx153_1)).trans hx153_1
   replace hx153_2 := (HB.out.cell (zT w _ hx153_2)).trans hx153_2
   replace hx153_3 := (HB.out.cell (zT w _ hx153_3)).trans hx153_3
   replace hx153_4 := (HB.out.cell (zT w _ hx153_4)).trans hx153_4
   replace hx153_5 := (HB.out.cell (zT w _ hx153_5)).trans hx153_5
   replace hx153_6 := (HB.out.cell (zT w _ hx153_6)).trans hx153_6
   replace hx153_7 := (HB.out.cell (zT w _ hx153_7)).trans hx153_7
   replace hx153_8 := (HB.out.cell (zT w _ hx153_8)).trans hx153_8
   have HR153_6 := zM hi153_6
   have HC153_6 := zM hl153_6
   clear hi153_6 hl153_6
   replace p153 := eq_true p153
   replace q153 := eq_true q153
   go_upto_region 5 with (first | ((with_reducible refine gate_dst (N := 4) rfl ?_); refine box_event ?hg (N := 4) ?hd (cs := #[.int .i64 0, .int .i64 0, .int .i64 0, .int .i64 0, .int .i64 0, .string (⟨#[]⟩ : ByteArray), .slice none 0 0, .int .i64 0, .int .i64 0]) (t := 90) ?hr ?_; (case hd => rfl); (case hg => rfl); (case hr => first | (go_simp; done) | (go_simp; rfl)); intro gb154 hg w7 hbox hb; have n0_ := zM (zL (g := gb152) (o := .cells #[.int .i64 a0_0, .slice (some ad153) l0_1.length c0_1] 45 (0, 0)) (by (with_reducible repeat (first | refine zK ?_ _ | refine zW ?_ | refine zB ?_ _)); exact BK152.out) hb); have n1_ := zM (zP (by repeat (first | exact HB.out | apply zA | apply zN | apply zD | refine zS ?_ GE152.out)) hb); have n2_ := zM (hbox); have n3_ := zM ((by rw [hg]; exact (zZ (by repeat (first | exact HB.out | apply zA | apply zN | apply zD | refine zS ?_ GE152.out))) : w.heap.size ≤ gb154)); have n4_ := zM ((by rw [hg]; exact (zZ (by repeat (first | exact HB.out | apply zA | apply zN | apply zD | refine zS ?_ GE152.out))) : w.heap.size ≤ gb154)); have n5_ := zM ((by rw [hg]; exact Nat.ne_of_lt (blk_lt (g := gb152) (o := .cells #[.int .i64 a0_0, .slice (some ad153) l0_1.length c0_1] 45 (0, 0)) (by (with_reducible repeat (first | refine zK ?_ _ | refine zW ?_ | refine zB ?_ _)); exact BK152.out)) : gb152 ≠ gb154)); have n6_ := zM ((by rw [hg]; exact Nat.ne_of_gt (blk_lt (g := gb152) (o := .cells #[.int .i64 a0_0, .slice (some ad153) l0_1.length c0_1] 45 (0, 0)) (by (with_reducible repeat (first | refine zK ?_ _ | refine zW ?_ | refine zB ?_ _)); exact BK152.out)) : gb154 ≠ gb152)); clear BK152; clear HB; have BK152 := n0_; have HB := n1_; have BK154 := n2_; have GW154 := n3_; have GE154 := n4_; have NB152_154 := n5_; have NB154_152 := n6_; clear n0_ n1_ n2_ n3_ n4_ n5_ n6_; clear hb hbox hg; have hnb8 := NB154_152.out; have hnc8 := NB152_154.out; have hcz9_0 : w7.cell? ⟨gb154, 0, none⟩ = some (.int .i64 0) := (zC BK154.out 0).trans rfl; have hcz9_1 : w7.cell? ⟨gb154, 1, none⟩ = some (.int .i64 0) := (zC BK154.out 1).trans rfl; have hcz9_2 : w7.cell? ⟨gb154, 2, none⟩ = some (.int .i64 0) := (zC BK154.out 2).trans rfl; have hcz9_3 : w7.cell? ⟨gb154, 3, none⟩ = some (.int .i64 0) := (zC BK154.out 3).trans rfl; have hcz9_4 : w7.cell? ⟨gb154, 4, none⟩ = some (.int .i64 0) := (zC BK154.out 4).trans rfl; have hcz9_5 : w7.cell? ⟨gb154, 5, none⟩ = some (.string (⟨#[]⟩ : ByteArray)) := (zC BK154.out 5).trans rfl; have hcz9_6 : w7.cell? ⟨gb154, 6, none⟩ = some (.slice none 0 0) := (zC BK154.out 6).trans rfl; have hcz9_7 : w7.cell? ⟨gb154, 7, none⟩ = some (.int .i64 0) := (zC BK154.out 7).trans rfl; have hcz9_8 : w7.cell? ⟨gb154, 8, none⟩ = some (.int .i64 0) := (zC BK154.out 8).trans rfl; have hfz9_0 := zF BK154.out 0; have hfz9_1 := zF BK154.out 1; have hfz9_2 := zF BK154.out 2; have hfz9_3 := zF BK154.out 3; have hfz9_4 := zF BK154.out 4; have hfz9_5 := zF BK154.out 5; have hfz9_6 := zF BK154.out 6; have hfz9_7 := zF BK154.out 7; have hfz9_8 := zF BK154.out 8))
   (try simp only [Act.put, List.setIfInBounds_toArray, List.set_cons_zero, List.set_cons_succ])
   go_cut [31] (fun v31 wc => ∃ (kq : Nat) (x31_4 : Bool), v31 = .bool x31_4 ∧ Aside0 (spec_l4Over.j1 kq x3_1 x31_4 a0_0 l0_1 ((rd_T90 l0_1 x3_1).f0) ((rd_T90 l0_1 x3_1).f1) ((rd_T90 l0_1 x3_1).f2) ((rd_T90 l0_1 x3_1).f3) ((rd_T90 l0_1 x3_1).f4) ((rd_T90 l0_1 x3_1).f5) ((rd_T90 l0_1 x3_1).f6) ((rd_T90 l0_1 x3_1).f7) ((rd_T90 l0_1 x3_1).f8) = some r) ∧ Aside0 (kq ≤ k1) ∧ Aside0 (wc.heap[gb152]? = some (.cells #[.int .i64 a0_0, (.slice (some ad153) l0_1.length c0_1)] 45 (0, 0))) ∧ Aside0 (wc.heap[gb154]? = some (.cells #[.int .i64 ((rd_T90 l0_1 x3_1).f0), .int .i64 ((rd_T90 l0_1 x3_1).f1), .int .i64 ((rd_T90 l0_1 x3_1).f2), .int .i64 ((rd_T90 l0_1 x3_1).f3), .int .i64 ((rd_T90 l0_1 x3_1).f4), .string ((rd_T90 l0_1 x3_1).f5), (.slice A153_6 ((rd_T90 l0_1 x3_1).f6).length c153_6), .int .i64 ((rd_T90 l0_1 x3_1).f7), .int .i64 ((rd_T90 l0_1 x3_1).f8)] 90 (0, 0))) ∧ Aside0 (Below w.heap.size w wc))
   case first =>
    have H := HC5.out
    clear HC5
    by_cases c10 : ((rd_T90 l0_1 x3_1).f1) = 2
    rotate_left
    ·rw [if_neg c10] at H
     have c10b0 : (((rd_T90 l0_1 x3_1).f1) == 2) = false := beq_eq_false_iff_ne.mpr c10
     have c10b1 : (((rd_T90 l0_1 x3_1).f1) != 2) = true := bne_iff_ne.mpr c10
     (first | rw [c10b0] | (simp only [i64_w, i32_w]; rw [c10b0]) | skip)
     have H' := zM H
     clear H
     have hnb16 := NB154_152.out
     have hnc16 := NB152_154.out
     have hcz17_0 : w7.cell? ⟨gb154, 0, none⟩ = some (.int .i64 0) := (zC BK154.out 0).trans rfl
     have hcz17_1 : w7.cell? ⟨gb154, 1, none⟩ = some (.int .i64 0) := (zC BK154.out 1).trans rfl
     have hcz17_2 : w7.cell? ⟨gb154, 2, none⟩ = some (.int .i64 0) := (zC BK154.out 2).trans rfl
     have hcz17_3 : w7.cell? ⟨gb154, 3, none⟩ = some (.int .i64 0) := (zC BK154.out 3).trans rfl
     have hcz17_4 : w7.cell? ⟨gb154, 4, none⟩ = some (.int .i64 0) := (zC BK154.out 4).trans rfl
     have hcz17_5 : w7.cell? ⟨gb154, 5, none⟩ = some (.string (⟨#[]⟩ : ByteArray)) := (zC BK154.out 5).trans rfl
     have hcz17_6 : w7.cell? ⟨gb154, 6, none⟩ = some (.slice none 0 0) := (zC BK154.out 6).trans rfl
     have hcz17_7 : w7.cell? ⟨gb154, 7, none⟩ = some (.int .i64 0) := (zC BK154.out 7).trans rfl
     have hcz17_8 : w7.cell? ⟨gb154, 8, none⟩ = some (.int .i64 0) := (zC BK154.out 8).trans rfl
     have hfz17_0 := zF BK154.out 0
     have hfz17_1 := zF BK154.out 1
     have hfz17_2 := zF BK154.out 2
     have hfz17_3 := zF BK154.out 3
     have hfz17_4 := zF BK154.out 4
     have hfz17_5 := zF BK154.out 5
     have hfz17_6 := zF BK154.out 6
     have hfz17_7 := zF BK154.out 7
     have hfz17_8 := zF BK154.out 8
     go_wp2
     go_meet
     case rel => exact ⟨_, (true), (by first | rfl | (simp; done) | (simp [*]; done) | (simp; exact zQ _)), H', ⟨by have := HK1.out; first | omega | exact Nat.le_refl _⟩, ⟨by (with_reducible repeat (first | refine zK ?_ _ | refine zW ?_ | refine zB ?_ _)); refine blk_far ?_ NB152_154.out _; (with_reducible repeat (first | refine zK ?_ _ | refine zW ?_ | refine zB ?_ _)); refine blk_far ?_ NB152_154.out _; (with_reducible repeat (first | refine zK ?_ _ | refine zW ?_ | refine zB ?_ _)); refine blk_far ?_ NB152_154.out _; (with_reducible repeat (first | refine zK ?_ _ | refine zW ?_ | refine zB ?_ _)); refine blk_far ?_ NB152_154.out _; (with_reducible repeat (first | refine zK ?_ _ | refine zW ?_ | refine zB ?_ _)); refine blk_far ?_ NB152_154.out _; (with_reducible repeat (first | refine zK ?_ _ | refine zW ?_ | refine zB ?_ _)); refine blk_far ?_ NB152_154.out _; (with_reducible repeat (first | refine zK ?_ _ | refine zW ?_ | refine zB ?_ _)); refine blk_far ?_ NB152_154.out _; (with_reducible repeat (first | refine zK ?_ _ | refine zW ?_ | refine zB ?_ _)); refine blk_far ?_ NB152_154.out _; (with_reducible repeat (first | refine zK ?_ _ | refine zW ?_ | refine zB ?_ _)); refine blk_far ?_ NB152_154.out _; (with_reducible repeat (first | refine zK ?_ _ | refine zW ?_ | refine zB ?_ _)); exact BK152.out⟩, ⟨by (with_reducible repeat (first | refine zK ?_ _ | refine zW ?_ | refine zB ?_ _)); refine blk_put (cs := #[.int .i64 ((rd_T90 l0_1 x3_1).f0), .int .i64 ((rd_T90 l0_1 x3_1).f1), .int .i64 ((rd_T90 l0_1 x3_1).f2), .int .i64 ((rd_T90 l0_1 x3_1).f3), .int .i64 ((rd_T90 l0_1 x3_1).f4), .string ((rd_T90 l0_1 x3_1).f5), .slice A153_6 ((rd_T90 l0_1 x3_1).f6).length c153_6, .int .i64 ((rd_T90 l0_1 x3_1).f7), .int .i64 0]) ?_ 8 _ rfl; (with_reducible repeat (first | refine zK ?_ _ | refine zW ?_ | refine zB ?_ _)); refine blk_put (cs := #[.int .i64 ((rd_T90 l0_1 x3_1).f0), .int .i64 ((rd_T90 l0_1 x3_1).f1), .int .i64 ((rd_T90 l0_1 x3_1).f2), .int .i64 ((rd_T90 l0_1 x3_1).f3), .int .i64 ((rd_T90 l0_1 x3_1).f4), .string ((rd_T90 l0_1 x3_1).f5), .slice A153_6 ((rd_T90 l0_1 x3_1).f6).length c153_6, .int .i64 0, .int .i64 0]) ?_ 7 _ rfl; (with_reducible repeat (first | refine zK ?_ _ | refine zW ?_ | refine zB ?_ _)); refine blk_put (cs := #[.int .i64 ((rd_T90 l0_1 x3_1).f0), .int .i64 ((rd_T90 l0_1 x3_1).f1), .int .i64 ((rd_T90 l0_1 x3_1).f2), .int .i64 ((rd_T90 l0_1 x3_1).f3), .int .i64 ((rd_T90 l0_1 x3_1).f4), .string ((rd_T90 l0_1 x3_1).f5), .slice none 0 0, .int .i64 0, .int .i64 0]) ?_ 6 _ rfl; (with_reducible repeat (first | refine zK ?_ _ | refine zW ?_ | refine zB ?_ _)); refine blk_put (cs := #[.int .i64 ((rd_T90 l0_1 x3_1).f0), .int .i64 ((rd_T90 l0_1 x3_1).f1), .int .i64 ((rd_T90 l0_1 x3_1).f2), .int .i64 ((rd_T90 l0_1 x3_1).f3), .int .i64 ((rd_T90 l0_1 x3_1).f4), .string (⟨#[]⟩ : ByteArray), .slice none 0 0, .int .i64 0, .int .i64 0]) ?_ 5 _ rfl; (with_reducible repeat (first | refine zK ?_ _ | refine zW ?_ | refine zB ?_ _)); refine blk_put (cs := #[.int .i64 ((rd_T90 l0_1 x3_1).f0), .int .i64 ((rd_T90 l0_1 x3_1).f1), .int .i64 ((rd_T90 l0_1 x3_1).f2), .int .i64 ((rd_T90 l0_1 x3_1).f3), .int .i64 0, .string (⟨#[]⟩ : ByteArray), .slice none 0 0, .int .i64 0, .int .i64 0]) ?_ 4 _ rfl; (with_reducible repeat (first | refine zK ?_ _ | refine zW ?_ | refine zB ?_ _)); refine blk_put (cs := #[.int .i64 ((rd_T90 l0_1 x3_1).f0), .int .i64 ((rd_T90 l0_1 x3_1).f1), .int .i64 ((rd_T90 l0_1 x3_1).f2), .int .i64 0, .int .i64 0, .string (⟨#[]⟩ : ByteArray), .slice none 0 0, .int .i64 0, .int .i64 0]) ?_ 3 _ rfl; (with_reducible repeat (first | refine zK ?_ _ | refine zW ?_ | refine zB ?_ _)); refine blk_put (cs := #[.int .i64 ((rd_T90 l0_1 x3_1).f0), .int .i64 ((rd_T90 l0_1 x3_1).f1), .int .i64 0, .int .i64 0, .int .i64 0, .string (⟨#[]⟩ : ByteArray), .slice none 0 0, .int .i64 0, .int .i64 0]) ?_ 2 _ rfl; (with_reducible repeat (first | refine zK ?_ _ | refine zW ?_ | refine zB ?_ _)); refine blk_put (cs := #[.int .i64 ((rd_T90 l0_1 x3_1).f0), .int .i64 0, .int .i64 0, .int .i64 0, .int .i64 0, .string (⟨#[]⟩ : ByteArray), .slice none 0 0, .int .i64 0, .int .i64 0]) ?_ 1 _ rfl; (with_reducible repeat (first | refine zK ?_ _ | refine zW ?_ | refine zB ?_ _)); refine blk_put (cs := #[.int .i64 0, .int .i64 0, .int .i64 0, .int .i64 0, .int .i64 0, .string (⟨#[]⟩ : ByteArray), .slice none 0 0, .int .i64 0, .int .i64 0]) ?_ 0 _ rfl; (with_reducible repeat (first | refine zK ?_ _ | refine zW ?_ | refine zB ?_ _)); exact BK154.out⟩, ⟨by repeat (first | (with_reducible first | exact HB.out | apply zA | apply zN | apply zD | refine zS ?_ GE152.out | refine zS ?_ GE154.out) | exact HB.out)⟩⟩
    rw [if_pos c10] at H
    have c10b0 : (((rd_T90 l0_1 x3_1).f1) == 2) = true := beq_iff_eq.mpr c10
    have c10b1 : (((rd_T90 l0_1 x3_1).f1) != 2) = false := bne_eq_false_iff_eq.mpr c10
    clear c10
    (first | rw [c10b0] | (simp only [i64_w, i32_w]; rw [c10b0]) | skip)
    by_cases c11 : ((rd_T90 l0_1 x3_1).f7) = 0
    rotate_left
    ·rw [if_neg c11] at H
     have c11b0 : (((rd_T90 l0_1 x3_1).f7) == 0) = false := beq_eq_false_iff_ne.mpr c11
     have c11b1 : (((rd_T90 l0_1 x3_1).f7) != 0) = true := bne_iff_ne.mpr c11
     have H' := zM H
     clear H
     have hnb14 := NB154_152.out
     have hnc14 := NB152_154.out
     have hcz15_0 : w7.cell? ⟨gb154, 0, none⟩ = some (.int .i64 0) := (zC BK154.out 0).trans rfl
     have hcz15_1 : w7.cell? ⟨gb154, 1, none⟩ = some (.int .i64 0) := (zC BK154.out 1).trans rfl
     have hcz15_2 : w7.cell? ⟨gb154, 2, none⟩ = some (.int .i64 0) := (zC BK154.out 2).trans rfl
     have hcz15_3 : w7.cell? ⟨gb154, 3, none⟩ = some (.int .i64 0) := (zC BK154.out 3).trans rfl
     have hcz15_4 : w7.cell? ⟨gb154, 4, none⟩ = some (.int .i64 0) := (zC BK154.out 4).trans rfl
     have hcz15_5 : w7.cell? ⟨gb154, 5, none⟩ = some (.string (⟨#[]⟩ : ByteArray)) := (zC BK154.out 5).trans rfl
     have hcz15_6 : w7.cell? ⟨gb154, 6, none⟩ = some (.slice none 0 0) := (zC BK154.out 6).trans rfl
     have hcz15_7 : w7.cell? ⟨gb154, 7, none⟩ = some (.int .i64 0) := (zC BK154.out 7).trans rfl
     have hcz15_8 : w7.cell? ⟨gb154, 8, none⟩ = some (.int .i64 0) := (zC BK154.out 8).trans rfl
     have hfz15_0 := zF BK154.out 0
     have hfz15_1 := zF BK154.out 1
     have hfz15_2 := zF BK154.out 2
     have hfz15_3 := zF BK154.out 3
     have hfz15_4 := zF BK154.out 4
     have hfz15_5 := zF BK154.out 5
     have hfz15_6 := zF BK154.out 6
     have hfz15_7 := zF BK154.out 7
     have hfz15_8 := zF BK154.out 8
     go_wp2
     go_meet
     case rel => exact ⟨_, (false), (by first | rfl | (simp; done) | (simp [*]; done) | (simp; exact zQ _)), H', ⟨by have := HK1.out; first | omega | exact Nat.le_refl _⟩, ⟨by (with_reducible repeat (first | refine zK ?_ _ | refine zW ?_ | refine zB ?_ _)); refine blk_far ?_ NB152_154.out _; (with_reducible repeat (first | refine zK ?_ _ | refine zW ?_ | refine zB ?_ _)); refine blk_far ?_ NB152_154.out _; (with_reducible repeat (first | refine zK ?_ _ | refine zW ?_ | refine zB ?_ _)); refine blk_far ?_ NB152_154.out _; (with_reducible repeat (first | refine zK ?_ _ | refine zW ?_ | refine zB ?_ _)); refine blk_far ?_ NB152_154.out _; (with_reducible repeat (first | refine zK ?_ _ | refine zW ?_ | refine zB ?_ _)); refine blk_far ?_ NB152_154.out _; (with_reducible repeat (first | refine zK ?_ _ | refine zW ?_ | refine zB ?_ _)); refine blk_far ?_ NB152_154.out _; (with_reducible repeat (first | refine zK ?_ _ | refine zW ?_ | refine zB ?_ _)); refine blk_far ?_ NB152_154.out _; (with_reducible repeat (first | refine zK ?_ _ | refine zW ?_ | refine zB ?_ _)); refine blk_far ?_ NB152_154.out _; (with_reducible repeat (first | refine zK ?_ _ | refine zW ?_ | refine zB ?_ _)); refine blk_far ?_ NB152_154.out _; (with_reducible repeat (first | refine zK ?_ _ | refine zW ?_ | refine zB ?_ _)); exact BK152.out⟩, ⟨by (with_reducible repeat (first | refine zK ?_ _ | refine zW ?_ | refine zB ?_ _)); refine blk_put (cs := #[.int .i64 ((rd_T90 l0_1 x3_1).f0), .int .i64 ((rd_T90 l0_1 x3_1).f1), .int .i64 ((rd_T90 l0_1 x3_1).f2), .int .i64 ((rd_T90 l0_1 x3_1).f3), .int .i64 ((rd_T90 l0_1 x3_1).f4), .string ((rd_T90 l0_1 x3_1).f5), .slice A153_6 ((rd_T90 l0_1 x3_1).f6).length c153_6, .int .i64 ((rd_T90 l0_1 x3_1).f7), .int .i64 0]) ?_ 8 _ rfl; (with_reducible repeat (first | refine zK ?_ _ | refine zW ?_ | refine zB ?_ _)); refine blk_put (cs := #[.int .i64 ((rd_T90 l0_1 x3_1).f0), .int .i64 ((rd_T90 l0_1 x3_1).f1), .int .i64 ((rd_T90 l0_1 x3_1).f2), .int .i64 ((rd_T90 l0_1 x3_1).f3), .int .i64 ((rd_T90 l0_1 x3_1).f4), .string ((rd_T90 l0_1 x3_1).f5), .slice A153_6 ((rd_T90 l0_1 x3_1).f6).length c153_6, .int .i64 0, .int .i64 0]) ?_ 7 _ rfl; (with_reducible repeat (first | refine zK ?_ _ | refine zW ?_ | refine zB ?_ _)); refine blk_put (cs := #[.int .i64 ((rd_T90 l0_1 x3_1).f0), .int .i64 ((rd_T90 l0_1 x3_1).f1), .int .i64 ((rd_T90 l0_1 x3_1).f2), .int .i64 ((rd_T90 l0_1 x3_1).f3), .int .i64 ((rd_T90 l0_1 x3_1).f4), .string ((rd_T90 l0_1 x3_1).f5), .slice none 0 0, .int .i64 0, .int .i64 0]) ?_ 6 _ rfl; (with_reducible repeat (first | refine zK ?_ _ | refine zW ?_ | refine zB ?_ _)); refine blk_put (cs := #[.int .i64 ((rd_T90 l0_1 x3_1).f0), .int .i64 ((rd_T90 l0_1 x3_1).f1), .int .i64 ((rd_T90 l0_1 x3_1).f2), .int .i64 ((rd_T90 l0_1 x3_1).f3), .int .i64 ((rd_T90 l0_1 x3_1).f4), .string (⟨#[]⟩ : ByteArray), .slice none 0 0, .int .i64 0, .int .i64 0]) ?_ 5 _ rfl; (with_reducible repeat (first | refine zK ?_ _ | refine zW ?_ | refine zB ?_ _)); refine blk_put (cs := #[.int .i64 ((rd_T90 l0_1 x3_1).f0), .int .i64 ((rd_T90 l0_1 x3_1).f1), .int .i64 ((rd_T90 l0_1 x3_1).f2), .int .i64 ((rd_T90 l0_1 x3_1).f3), .int .i64 0, .string (⟨#[]⟩ : ByteArray), .slice none 0 0, .int .i64 0, .int .i64 0]) ?_ 4 _ rfl; (with_reducible repeat (first | refine zK ?_ _ | refine zW ?_ | refine zB ?_ _)); refine blk_put (cs := #[.int .i64 ((rd_T90 l0_1 x3_1).f0), .int .i64 ((rd_T90 l0_1 x3_1).f1), .int .i64 ((rd_T90 l0_1 x3_1).f2), .int .i64 0, .int .i64 0, .string (⟨#[]⟩ : ByteArray), .slice none 0 0, .int .i64 0, .int .i64 0]) ?_ 3 _ rfl; (with_reducible repeat (first | refine zK ?_ _ | refine zW ?_ | refine zB ?_ _)); refine blk_put (cs := #[.int .i64 ((rd_T90 l0_1 x3_1).f0), .int .i64 ((rd_T90 l0_1 x3_1).f1), .int .i64 0, .int .i64 0, .int .i64 0, .string (⟨#[]⟩ : ByteArray), .slice none 0 0, .int .i64 0, .int .i64 0]) ?_ 2 _ rfl; (with_reducible repeat (first | refine zK ?_ _ | refine zW ?_ | refine zB ?_ _)); refine blk_put (cs := #[.int .i64 ((rd_T90 l0_1 x3_1).f0), .int .i64 0, .int .i64 0, .int .i64 0, .int .i64 0, .string (⟨#[]⟩ : ByteArray), .slice none 0 0, .int .i64 0, .int .i64 0]) ?_ 1 _ rfl; (with_reducible repeat (first | refine zK ?_ _ | refine zW ?_ | refine zB ?_ _)); refine blk_put (cs := #[.int .i64 0, .int .i64 0, .int .i64 0, .int .i64 0, .int .i64 0, .string (⟨#[]⟩ : ByteArray), .slice none 0 0, .int .i64 0, .int .i64 0]) ?_ 0 _ rfl; (with_reducible repeat (first | refine zK ?_ _ | refine zW ?_ | refine zB ?_ _)); exact BK154.out⟩, ⟨by repeat (first | (with_reducible first | exact HB.out | apply zA | apply zN | apply zD | refine zS ?_ GE152.out | refine zS ?_ GE154.out) | exact HB.out)⟩⟩
    rw [if_pos c11] at H
    have c11b0 : (((rd_T90 l0_1 x3_1).f7) == 0) = true := beq_iff_eq.mpr c11
    have c11b1 : (((rd_T90 l0_1 x3_1).f7) != 0) = false := bne_eq_false_iff_eq.mpr c11
    clear c11
    have H' := zM H
    clear H
    have hnb12 := NB154_152.out
    have hnc12 := NB152_154.out
    have hcz13_0 : w7.cell? ⟨gb154, 0, none⟩ = some (.int .i64 0) := (zC BK154.out 0).trans rfl
    have hcz13_1 : w7.cell? ⟨gb154, 1, none⟩ = some (.int .i64 0) := (zC BK154.out 1).trans rfl
    have hcz13_2 : w7.cell? ⟨gb154, 2, none⟩ = some (.int .i64 0) := (zC BK154.out 2).trans rfl
    have hcz13_3 : w7.cell? ⟨gb154, 3, none⟩ = some (.int .i64 0) := (zC BK154.out 3).trans rfl
    have hcz13_4 : w7.cell? ⟨gb154, 4, none⟩ = some (.int .i64 0) := (zC BK154.out 4).trans rfl
    have hcz13_5 : w7.cell? ⟨gb154, 5, none⟩ = some (.string (⟨#[]⟩ : ByteArray)) := (zC BK154.out 5).trans rfl
    have hcz13_6 : w7.cell? ⟨gb154, 6, none⟩ = some (.slice none 0 0) := (zC BK154.out 6).trans rfl
    have hcz13_7 : w7.cell? ⟨gb154, 7, none⟩ = some (.int .i64 0) := (zC BK154.out 7).trans rfl
    have hcz13_8 : w7.cell? ⟨gb154, 8, none⟩ = some (.int .i64 0) := (zC BK154.out 8).trans rfl
    have hfz13_0 := zF BK154.out 0
    have hfz13_1 := zF BK154.out 1
    have hfz13_2 := zF BK154.out 2
    have hfz13_3 := zF BK154.out 3
    have hfz13_4 := zF BK154.out 4
    have hfz13_5 := zF BK154.out 5
    have hfz13_6 := zF BK154.out 6
    have hfz13_7 := zF BK154.out 7
    have hfz13_8 := zF BK154.out 8
    go_wp2
    go_meet
    case rel => exact ⟨_, ((((rd_T90 l0_1 x3_1).f8) == 0)), (by first | rfl | (simp; done) | (simp [*]; done) | (simp; exact zQ _)), H', ⟨by have := HK1.out; first | omega | exact Nat.le_refl _⟩, ⟨by (with_reducible repeat (first | refine zK ?_ _ | refine zW ?_ | refine zB ?_ _)); refine blk_far ?_ NB152_154.out _; (with_reducible repeat (first | refine zK ?_ _ | refine zW ?_ | refine zB ?_ _)); refine blk_far ?_ NB152_154.out _; (with_reducible repeat (first | refine zK ?_ _ | refine zW ?_ | refine zB ?_ _)); refine blk_far ?_ NB152_154.out _; (with_reducible repeat (first | refine zK ?_ _ | refine zW ?_ | refine zB ?_ _)); refine blk_far ?_ NB152_154.out _; (with_reducible repeat (first | refine zK ?_ _ | refine zW ?_ | refine zB ?_ _)); refine blk_far ?_ NB152_154.out _; (with_reducible repeat (first | refine zK ?_ _ | refine zW ?_ | refine zB ?_ _)); refine blk_far ?_ NB152_154.out _; (with_reducible repeat (first | refine zK ?_ _ | refine zW ?_ | refine zB ?_ _)); refine blk_far ?_ NB152_154.out _; (with_reducible repeat (first | refine zK ?_ _ | refine zW ?_ | refine zB ?_ _)); refine blk_far ?_ NB152_154.out _; (with_reducible repeat (first | refine zK ?_ _ | refine zW ?_ | refine zB ?_ _)); refine blk_far ?_ NB152_154.out _; (with_reducible repeat (first | refine zK ?_ _ | refine zW ?_ | refine zB ?_ _)); exact BK152.out⟩, ⟨by (with_reducible repeat (first | refine zK ?_ _ | refine zW ?_ | refine zB ?_ _)); refine blk_put (cs := #[.int .i64 ((rd_T90 l0_1 x3_1).f0), .int .i64 ((rd_T90 l0_1 x3_1).f1), .int .i64 ((rd_T90 l0_1 x3_1).f2), .int .i64 ((rd_T90 l0_1 x3_1).f3), .int .i64 ((rd_T90 l0_1 x3_1).f4), .string ((rd_T90 l0_1 x3_1).f5), .slice A153_6 ((rd_T90 l0_1 x3_1).f6).length c153_6, .int .i64 ((rd_T90 l0_1 x3_1).f7), .int .i64 0]) ?_ 8 _ rfl; (with_reducible repeat (first | refine zK ?_ _ | refine zW ?_ | refine zB ?_ _)); refine blk_put (cs := #[.int .i64 ((rd_T90 l0_1 x3_1).f0), .int .i64 ((rd_T90 l0_1 x3_1).f1), .int .i64 ((rd_T90 l0_1 x3_1).f2), .int .i64 ((rd_T90 l0_1 x3_1).f3), .int .i64 ((rd_T90 l0_1 x3_1).f4), .string ((rd_T90 l0_1 x3_1).f5), .slice A153_6 ((rd_T90 l0_1 x3_1).f6).length c153_6, .int .i64 0, .int .i64 0]) ?_ 7 _ rfl; (with_reducible repeat (first | refine zK ?_ _ | refine zW ?_ | refine zB ?_ _)); refine blk_put (cs := #[.int .i64 ((rd_T90 l0_1 x3_1).f0), .int .i64 ((rd_T90 l0_1 x3_1).f1), .int .i64 ((rd_T90 l0_1 x3_1).f2), .int .i64 ((rd_T90 l0_1 x3_1).f3), .int .i64 ((rd_T90 l0_1 x3_1).f4), .string ((rd_T90 l0_1 x3_1).f5), .slice none 0 0, .int .i64 0, .int .i64 0]) ?_ 6 _ rfl; (with_reducible repeat (first | refine zK ?_ _ | refine zW ?_ | refine zB ?_ _)); refine blk_put (cs := #[.int .i64 ((rd_T90 l0_1 x3_1).f0), .int .i64 ((rd_T90 l0_1 x3_1).f1), .int .i64 ((rd_T90 l0_1 x3_1).f2), .int .i64 ((rd_T90 l0_1 x3_1).f3), .int .i64 ((rd_T90 l0_1 x3_1).f4), .string (⟨#[]⟩ : ByteArray), .slice none 0 0, .int .i64 0, .int .i64 0]) ?_ 5 _ rfl; (with_reducible repeat (first | refine zK ?_ _ | refine zW ?_ | refine zB ?_ _)); refine blk_put (cs := #[.int .i64 ((rd_T90 l0_1 x3_1).f0), .int .i64 ((rd_T90 l0_1 x3_1).f1), .int .i64 ((rd_T90 l0_1 x3_1).f2), .int .i64 ((rd_T90 l0_1 x3_1).f3), .int .i64 0, .string (⟨#[]⟩ : ByteArray), .slice none 0 0, .int .i64 0, .int .i64 0]) ?_ 4 _ rfl; (with_reducible repeat (first | refine zK ?_ _ | refine zW ?_ | refine zB ?_ _)); refine blk_put (cs := #[.int .i64 ((rd_T90 l0_1 x3_1).f0), .int .i64 ((rd_T90 l0_1 x3_1).f1), .int .i64 ((rd_T90 l0_1 x3_1).f2), .int .i64 0, .int .i64 0, .string (⟨#[]⟩ : ByteArray), .slice none 0 0, .int .i64 0, .int .i64 0]) ?_ 3 _ rfl; (with_reducible repeat (first | refine zK ?_ _ | refine zW ?_ | refine zB ?_ _)); refine blk_put (cs := #[.int .i64 ((rd_T90 l0_1 x3_1).f0), .int .i64 ((rd_T90 l0_1 x3_1).f1), .int .i64 0, .int .i64 0, .int .i64 0, .string (⟨#[]⟩ : ByteArray), .slice none 0 0, .int .i64 0, .int .i64 0]) ?_ 2 _ rfl; (with_reducible repeat (first | refine zK ?_ _ | refine zW ?_ | refine zB ?_ _)); refine blk_put (cs := #[.int .i64 ((rd_T90 l0_1 x3_1).f0), .int .i64 0, .int .i64 0, .int .i64 0, .int .i64 0, .string (⟨#[]⟩ : ByteArray), .slice none 0 0, .int .i64 0, .int .i64 0]) ?_ 1 _ rfl; (with_reducible repeat (first | refine zK ?_ _ | refine zW ?_ | refine zB ?_ _)); refine blk_put (cs := #[.int .i64 0, .int .i64 0, .int .i64 0, .int .i64 0, .int .i64 0, .string (⟨#[]⟩ : ByteArray), .slice none 0 0, .int .i64 0, .int .i64 0]) ?_ 0 _ rfl; (with_reducible repeat (first | refine zK ?_ _ | refine zW ?_ | refine zB ?_ _)); exact BK154.out⟩, ⟨by repeat (first | (with_reducible first | exact HB.out | apply zA | apply zN | apply zD | refine zS ?_ GE152.out | refine zS ?_ GE154.out) | exact HB.out)⟩⟩
   case rest =>
    clear HC5
    try clear c1
    try clear p1
    try clear q1
    try clear hx1
    try clear p2
    try clear c3
    try clear c3b0
    try clear c4
    try clear c4b0
    try clear c6
    try clear c8
    try clear c10
    try clear c10b0
    try clear c10b1
    try clear c11
    try clear c11b0
    try clear c11b1
    try clear c12
    try clear c14
    try clear c15
    try clear p15
    try clear q15
    try clear hx15
    try clear c16
    try clear hcz13_0
    try clear hcz13_1
    try clear hcz13_2
    try clear hcz13_3
    try clear hcz13_4
    try clear hcz13_5
    try clear hcz13_6
    try clear hcz13_7
    try clear hcz13_8
    try clear hcz15_0
    try clear hcz15_1
    try clear hcz15_2
    try clear hcz15_3
    try clear hcz15_4
    try clear hcz15_5
    try clear hcz15_6
    try clear hcz15_7
    try clear hcz15_8
    try clear hcz17_0
    try clear hcz17_1
    try clear hcz17_2
    try clear hcz17_3
    try clear hcz17_4
    try clear hcz17_5
    try clear hcz17_6
    try clear hcz17_7
    try clear hcz17_8
    try clear hcz6_0
    try clear hcz6_1
    try clear hcz9_0
    try clear hcz9_1
    try clear hcz9_2
    try clear hcz9_3
    try clear hcz9_4
    try clear hcz9_5
    try clear hcz9_6
    try clear hcz9_7
    try clear hcz9_8
    try clear hfz13_0
    try clear hfz13_1
    try clear hfz13_2
    try clear hfz13_3
    try clear hfz13_4
    try clear hfz13_5
    try clear hfz13_6
    try clear hfz13_7
    try clear hfz13_8
    try clear hfz15_0
    try clear hfz15_1
    try clear hfz15_2
    try clear hfz15_3
    try clear hfz15_4
    try clear hfz15_5
    try clear hfz15_6
    try clear hfz15_7
    try clear hfz15_8
    try clear hfz17_0
    try clear hfz17_1
    try clear hfz17_2
    try clear hfz17_3
    try clear hfz17_4
    try clear hfz17_5
    try clear hfz17_6
    try clear hfz17_7
    try clear hfz17_8
    try clear hfz6_0
    try clear hfz6_1
    try clear hfz9_0
    try clear hfz9_1
    try clear hfz9_2
    try clear hfz9_3
    try clear hfz9_4
    try clear hfz9_5
    try clear hfz9_6
    try clear hfz9_7
    try clear hfz9_8
    try clear hx153_0
    try clear hx153_1
    try clear hx153_2
    try clear hx153_3
    try clear hx153_4
    try clear hx153_5
    try clear hx153_6
    try clear hx153_7
    try clear hx153_8
    try clear p153
    try clear p2
    try clear q153
    obtain ⟨kq, x31_4, rfl, HA, HJ4, BK152, BK154, HB⟩ := hcut
    cases kq with
    | zero => exact absurd HA.out (by simp [spec_l4Over.j1])
    | succ kj4 =>
     have H := HA.out
     clear HA
     simp only [spec_l4Over.j1] at H
     by_cases c18 : x31_4 = true
     ·subst c18
      have H1 : (spec_l4Over.l0 kj4 (wrap64 (x3_1 + 1)) a0_0 l0_1) = some r := by rw [if_pos rfl] at H; exact H
      clear H
      have H := H1
      clear H1
      have H' := zM H
      clear H
      go_wp2
      go_roundg kj4
      case measure => have := HK1.out; have := HJ4.out; omega
      case rel => exact ⟨(wrap64 (x3_1 + 1)), (by first | rfl | (simp; done) | (simp [*]; done) | (simp; exact zQ _)), H', ⟨by have := HK1.out; have := HJ4.out; omega⟩, ⟨by (with_reducible repeat (first | refine zK ?_ _ | refine zW ?_ | refine zB ?_ _)); exact BK152.out⟩, ⟨by repeat (first | (with_reducible first | exact HB.out | apply zA | apply zN | apply zD | refine zS ?_ GE152.out | refine zS ?_ GE154.out) | exact HB.out)⟩⟩
     replace c18 := Bool.eq_false_iff.mpr c18
     subst c18
     have H1 : ((spec_l4Usage.f kj4 a0_0 l0_1 ((rd_T90 l0_1 x3_1).f0)).bind fun bt155 => (if ((rd_T90 l0_1 x3_1).f7) > 0 then (if bt155.1 > ((rd_T90 l0_1 x3_1).f7) then (some true) else (if ((rd_T90 l0_1 x3_1).f8) > 0 then (if bt155.2 > ((rd_T90 l0_1 x3_1).f8) then (some true) else (spec_l4Over.l0 kj4 (wrap64 (x3_1 + 1)) a0_0 l0_1)) else (spec_l4Over.l0 kj4 (wrap64 (x3_1 + 1)) a0_0 l0_1))) else (if ((rd_T90 l0_1 x3_1).f8) > 0 then (if bt155.2 > ((rd_T90 l0_1 x3_1).f8) then (some true) else (spec_l4Over.l0 kj4 (wrap64 (x3_1 + 1)) a0_0 l0_1)) else (spec_l4Over.l0 kj4 (wrap64 (x3_1 + 1)) a0_0 l0_1)))) = some r := by rw [if_neg (show ¬ (false = true) by decide)] at H; exact H
     clear H
     have H := H1
     clear H1
     replace H := Option.bind_eq_some_iff.mp H
     obtain ⟨⟨t155, t156⟩, A190, H⟩ := H
     replace H : (if ((rd_T90 l0_1 x3_1).f7) > 0 then (if t155 > ((rd_T90 l0_1 x3_1).f7) then (some true) else (if ((rd_T90 l0_1 x3_1).f8) > 0 then (if t156 > ((rd_T90 l0_1 x3_1).f8) then (some true) else (spec_l4Over.l0 kj4 (wrap64 (x3_1 + 1)) a0_0 l0_1)) else (spec_l4Over.l0 kj4 (wrap64 (x3_1 + 1)) a0_0 l0_1))) else (if ((rd_T90 l0_1 x3_1).f8) > 0 then (if t156 > ((rd_T90 l0_1 x3_1).f8) then (some true) else (spec_l4Over.l0 kj4 (wrap64 (x3_1 + 1)) a0_0 l0_1)) else (spec_l4Over.l0 kj4 (wrap64 (x3_1 + 1)) a0_0 l0_1))) = some r := H
     have A19 := zM A190
     clear A190
     by_cases c20 : ((rd_T90 l0_1 x3_1).f7) > 0
     rotate_left
     ·rw [if_neg c20] at H
      have c20b0 : decide (0 < ((rd_T90 l0_1 x3_1).f7)) = false := zG c20
      clear c20
      by_cases c44 : ((rd_T90 l0_1 x3_1).f8) > 0
      rotate_left
      ·rw [if_neg c44] at H
       have c44b0 : decide (0 < ((rd_T90 l0_1 x3_1).f8)) = false := zG c44
       clear c44
       have H' := zM H
       clear H
       have hnb56 := NB152_154.out
       have hnc56 := NB154_152.out
       have hcz57_0 : wc.cell? ⟨gb152, 0, none⟩ = some (.int .i64 a0_0) := (zC BK152.out 0).trans rfl
       have hcz57_1 : wc.cell? ⟨gb152, 1, none⟩ = some (.slice (some ad153) l0_1.length c0_1) := (zC BK152.out 1).trans rfl
       have hfz57_0 := zF BK152.out 0
       have hfz57_1 := zF BK152.out 1
       have hcz58_0 : wc.cell? ⟨gb154, 0, none⟩ = some (.int .i64 ((rd_T90 l0_1 x3_1).f0)) := (zC BK154.out 0).trans rfl
       have hcz58_1 : wc.cell? ⟨gb154, 1, none⟩ = some (.int .i64 ((rd_T90 l0_1 x3_1).f1)) := (zC BK154.out 1).trans rfl
       have hcz58_2 : wc.cell? ⟨gb154, 2, none⟩ = some (.int .i64 ((rd_T90 l0_1 x3_1).f2)) := (zC BK154.out 2).trans rfl
       have hcz58_3 : wc.cell? ⟨gb154, 3, none⟩ = some (.int .i64 ((rd_T90 l0_1 x3_1).f3)) := (zC BK154.out 3).trans rfl
       have hcz58_4 : wc.cell? ⟨gb154, 4, none⟩ = some (.int .i64 ((rd_T90 l0_1 x3_1).f4)) := (zC BK154.out 4).trans rfl
       have hcz58_5 : wc.cell? ⟨gb154, 5, none⟩ = some (.string ((rd_T90 l0_1 x3_1).f5)) := (zC BK154.out 5).trans rfl
       have hcz58_6 : wc.cell? ⟨gb154, 6, none⟩ = some (.slice A153_6 ((rd_T90 l0_1 x3_1).f6).length c153_6) := (zC BK154.out 6).trans rfl
       have hcz58_7 : wc.cell? ⟨gb154, 7, none⟩ = some (.int .i64 ((rd_T90 l0_1 x3_1).f7)) := (zC BK154.out 7).trans rfl
       have hcz58_8 : wc.cell? ⟨gb154, 8, none⟩ = some (.int .i64 ((rd_T90 l0_1 x3_1).f8)) := (zC BK154.out 8).trans rfl
       have hfz58_0 := zF BK154.out 0
       have hfz58_1 := zF BK154.out 1
       have hfz58_2 := zF BK154.out 2
       have hfz58_3 := zF BK154.out 3
       have hfz58_4 := zF BK154.out 4
       have hfz58_5 := zF BK154.out 5
       have hfz58_6 := zF BK154.out 6
       have hfz58_7 := zF BK154.out 7
       have hfz58_8 := zF BK154.out 8
       go_wp2_with (first | ((with_reducible refine gate_callee (f := 92) rfl ?_); refine goesL_ (some 36) rfl rfl Tryd.func92 (by kernel_rfl) rfl #[.agg #[.int .i64 a0_0, .slice (some ad153) l0_1.length c0_1], .int .i64 ((rd_T90 l0_1 x3_1).f0)] rfl (by (try simp only [List.map_toArray, List.map_cons, List.map_nil]); first | done | rfl | (simp only [List.length_drop, List.length_take]; rfl)) ?_; (with_reducible refine (spec_l4Usage.calls kj4 a0_0 _ _ l0_1 ((rd_T90 l0_1 x3_1).f0) t155 t156 _ ?side1 ?side2 A19.out).mono ?_); (case side1 => repeat (first | exact (Kd.C_below HR0_1.out HB.out) | (with_reducible refine Kd.C_alloc ?_ _) | (with_reducible refine Kd.C_drewN ?_ _) | (with_reducible refine Kd.C_drew ?_))); (case side2 => exact HC0_1.out); rintro e w59 ⟨rfl, hb⟩; refine ⟨_, rfl, ?_⟩; have n0_ := zM (zL (g := gb152) (o := .cells #[.int .i64 a0_0, .slice (some ad153) l0_1.length c0_1] 45 (0, 0)) (by (with_reducible repeat (first | refine zK ?_ _ | refine zW ?_ | refine zB ?_ _)); exact BK152.out) hb); have n1_ := zM (zL (g := gb154) (o := .cells #[.int .i64 ((rd_T90 l0_1 x3_1).f0), .int .i64 ((rd_T90 l0_1 x3_1).f1), .int .i64 ((rd_T90 l0_1 x3_1).f2), .int .i64 ((rd_T90 l0_1 x3_1).f3), .int .i64 ((rd_T90 l0_1 x3_1).f4), .string ((rd_T90 l0_1 x3_1).f5), .slice A153_6 ((rd_T90 l0_1 x3_1).f6).length c153_6, .int .i64 ((rd_T90 l0_1 x3_1).f7), .int .i64 ((rd_T90 l0_1 x3_1).f8)] 90 (0, 0)) (by (with_reducible repeat (first | refine zK ?_ _ | refine zW ?_ | refine zB ?_ _)); exact BK154.out) hb); have n2_ := zM (zP (by repeat (first | exact HB.out | apply zA | apply zN | apply zD | refine zS ?_ GE152.out | refine zS ?_ GE154.out)) hb); clear BK152; clear BK154; clear HB; have BK152 := n0_; have BK154 := n1_; have HB := n2_; clear n0_ n1_ n2_; (try clear hb); (try clear hb2); (try clear hk); (try clear hi); have hcz60_0 : w59.cell? ⟨gb154, 0, none⟩ = some (.int .i64 ((rd_T90 l0_1 x3_1).f0)) := (zC BK154.out 0).trans rfl; have hcz60_1 : w59.cell? ⟨gb154, 1, none⟩ = some (.int .i64 ((rd_T90 l0_1 x3_1).f1)) := (zC BK154.out 1).trans rfl; have hcz60_2 : w59.cell? ⟨gb154, 2, none⟩ = some (.int .i64 ((rd_T90 l0_1 x3_1).f2)) := (zC BK154.out 2).trans rfl; have hcz60_3 : w59.cell? ⟨gb154, 3, none⟩ = some (.int .i64 ((rd_T90 l0_1 x3_1).f3)) := (zC BK154.out 3).trans rfl; have hcz60_4 : w59.cell? ⟨gb154, 4, none⟩ = some (.int .i64 ((rd_T90 l0_1 x3_1).f4)) := (zC BK154.out 4).trans rfl; have hcz60_5 : w59.cell? ⟨gb154, 5, none⟩ = some (.string ((rd_T90 l0_1 x3_1).f5)) := (zC BK154.out 5).trans rfl; have hcz60_6 : w59.cell? ⟨gb154, 6, none⟩ = some (.slice A153_6 ((rd_T90 l0_1 x3_1).f6).length c153_6) := (zC BK154.out 6).trans rfl; have hcz60_7 : w59.cell? ⟨gb154, 7, none⟩ = some (.int .i64 ((rd_T90 l0_1 x3_1).f7)) := (zC BK154.out 7).trans rfl; have hcz60_8 : w59.cell? ⟨gb154, 8, none⟩ = some (.int .i64 ((rd_T90 l0_1 x3_1).f8)) := (zC BK154.out 8).trans rfl; have hfz60_0 := zF BK154.out 0; have hfz60_1 := zF BK154.out 1; have hfz60_2 := zF BK154.out 2; have hfz60_3 := zF BK154.out 3; have hfz60_4 := zF BK154.out 4; have hfz60_5 := zF BK154.out 5; have hfz60_6 := zF BK154.out 6; have hfz60_7 := zF BK154.out 7; have hfz60_8 := zF BK154.out 8))
       go_roundg kj4
       case measure => have := HK1.out; have := HJ4.out; omega
       case rel => exact ⟨(wrap64 (x3_1 + 1)), (by first | rfl | (simp; done) | (simp [*]; done) | (simp; exact zQ _)), H', ⟨by have := HK1.out; have := HJ4.out; omega⟩, ⟨by (with_reducible repeat (first | refine zK ?_ _ | refine zW ?_ | refine zB ?_ _)); exact BK152.out⟩, ⟨by repeat (first | (with_reducible first | exact HB.out | apply zA | apply zN | apply zD | refine zS ?_ GE152.out | refine zS ?_ GE154.out) | exact HB.out)⟩⟩
      rw [if_pos c44] at H
      have c44b0 : decide (0 < ((rd_T90 l0_1 x3_1).f8)) = true := zE c44
      clear c44
      by_cases c45 : t156 > ((rd_T90 l0_1 x3_1).f8)
      ·rw [if_pos c45] at H
       have c45b0 : decide (((rd_T90 l0_1 x3_1).f8) < t156) = true := zE c45
       clear c45
       obtain rfl := zI H
       have hnb46 := NB152_154.out
       have hnc46 := NB154_152.out
       have hcz47_0 : wc.cell? ⟨gb152, 0, none⟩ = some (.int .i64 a0_0) := (zC BK152.out 0).trans rfl
       have hcz47_1 : wc.cell? ⟨gb152, 1, none⟩ = some (.slice (some ad153) l0_1.length c0_1) := (zC BK152.out 1).trans rfl
       have hfz47_0 := zF BK152.out 0
       have hfz47_1 := zF BK152.out 1
       have hcz48_0 : wc.cell? ⟨gb154, 0, none⟩ = some (.int .i64 ((rd_T90 l0_1 x3_1).f0)) := (zC BK154.out 0).trans rfl
       have hcz48_1 : wc.cell? ⟨gb154, 1, none⟩ = some (.int .i64 ((rd_T90 l0_1 x3_1).f1)) := (zC BK154.out 1).trans rfl
       have hcz48_2 : wc.cell? ⟨gb154, 2, none⟩ = some (.int .i64 ((rd_T90 l0_1 x3_1).f2)) := (zC BK154.out 2).trans rfl
       have hcz48_3 : wc.cell? ⟨gb154, 3, none⟩ = some (.int .i64 ((rd_T90 l0_1 x3_1).f3)) := (zC BK154.out 3).trans rfl
       have hcz48_4 : wc.cell? ⟨gb154, 4, none⟩ = some (.int .i64 ((rd_T90 l0_1 x3_1).f4)) := (zC BK154.out 4).trans rfl
       have hcz48_5 : wc.cell? ⟨gb154, 5, none⟩ = some (.string ((rd_T90 l0_1 x3_1).f5)) := (zC BK154.out 5).trans rfl
       have hcz48_6 : wc.cell? ⟨gb154, 6, none⟩ = some (.slice A153_6 ((rd_T90 l0_1 x3_1).f6).length c153_6) := (zC BK154.out 6).trans rfl
       have hcz48_7 : wc.cell? ⟨gb154, 7, none⟩ = some (.int .i64 ((rd_T90 l0_1 x3_1).f7)) := (zC BK154.out 7).trans rfl
       have hcz48_8 : wc.cell? ⟨gb154, 8, none⟩ = some (.int .i64 ((rd_T90 l0_1 x3_1).f8)) := (zC BK154.out 8).trans rfl
       have hfz48_0 := zF BK154.out 0
       have hfz48_1 := zF BK154.out 1
       have hfz48_2 := zF BK154.out 2
       have hfz48_3 := zF BK154.out 3
       have hfz48_4 := zF BK154.out 4
       have hfz48_5 := zF BK154.out 5
       have hfz48_6 := zF BK154.out 6
       have hfz48_7 := zF BK154.out 7
       have hfz48_8 := zF BK154.out 8
       go_wp2_with (first | ((with_reducible refine gate_callee (f := 92) rfl ?_); refine goesL_ (some 36) rfl rfl Tryd.func92 (by kernel_rfl) rfl #[.agg #[.int .i64 a0_0, .slice (some ad153) l0_1.length c0_1], .int .i64 ((rd_T90 l0_1 x3_1).f0)] rfl (by (try simp only [List.map_toArray, List.map_cons, List.map_nil]); first | done | rfl | (simp only [List.length_drop, List.length_take]; rfl)) ?_; (with_reducible refine (spec_l4Usage.calls kj4 a0_0 _ _ l0_1 ((rd_T90 l0_1 x3_1).f0) t155 t156 _ ?side1 ?side2 A19.out).mono ?_); (case side1 => repeat (first | exact (Kd.C_below HR0_1.out HB.out) | (with_reducible refine Kd.C_alloc ?_ _) | (with_reducible refine Kd.C_drewN ?_ _) | (with_reducible refine Kd.C_drew ?_))); (case side2 => exact HC0_1.out); rintro e w49 ⟨rfl, hb⟩; refine ⟨_, rfl, ?_⟩; have n0_ := zM (zL (g := gb152) (o := .cells #[.int .i64 a0_0, .slice (some ad153) l0_1.length c0_1] 45 (0, 0)) (by (with_reducible repeat (first | refine zK ?_ _ | refine zW ?_ | refine zB ?_ _)); exact BK152.out) hb); have n1_ := zM (zL (g := gb154) (o := .cells #[.int .i64 ((rd_T90 l0_1 x3_1).f0), .int .i64 ((rd_T90 l0_1 x3_1).f1), .int .i64 ((rd_T90 l0_1 x3_1).f2), .int .i64 ((rd_T90 l0_1 x3_1).f3), .int .i64 ((rd_T90 l0_1 x3_1).f4), .string ((rd_T90 l0_1 x3_1).f5), .slice A153_6 ((rd_T90 l0_1 x3_1).f6).length c153_6, .int .i64 ((rd_T90 l0_1 x3_1).f7), .int .i64 ((rd_T90 l0_1 x3_1).f8)] 90 (0, 0)) (by (with_reducible repeat (first | refine zK ?_ _ | refine zW ?_ | refine zB ?_ _)); exact BK154.out) hb); have n2_ := zM (zP (by repeat (first | exact HB.out | apply zA | apply zN | apply zD | refine zS ?_ GE152.out | refine zS ?_ GE154.out)) hb); clear BK152; clear BK154; clear HB; have BK152 := n0_; have BK154 := n1_; have HB := n2_; clear n0_ n1_ n2_; (try clear hb); (try clear hb2); (try clear hk); (try clear hi); have hcz50_0 : w49.cell? ⟨gb154, 0, none⟩ = some (.int .i64 ((rd_T90 l0_1 x3_1).f0)) := (zC BK154.out 0).trans rfl; have hcz50_1 : w49.cell? ⟨gb154, 1, none⟩ = some (.int .i64 ((rd_T90 l0_1 x3_1).f1)) := (zC BK154.out 1).trans rfl; have hcz50_2 : w49.cell? ⟨gb154, 2, none⟩ = some (.int .i64 ((rd_T90 l0_1 x3_1).f2)) := (zC BK154.out 2).trans rfl; have hcz50_3 : w49.cell? ⟨gb154, 3, none⟩ = some (.int .i64 ((rd_T90 l0_1 x3_1).f3)) := (zC BK154.out 3).trans rfl; have hcz50_4 : w49.cell? ⟨gb154, 4, none⟩ = some (.int .i64 ((rd_T90 l0_1 x3_1).f4)) := (zC BK154.out 4).trans rfl; have hcz50_5 : w49.cell? ⟨gb154, 5, none⟩ = some (.string ((rd_T90 l0_1 x3_1).f5)) := (zC BK154.out 5).trans rfl; have hcz50_6 : w49.cell? ⟨gb154, 6, none⟩ = some (.slice A153_6 ((rd_T90 l0_1 x3_1).f6).length c153_6) := (zC BK154.out 6).trans rfl; have hcz50_7 : w49.cell? ⟨gb154, 7, none⟩ = some (.int .i64 ((rd_T90 l0_1 x3_1).f7)) := (zC BK154.out 7).trans rfl; have hcz50_8 : w49.cell? ⟨gb154, 8, none⟩ = some (.int .i64 ((rd_T90 l0_1 x3_1).f8)) := (zC BK154.out 8).trans rfl; have hfz50_0 := zF BK154.out 0; have hfz50_1 := zF BK154.out 1; have hfz50_2 := zF BK154.out 2; have hfz50_3 := zF BK154.out 3; have hfz50_4 := zF BK154.out 4; have hfz50_5 := zF BK154.out 5; have hfz50_6 := zF BK154.out 6; have hfz50_7 := zF BK154.out 7; have hfz50_8 := zF BK154.out 8))
       go_ret
       exact ⟨by first | rfl | (simp [errW_none, errW_some] <;> rfl) | (simp [*, errW_none, errW_some] <;> rfl), by repeat (first | (with_reducible first | exact HB.out | apply zA | apply zN | apply zD | refine zS ?_ GE152.out | refine zS ?_ GE154.out) | exact HB.out)⟩
      rw [if_neg c45] at H
      have c45b0 : decide (((rd_T90 l0_1 x3_1).f8) < t156) = false := zG c45
      clear c45
      have H' := zM H
      clear H
      have hnb51 := NB152_154.out
      have hnc51 := NB154_152.out
      have hcz52_0 : wc.cell? ⟨gb152, 0, none⟩ = some (.int .i64 a0_0) := (zC BK152.out 0).trans rfl
      have hcz52_1 : wc.cell? ⟨gb152, 1, none⟩ = some (.slice (some ad153) l0_1.length c0_1) := (zC BK152.out 1).trans rfl
      have hfz52_0 := zF BK152.out 0
      have hfz52_1 := zF BK152.out 1
      have hcz53_0 : wc.cell? ⟨gb154, 0, none⟩ = some (.int .i64 ((rd_T90 l0_1 x3_1).f0)) := (zC BK154.out 0).trans rfl
      have hcz53_1 : wc.cell? ⟨gb154, 1, none⟩ = some (.int .i64 ((rd_T90 l0_1 x3_1).f1)) := (zC BK154.out 1).trans rfl
      have hcz53_2 : wc.cell? ⟨gb154, 2, none⟩ = some (.int .i64 ((rd_T90 l0_1 x3_1).f2)) := (zC BK154.out 2).trans rfl
      have hcz53_3 : wc.cell? ⟨gb154, 3, none⟩ = some (.int .i64 ((rd_T90 l0_1 x3_1).f3)) := (zC BK154.out 3).trans rfl
      have hcz53_4 : wc.cell? ⟨gb154, 4, none⟩ = some (.int .i64 ((rd_T90 l0_1 x3_1).f4)) := (zC BK154.out 4).trans rfl
      have hcz53_5 : wc.cell? ⟨gb154, 5, none⟩ = some (.string ((rd_T90 l0_1 x3_1).f5)) := (zC BK154.out 5).trans rfl
      have hcz53_6 : wc.cell? ⟨gb154, 6, none⟩ = some (.slice A153_6 ((rd_T90 l0_1 x3_1).f6).length c153_6) := (zC BK154.out 6).trans rfl
      have hcz53_7 : wc.cell? ⟨gb154, 7, none⟩ = some (.int .i64 ((rd_T90 l0_1 x3_1).f7)) := (zC BK154.out 7).trans rfl
      have hcz53_8 : wc.cell? ⟨gb154, 8, none⟩ = some (.int .i64 ((rd_T90 l0_1 x3_1).f8)) := (zC BK154.out 8).trans rfl
      have hfz53_0 := zF BK154.out 0
      have hfz53_1 := zF BK154.out 1
      have hfz53_2 := zF BK154.out 2
      have hfz53_3 := zF BK154.out 3
      have hfz53_4 := zF BK154.out 4
      have hfz53_5 := zF BK154.out 5
      have hfz53_6 := zF BK154.out 6
      have hfz53_7 := zF BK154.out 7
      have hfz53_8 := zF BK154.out 8
      go_wp2_with (first | ((with_reducible refine gate_callee (f := 92) rfl ?_); refine goesL_ (some 36) rfl rfl Tryd.func92 (by kernel_rfl) rfl #[.agg #[.int .i64 a0_0, .slice (some ad153) l0_1.length c0_1], .int .i64 ((rd_T90 l0_1 x3_1).f0)] rfl (by (try simp only [List.map_toArray, List.map_cons, List.map_nil]); first | done | rfl | (simp only [List.length_drop, List.length_take]; rfl)) ?_; (with_reducible refine (spec_l4Usage.calls kj4 a0_0 _ _ l0_1 ((rd_T90 l0_1 x3_1).f0) t155 t156 _ ?side1 ?side2 A19.out).mono ?_); (case side1 => repeat (first | exact (Kd.C_below HR0_1.out HB.out) | (with_reducible refine Kd.C_alloc ?_ _) | (with_reducible refine Kd.C_drewN ?_ _) | (with_reducible refine Kd.C_drew ?_))); (case side2 => exact HC0_1.out); rintro e w54 ⟨rfl, hb⟩; refine ⟨_, rfl, ?_⟩; have n0_ := zM (zL (g := gb152) (o := .cells #[.int .i64 a0_0, .slice (some ad153) l0_1.length c0_1] 45 (0, 0)) (by (with_reducible repeat (first | refine zK ?_ _ | refine zW ?_ | refine zB ?_ _)); exact BK152.out) hb); have n1_ := zM (zL (g := gb154) (o := .cells #[.int .i64 ((rd_T90 l0_1 x3_1).f0), .int .i64 ((rd_T90 l0_1 x3_1).f1), .int .i64 ((rd_T90 l0_1 x3_1).f2), .int .i64 ((rd_T90 l0_1 x3_1).f3), .int .i64 ((rd_T90 l0_1 x3_1).f4), .string ((rd_T90 l0_1 x3_1).f5), .slice A153_6 ((rd_T90 l0_1 x3_1).f6).length c153_6, .int .i64 ((rd_T90 l0_1 x3_1).f7), .int .i64 ((rd_T90 l0_1 x3_1).f8)] 90 (0, 0)) (by (with_reducible repeat (first | refine zK ?_ _ | refine zW ?_ | refine zB ?_ _)); exact BK154.out) hb); have n2_ := zM (zP (by repeat (first | exact HB.out | apply zA | apply zN | apply zD | refine zS ?_ GE152.out | refine zS ?_ GE154.out)) hb); clear BK152; clear BK154; clear HB; have BK152 := n0_; have BK154 := n1_; have HB := n2_; clear n0_ n1_ n2_; (try clear hb); (try clear hb2); (try clear hk); (try clear hi); have hcz55_0 : w54.cell? ⟨gb154, 0, none⟩ = some (.int .i64 ((rd_T90 l0_1 x3_1).f0)) := (zC BK154.out 0).trans rfl; have hcz55_1 : w54.cell? ⟨gb154, 1, none⟩ = some (.int .i64 ((rd_T90 l0_1 x3_1).f1)) := (zC BK154.out 1).trans rfl; have hcz55_2 : w54.cell? ⟨gb154, 2, none⟩ = some (.int .i64 ((rd_T90 l0_1 x3_1).f2)) := (zC BK154.out 2).trans rfl; have hcz55_3 : w54.cell? ⟨gb154, 3, none⟩ = some (.int .i64 ((rd_T90 l0_1 x3_1).f3)) := (zC BK154.out 3).trans rfl; have hcz55_4 : w54.cell? ⟨gb154, 4, none⟩ = some (.int .i64 ((rd_T90 l0_1 x3_1).f4)) := (zC BK154.out 4).trans rfl; have hcz55_5 : w54.cell? ⟨gb154, 5, none⟩ = some (.string ((rd_T90 l0_1 x3_1).f5)) := (zC BK154.out 5).trans rfl; have hcz55_6 : w54.cell? ⟨gb154, 6, none⟩ = some (.slice A153_6 ((rd_T90 l0_1 x3_1).f6).length c153_6) := (zC BK154.out 6).trans rfl; have hcz55_7 : w54.cell? ⟨gb154, 7, none⟩ = some (.int .i64 ((rd_T90 l0_1 x3_1).f7)) := (zC BK154.out 7).trans rfl; have hcz55_8 : w54.cell? ⟨gb154, 8, none⟩ = some (.int .i64 ((rd_T90 l0_1 x3_1).f8)) := (zC BK154.out 8).trans rfl; have hfz55_0 := zF BK154.out 0; have hfz55_1 := zF BK154.out 1; have hfz55_2 := zF BK154.out 2; have hfz55_3 := zF BK154.out 3; have hfz55_4 := zF BK154.out 4; have hfz55_5 := zF BK154.out 5; have hfz55_6 := zF BK154.out 6; have hfz55_7 := zF BK154.out 7; have hfz55_8 := zF BK154.out 8))
      go_roundg kj4
      case measure => have := HK1.out; have := HJ4.out; omega
      case rel => exact ⟨(wrap64 (x3_1 + 1)), (by first | rfl | (simp; done) | (simp [*]; done) | (simp; exact zQ _)), H', ⟨by have := HK1.out; have := HJ4.out; omega⟩, ⟨by (with_reducible repeat (first | refine zK ?_ _ | refine zW ?_ | refine zB ?_ _)); exact BK152.out⟩, ⟨by repeat (first | (with_reducible first | exact HB.out | apply zA | apply zN | apply zD | refine zS ?_ GE152.out | refine zS ?_ GE154.out) | exact HB.out)⟩⟩
     rw [if_pos c20] at H
     have c20b0 : decide (0 < ((rd_T90 l0_1 x3_1).f7)) = true := zE c20
     clear c20
     by_cases c21 : t155 > ((rd_T90 l0_1 x3_1).f7)
     ·rw [if_pos c21] at H
      have c21b0 : decide (((rd_T90 l0_1 x3_1).f7) < t155) = true := zE c21
      clear c21
      obtain rfl := zI H
      have hnb22 := NB152_154.out
      have hnc22 := NB154_152.out
      have hcz23_0 : wc.cell? ⟨gb152, 0, none⟩ = some (.int .i64 a0_0) := (zC BK152.out 0).trans rfl
      have hcz23_1 : wc.cell? ⟨gb152, 1, none⟩ = some (.slice (some ad153) l0_1.length c0_1) := (zC BK152.out 1).trans rfl
      have hfz23_0 := zF BK152.out 0
      have hfz23_1 := zF BK152.out 1
      have hcz24_0 : wc.cell? ⟨gb154, 0, none⟩ = some (.int .i64 ((rd_T90 l0_1 x3_1).f0)) := (zC BK154.out 0).trans rfl
      have hcz24_1 : wc.cell? ⟨gb154, 1, none⟩ = some (.int .i64 ((rd_T90 l0_1 x3_1).f1)) := (zC BK154.out 1).trans rfl
      have hcz24_2 : wc.cell? ⟨gb154, 2, none⟩ = some (.int .i64 ((rd_T90 l0_1 x3_1).f2)) := (zC BK154.out 2).trans rfl
      have hcz24_3 : wc.cell? ⟨gb154, 3, none⟩ = some (.int .i64 ((rd_T90 l0_1 x3_1).f3)) := (zC BK154.out 3).trans rfl
      have hcz24_4 : wc.cell? ⟨gb154, 4, none⟩ = some (.int .i64 ((rd_T90 l0_1 x3_1).f4)) := (zC BK154.out 4).trans rfl
      have hcz24_5 : wc.cell? ⟨gb154, 5, none⟩ = some (.string ((rd_T90 l0_1 x3_1).f5)) := (zC BK154.out 5).trans rfl
      have hcz24_6 : wc.cell? ⟨gb154, 6, none⟩ = some (.slice A153_6 ((rd_T90 l0_1 x3_1).f6).length c153_6) := (zC BK154.out 6).trans rfl
      have hcz24_7 : wc.cell? ⟨gb154, 7, none⟩ = some (.int .i64 ((rd_T90 l0_1 x3_1).f7)) := (zC BK154.out 7).trans rfl
      have hcz24_8 : wc.cell? ⟨gb154, 8, none⟩ = some (.int .i64 ((rd_T90 l0_1 x3_1).f8)) := (zC BK154.out 8).trans rfl
      have hfz24_0 := zF BK154.out 0
      have hfz24_1 := zF BK154.out 1
      have hfz24_2 := zF BK154.out 2
      have hfz24_3 := zF BK154.out 3
      have hfz24_4 := zF BK154.out 4
      have hfz24_5 := zF BK154.out 5
      have hfz24_6 := zF BK154.out 6
      have hfz24_7 := zF BK154.out 7
      have hfz24_8 := zF BK154.out 8
      go_wp2_with (first | ((with_reducible refine gate_callee (f := 92) rfl ?_); refine goesL_ (some 36) rfl rfl Tryd.func92 (by kernel_rfl) rfl #[.agg #[.int .i64 a0_0, .slice (some ad153) l0_1.length c0_1], .int .i64 ((rd_T90 l0_1 x3_1).f0)] rfl (by (try simp only [List.map_toArray, List.map_cons, List.map_nil]); first | done | rfl | (simp only [List.length_drop, List.length_take]; rfl)) ?_; (with_reducible refine (spec_l4Usage.calls kj4 a0_0 _ _ l0_1 ((rd_T90 l0_1 x3_1).f0) t155 t156 _ ?side1 ?side2 A19.out).mono ?_); (case side1 => repeat (first | exact (Kd.C_below HR0_1.out HB.out) | (with_reducible refine Kd.C_alloc ?_ _) | (with_reducible refine Kd.C_drewN ?_ _) | (with_reducible refine Kd.C_drew ?_))); (case side2 => exact HC0_1.out); rintro e w25 ⟨rfl, hb⟩; refine ⟨_, rfl, ?_⟩; have n0_ := zM (zL (g := gb152) (o := .cells #[.int .i64 a0_0, .slice (some ad153) l0_1.length c0_1] 45 (0, 0)) (by (with_reducible repeat (first | refine zK ?_ _ | refine zW ?_ | refine zB ?_ _)); exact BK152.out) hb); have n1_ := zM (zL (g := gb154) (o := .cells #[.int .i64 ((rd_T90 l0_1 x3_1).f0), .int .i64 ((rd_T90 l0_1 x3_1).f1), .int .i64 ((rd_T90 l0_1 x3_1).f2), .int .i64 ((rd_T90 l0_1 x3_1).f3), .int .i64 ((rd_T90 l0_1 x3_1).f4), .string ((rd_T90 l0_1 x3_1).f5), .slice A153_6 ((rd_T90 l0_1 x3_1).f6).length c153_6, .int .i64 ((rd_T90 l0_1 x3_1).f7), .int .i64 ((rd_T90 l0_1 x3_1).f8)] 90 (0, 0)) (by (with_reducible repeat (first | refine zK ?_ _ | refine zW ?_ | refine zB ?_ _)); exact BK154.out) hb); have n2_ := zM (zP (by repeat (first | exact HB.out | apply zA | apply zN | apply zD | refine zS ?_ GE152.out | refine zS ?_ GE154.out)) hb); clear BK152; clear BK154; clear HB; have BK152 := n0_; have BK154 := n1_; have HB := n2_; clear n0_ n1_ n2_; (try clear hb); (try clear hb2); (try clear hk); (try clear hi); have hcz26_0 : w25.cell? ⟨gb154, 0, none⟩ = some (.int .i64 ((rd_T90 l0_1 x3_1).f0)) := (zC BK154.out 0).trans rfl; have hcz26_1 : w25.cell? ⟨gb154, 1, none⟩ = some (.int .i64 ((rd_T90 l0_1 x3_1).f1)) := (zC BK154.out 1).trans rfl; have hcz26_2 : w25.cell? ⟨gb154, 2, none⟩ = some (.int .i64 ((rd_T90 l0_1 x3_1).f2)) := (zC BK154.out 2).trans rfl; have hcz26_3 : w25.cell? ⟨gb154, 3, none⟩ = some (.int .i64 ((rd_T90 l0_1 x3_1).f3)) := (zC BK154.out 3).trans rfl; have hcz26_4 : w25.cell? ⟨gb154, 4, none⟩ = some (.int .i64 ((rd_T90 l0_1 x3_1).f4)) := (zC BK154.out 4).trans rfl; have hcz26_5 : w25.cell? ⟨gb154, 5, none⟩ = some (.string ((rd_T90 l0_1 x3_1).f5)) := (zC BK154.out 5).trans rfl; have hcz26_6 : w25.cell? ⟨gb154, 6, none⟩ = some (.slice A153_6 ((rd_T90 l0_1 x3_1).f6).length c153_6) := (zC BK154.out 6).trans rfl; have hcz26_7 : w25.cell? ⟨gb154, 7, none⟩ = some (.int .i64 ((rd_T90 l0_1 x3_1).f7)) := (zC BK154.out 7).trans rfl; have hcz26_8 : w25.cell? ⟨gb154, 8, none⟩ = some (.int .i64 ((rd_T90 l0_1 x3_1).f8)) := (zC BK154.out 8).trans rfl; have hfz26_0 := zF BK154.out 0; have hfz26_1 := zF BK154.out 1; have hfz26_2 := zF BK154.out 2; have hfz26_3 := zF BK154.out 3; have hfz26_4 := zF BK154.out 4; have hfz26_5 := zF BK154.out 5; have hfz26_6 := zF BK154.out 6; have hfz26_7 := zF BK154.out 7; have hfz26_8 := zF BK154.out 8))
      go_ret
      exact ⟨by first | rfl | (simp [errW_none, errW_some] <;> rfl) | (simp [*, errW_none, errW_some] <;> rfl), by repeat (first | (with_reducible first | exact HB.out | apply zA | apply zN | apply zD | refine zS ?_ GE152.out | refine zS ?_ GE154.out) | exact HB.out)⟩
     rw [if_neg c21] at H
     have c21b0 : decide (((rd_T90 l0_1 x3_1).f7) < t155) = false := zG c21
     clear c21
     by_cases c27 : ((rd_T90 l0_1 x3_1).f8) > 0
     rotate_left
     ·rw [if_neg c27] at H
      have c27b0 : decide (0 < ((rd_T90 l0_1 x3_1).f8)) = false := zG c27
      clear c27
      have H' := zM H
      clear H
      have hnb39 := NB152_154.out
      have hnc39 := NB154_152.out
      have hcz40_0 : wc.cell? ⟨gb152, 0, none⟩ = some (.int .i64 a0_0) := (zC BK152.out 0).trans rfl
      have hcz40_1 : wc.cell? ⟨gb152, 1, none⟩ = some (.slice (some ad153) l0_1.length c0_1) := (zC BK152.out 1).trans rfl
      have hfz40_0 := zF BK152.out 0
      have hfz40_1 := zF BK152.out 1
      have hcz41_0 : wc.cell? ⟨gb154, 0, none⟩ = some (.int .i64 ((rd_T90 l0_1 x3_1).f0)) := (zC BK154.out 0).trans rfl
      have hcz41_1 : wc.cell? ⟨gb154, 1, none⟩ = some (.int .i64 ((rd_T90 l0_1 x3_1).f1)) := (zC BK154.out 1).trans rfl
      have hcz41_2 : wc.cell? ⟨gb154, 2, none⟩ = some (.int .i64 ((rd_T90 l0_1 x3_1).f2)) := (zC BK154.out 2).trans rfl
      have hcz41_3 : wc.cell? ⟨gb154, 3, none⟩ = some (.int .i64 ((rd_T90 l0_1 x3_1).f3)) := (zC BK154.out 3).trans rfl
      have hcz41_4 : wc.cell? ⟨gb154, 4, none⟩ = some (.int .i64 ((rd_T90 l0_1 x3_1).f4)) := (zC BK154.out 4).trans rfl
      have hcz41_5 : wc.cell? ⟨gb154, 5, none⟩ = some (.string ((rd_T90 l0_1 x3_1).f5)) := (zC BK154.out 5).trans rfl
      have hcz41_6 : wc.cell? ⟨gb154, 6, none⟩ = some (.slice A153_6 ((rd_T90 l0_1 x3_1).f6).length c153_6) := (zC BK154.out 6).trans rfl
      have hcz41_7 : wc.cell? ⟨gb154, 7, none⟩ = some (.int .i64 ((rd_T90 l0_1 x3_1).f7)) := (zC BK154.out 7).trans rfl
      have hcz41_8 : wc.cell? ⟨gb154, 8, none⟩ = some (.int .i64 ((rd_T90 l0_1 x3_1).f8)) := (zC BK154.out 8).trans rfl
      have hfz41_0 := zF BK154.out 0
      have hfz41_1 := zF BK154.out 1
      have hfz41_2 := zF BK154.out 2
      have hfz41_3 := zF BK154.out 3
      have hfz41_4 := zF BK154.out 4
      have hfz41_5 := zF BK154.out 5
      have hfz41_6 := zF BK154.out 6
      have hfz41_7 := zF BK154.out 7
      have hfz41_8 := zF BK154.out 8
      go_wp2_with (first | ((with_reducible refine gate_callee (f := 92) rfl ?_); refine goesL_ (some 36) rfl rfl Tryd.func92 (by kernel_rfl) rfl #[.agg #[.int .i64 a0_0, .slice (some ad153) l0_1.length c0_1], .int .i64 ((rd_T90 l0_1 x3_1).f0)] rfl (by (try simp only [List.map_toArray, List.map_cons, List.map_nil]); first | done | rfl | (simp only [List.length_drop, List.length_take]; rfl)) ?_; (with_reducible refine (spec_l4Usage.calls kj4 a0_0 _ _ l0_1 ((rd_T90 l0_1 x3_1).f0) t155 t156 _ ?side1 ?side2 A19.out).mono ?_); (case side1 => repeat (first | exact (Kd.C_below HR0_1.out HB.out) | (with_reducible refine Kd.C_alloc ?_ _) | (with_reducible refine Kd.C_drewN ?_ _) | (with_reducible refine Kd.C_drew ?_))); (case side2 => exact HC0_1.out); rintro e w42 ⟨rfl, hb⟩; refine ⟨_, rfl, ?_⟩; have n0_ := zM (zL (g := gb152) (o := .cells #[.int .i64 a0_0, .slice (some ad153) l0_1.length c0_1] 45 (0, 0)) (by (with_reducible repeat (first | refine zK ?_ _ | refine zW ?_ | refine zB ?_ _)); exact BK152.out) hb); have n1_ := zM (zL (g := gb154) (o := .cells #[.int .i64 ((rd_T90 l0_1 x3_1).f0), .int .i64 ((rd_T90 l0_1 x3_1).f1), .int .i64 ((rd_T90 l0_1 x3_1).f2), .int .i64 ((rd_T90 l0_1 x3_1).f3), .int .i64 ((rd_T90 l0_1 x3_1).f4), .string ((rd_T90 l0_1 x3_1).f5), .slice A153_6 ((rd_T90 l0_1 x3_1).f6).length c153_6, .int .i64 ((rd_T90 l0_1 x3_1).f7), .int .i64 ((rd_T90 l0_1 x3_1).f8)] 90 (0, 0)) (by (with_reducible repeat (first | refine zK ?_ _ | refine zW ?_ | refine zB ?_ _)); exact BK154.out) hb); have n2_ := zM (zP (by repeat (first | exact HB.out | apply zA | apply zN | apply zD | refine zS ?_ GE152.out | refine zS ?_ GE154.out)) hb); clear BK152; clear BK154; clear HB; have BK152 := n0_; have BK154 := n1_; have HB := n2_; clear n0_ n1_ n2_; (try clear hb); (try clear hb2); (try clear hk); (try clear hi); have hcz43_0 : w42.cell? ⟨gb154, 0, none⟩ = some (.int .i64 ((rd_T90 l0_1 x3_1).f0)) := (zC BK154.out 0).trans rfl; have hcz43_1 : w42.cell? ⟨gb154, 1, none⟩ = some (.int .i64 ((rd_T90 l0_1 x3_1).f1)) := (zC BK154.out 1).trans rfl; have hcz43_2 : w42.cell? ⟨gb154, 2, none⟩ = some (.int .i64 ((rd_T90 l0_1 x3_1).f2)) := (zC BK154.out 2).trans rfl; have hcz43_3 : w42.cell? ⟨gb154, 3, none⟩ = some (.int .i64 ((rd_T90 l0_1 x3_1).f3)) := (zC BK154.out 3).trans rfl; have hcz43_4 : w42.cell? ⟨gb154, 4, none⟩ = some (.int .i64 ((rd_T90 l0_1 x3_1).f4)) := (zC BK154.out 4).trans rfl; have hcz43_5 : w42.cell? ⟨gb154, 5, none⟩ = some (.string ((rd_T90 l0_1 x3_1).f5)) := (zC BK154.out 5).trans rfl; have hcz43_6 : w42.cell? ⟨gb154, 6, none⟩ = some (.slice A153_6 ((rd_T90 l0_1 x3_1).f6).length c153_6) := (zC BK154.out 6).trans rfl; have hcz43_7 : w42.cell? ⟨gb154, 7, none⟩ = some (.int .i64 ((rd_T90 l0_1 x3_1).f7)) := (zC BK154.out 7).trans rfl; have hcz43_8 : w42.cell? ⟨gb154, 8, none⟩ = some (.int .i64 ((rd_T90 l0_1 x3_1).f8)) := (zC BK154.out 8).trans rfl; have hfz43_0 := zF BK154.out 0; have hfz43_1 := zF BK154.out 1; have hfz43_2 := zF BK154.out 2; have hfz43_3 := zF BK154.out 3; have hfz43_4 := zF BK154.out 4; have hfz43_5 := zF BK154.out 5; have hfz43_6 := zF BK154.out 6; have hfz43_7 := zF BK154.out 7; have hfz43_8 := zF BK154.out 8))
      go_roundg kj4
      case measure => have := HK1.out; have := HJ4.out; omega
      case rel => exact ⟨(wrap64 (x3_1 + 1)), (by first | rfl | (simp; done) | (simp [*]; done) | (simp; exact zQ _)), H', ⟨by have := HK1.out; have := HJ4.out; omega⟩, ⟨by (with_reducible repeat (first | refine zK ?_ _ | refine zW ?_ | refine zB ?_ _)); exact BK152.out⟩, ⟨by repeat (first | (with_reducible first | exact HB.out | apply zA | apply zN | apply zD | refine zS ?_ GE152.out | refine zS ?_ GE154.out) | exact HB.out)⟩⟩
     rw [if_pos c27] at H
     have c27b0 : decide (0 < ((rd_T90 l0_1 x3_1).f8)) = true := zE c27
     clear c27
     by_cases c28 : t156 > ((rd_T90 l0_1 x3_1).f8)
     ·rw [if_pos c28] at H
      have c28b0 : decide (((rd_T90 l0_1 x3_1).f8) < t156) = true := zE c28
      clear c28
      obtain rfl := zI H
      have hnb29 := NB152_154.out
      have hnc29 := NB154_152.out
      have hcz30_0 : wc.cell? ⟨gb152, 0, none⟩ = some (.int .i64 a0_0) := (zC BK152.out 0).trans rfl
      have hcz30_1 : wc.cell? ⟨gb152, 1, none⟩ = some (.slice (some ad153) l0_1.length c0_1) := (zC BK152.out 1).trans rfl
      have hfz30_0 := zF BK152.out 0
      have hfz30_1 := zF BK152.out 1
      have hcz31_0 : wc.cell? ⟨gb154, 0, none⟩ = some (.int .i64 ((rd_T90 l0_1 x3_1).f0)) := (zC BK154.out 0).trans rfl
      have hcz31_1 : wc.cell? ⟨gb154, 1, none⟩ = some (.int .i64 ((rd_T90 l0_1 x3_1).f1)) := (zC BK154.out 1).trans rfl
      have hcz31_2 : wc.cell? ⟨gb154, 2, none⟩ = some (.int .i64 ((rd_T90 l0_1 x3_1).f2)) := (zC BK154.out 2).trans rfl
      have hcz31_3 : wc.cell? ⟨gb154, 3, none⟩ = some (.int .i64 ((rd_T90 l0_1 x3_1).f3)) := (zC BK154.out 3).trans rfl
      have hcz31_4 : wc.cell? ⟨gb154, 4, none⟩ = some (.int .i64 ((rd_T90 l0_1 x3_1).f4)) := (zC BK154.out 4).trans rfl
      have hcz31_5 : wc.cell? ⟨gb154, 5, none⟩ = some (.string ((rd_T90 l0_1 x3_1).f5)) := (zC BK154.out 5).trans rfl
      have hcz31_6 : wc.cell? ⟨gb154, 6, none⟩ = some (.slice A153_6 ((rd_T90 l0_1 x3_1).f6).length c153_6) := (zC BK154.out 6).trans rfl
      have hcz31_7 : wc.cell? ⟨gb154, 7, none⟩ = some (.int .i64 ((rd_T90 l0_1 x3_1).f7)) := (zC BK154.out 7).trans rfl
      have hcz31_8 : wc.cell? ⟨gb154, 8, none⟩ = some (.int .i64 ((rd_T90 l0_1 x3_1).f8)) := (zC BK154.out 8).trans rfl
      have hfz31_0 := zF BK154.out 0
      have hfz31_1 := zF BK154.out 1
      have hfz31_2 := zF BK154.out 2
      have hfz31_3 := zF BK154.out 3
      have hfz31_4 := zF BK154.out 4
      have hfz31_5 := zF BK154.out 5
      have hfz31_6 := zF BK154.out 6
      have hfz31_7 := zF BK154.out 7
      have hfz31_8 := zF BK154.out 8
      go_wp2_with (first | ((with_reducible refine gate_callee (f := 92) rfl ?_); refine goesL_ (some 36) rfl rfl Tryd.func92 (by kernel_rfl) rfl #[.agg #[.int .i64 a0_0, .slice (some ad153) l0_1.length c0_1], .int .i64 ((rd_T90 l0_1 x3_1).f0)] rfl (by (try simp only [List.map_toArray, List.map_cons, List.map_nil]); first | done | rfl | (simp only [List.length_drop, List.length_take]; rfl)) ?_; (with_reducible refine (spec_l4Usage.calls kj4 a0_0 _ _ l0_1 ((rd_T90 l0_1 x3_1).f0) t155 t156 _ ?side1 ?side2 A19.out).mono ?_); (case side1 => repeat (first | exact (Kd.C_below HR0_1.out HB.out) | (with_reducible refine Kd.C_alloc ?_ _) | (with_reducible refine Kd.C_drewN ?_ _) | (with_reducible refine Kd.C_drew ?_))); (case side2 => exact HC0_1.out); rintro e w32 ⟨rfl, hb⟩; refine ⟨_, rfl, ?_⟩; have n0_ := zM (zL (g := gb152) (o := .cells #[.int .i64 a0_0, .slice (some ad153) l0_1.length c0_1] 45 (0, 0)) (by (with_reducible repeat (first | refine zK ?_ _ | refine zW ?_ | refine zB ?_ _)); exact BK152.out) hb); have n1_ := zM (zL (g := gb154) (o := .cells #[.int .i64 ((rd_T90 l0_1 x3_1).f0), .int .i64 ((rd_T90 l0_1 x3_1).f1), .int .i64 ((rd_T90 l0_1 x3_1).f2), .int .i64 ((rd_T90 l0_1 x3_1).f3), .int .i64 ((rd_T90 l0_1 x3_1).f4), .string ((rd_T90 l0_1 x3_1).f5), .slice A153_6 ((rd_T90 l0_1 x3_1).f6).length c153_6, .int .i64 ((rd_T90 l0_1 x3_1).f7), .int .i64 ((rd_T90 l0_1 x3_1).f8)] 90 (0, 0)) (by (with_reducible repeat (first | refine zK ?_ _ | refine zW ?_ | refine zB ?_ _)); exact BK154.out) hb); have n2_ := zM (zP (by repeat (first | exact HB.out | apply zA | apply zN | apply zD | refine zS ?_ GE152.out | refine zS ?_ GE154.out)) hb); clear BK152; clear BK154; clear HB; have BK152 := n0_; have BK154 := n1_; have HB := n2_; clear n0_ n1_ n2_; (try clear hb); (try clear hb2); (try clear hk); (try clear hi); have hcz33_0 : w32.cell? ⟨gb154, 0, none⟩ = some (.int .i64 ((rd_T90 l0_1 x3_1).f0)) := (zC BK154.out 0).trans rfl; have hcz33_1 : w32.cell? ⟨gb154, 1, none⟩ = some (.int .i64 ((rd_T90 l0_1 x3_1).f1)) := (zC BK154.out 1).trans rfl; have hcz33_2 : w32.cell? ⟨gb154, 2, none⟩ = some (.int .i64 ((rd_T90 l0_1 x3_1).f2)) := (zC BK154.out 2).trans rfl; have hcz33_3 : w32.cell? ⟨gb154, 3, none⟩ = some (.int .i64 ((rd_T90 l0_1 x3_1).f3)) := (zC BK154.out 3).trans rfl; have hcz33_4 : w32.cell? ⟨gb154, 4, none⟩ = some (.int .i64 ((rd_T90 l0_1 x3_1).f4)) := (zC BK154.out 4).trans rfl; have hcz33_5 : w32.cell? ⟨gb154, 5, none⟩ = some (.string ((rd_T90 l0_1 x3_1).f5)) := (zC BK154.out 5).trans rfl; have hcz33_6 : w32.cell? ⟨gb154, 6, none⟩ = some (.slice A153_6 ((rd_T90 l0_1 x3_1).f6).length c153_6) := (zC BK154.out 6).trans rfl; have hcz33_7 : w32.cell? ⟨gb154, 7, none⟩ = some (.int .i64 ((rd_T90 l0_1 x3_1).f7)) := (zC BK154.out 7).trans rfl; have hcz33_8 : w32.cell? ⟨gb154, 8, none⟩ = some (.int .i64 ((rd_T90 l0_1 x3_1).f8)) := (zC BK154.out 8).trans rfl; have hfz33_0 := zF BK154.out 0; have hfz33_1 := zF BK154.out 1; have hfz33_2 := zF BK154.out 2; have hfz33_3 := zF BK154.out 3; have hfz33_4 := zF BK154.out 4; have hfz33_5 := zF BK154.out 5; have hfz33_6 := zF BK154.out 6; have hfz33_7 := zF BK154.out 7; have hfz33_8 := zF BK154.out 8))
      go_ret
      exact ⟨by first | rfl | (simp [errW_none, errW_some] <;> rfl) | (simp [*, errW_none, errW_some] <;> rfl), by repeat (first | (with_reducible first | exact HB.out | apply zA | apply zN | apply zD | refine zS ?_ GE152.out | refine zS ?_ GE154.out) | exact HB.out)⟩
     rw [if_neg c28] at H
     have c28b0 : decide (((rd_T90 l0_1 x3_1).f8) < t156) = false := zG c28
     clear c28
     have H' := zM H
     clear H
     have hnb34 := NB152_154.out
     have hnc34 := NB154_152.out
     have hcz35_0 : wc.cell? ⟨gb152, 0, none⟩ = some (.int .i64 a0_0) := (zC BK152.out 0).trans rfl
     have hcz35_1 : wc.cell? ⟨gb152, 1, none⟩ = some (.slice (some ad153) l0_1.length c0_1) := (zC BK152.out 1).trans rfl
     have hfz35_0 := zF BK152.out 0
     have hfz35_1 := zF BK152.out 1
     have hcz36_0 : wc.cell? ⟨gb154, 0, none⟩ = some (.int .i64 ((rd_T90 l0_1 x3_1).f0)) := (zC BK154.out 0).trans rfl
     have hcz36_1 : wc.cell? ⟨gb154, 1, none⟩ = some (.int .i64 ((rd_T90 l0_1 x3_1).f1)) := (zC BK154.out 1).trans rfl
     have hcz36_2 : wc.cell? ⟨gb154, 2, none⟩ = some (.int .i64 ((rd_T90 l0_1 x3_1).f2)) := (zC BK154.out 2).trans rfl
     have hcz36_3 : wc.cell? ⟨gb154, 3, none⟩ = some (.int .i64 ((rd_T90 l0_1 x3_1).f3)) := (zC BK154.out 3).trans rfl
     have hcz36_4 : wc.cell? ⟨gb154, 4, none⟩ = some (.int .i64 ((rd_T90 l0_1 x3_1).f4)) := (zC BK154.out 4).trans rfl
     have hcz36_5 : wc.cell? ⟨gb154, 5, none⟩ = some (.string ((rd_T90 l0_1 x3_1).f5)) := (zC BK154.out 5).trans rfl
     have hcz36_6 : wc.cell? ⟨gb154, 6, none⟩ = some (.slice A153_6 ((rd_T90 l0_1 x3_1).f6).length c153_6) := (zC BK154.out 6).trans rfl
     have hcz36_7 : wc.cell? ⟨gb154, 7, none⟩ = some (.int .i64 ((rd_T90 l0_1 x3_1).f7)) := (zC BK154.out 7).trans rfl
     have hcz36_8 : wc.cell? ⟨gb154, 8, none⟩ = some (.int .i64 ((rd_T90 l0_1 x3_1).f8)) := (zC BK154.out 8).trans rfl
     have hfz36_0 := zF BK154.out 0
     have hfz36_1 := zF BK154.out 1
     have hfz36_2 := zF BK154.out 2
     have hfz36_3 := zF BK154.out 3
     have hfz36_4 := zF BK154.out 4
     have hfz36_5 := zF BK154.out 5
     have hfz36_6 := zF BK154.out 6
     have hfz36_7 := zF BK154.out 7
     have hfz36_8 := zF BK154.out 8
     go_wp2_with (first | ((with_reducible refine gate_callee (f := 92) rfl ?_); refine goesL_ (some 36) rfl rfl Tryd.func92 (by kernel_rfl) rfl #[.agg #[.int .i64 a0_0, .slice (some ad153) l0_1.length c0_1], .int .i64 ((rd_T90 l0_1 x3_1).f0)] rfl (by (try simp only [List.map_toArray, List.map_cons, List.map_nil]); first | done | rfl | (simp only [List.length_drop, List.length_take]; rfl)) ?_; (with_reducible refine (spec_l4Usage.calls kj4 a0_0 _ _ l0_1 ((rd_T90 l0_1 x3_1).f0) t155 t156 _ ?side1 ?side2 A19.out).mono ?_); (case side1 => repeat (first | exact (Kd.C_below HR0_1.out HB.out) | (with_reducible refine Kd.C_alloc ?_ _) | (with_reducible refine Kd.C_drewN ?_ _) | (with_reducible refine Kd.C_drew ?_))); (case side2 => exact HC0_1.out); rintro e w37 ⟨rfl, hb⟩; refine ⟨_, rfl, ?_⟩; have n0_ := zM (zL (g := gb152) (o := .cells #[.int .i64 a0_0, .slice (some ad153) l0_1.length c0_1] 45 (0, 0)) (by (with_reducible repeat (first | refine zK ?_ _ | refine zW ?_ | refine zB ?_ _)); exact BK152.out) hb); have n1_ := zM (zL (g := gb154) (o := .cells #[.int .i64 ((rd_T90 l0_1 x3_1).f0), .int .i64 ((rd_T90 l0_1 x3_1).f1), .int .i64 ((rd_T90 l0_1 x3_1).f2), .int .i64 ((rd_T90 l0_1 x3_1).f3), .int .i64 ((rd_T90 l0_1 x3_1).f4), .string ((rd_T90 l0_1 x3_1).f5), .slice A153_6 ((rd_T90 l0_1 x3_1).f6).length c153_6, .int .i64 ((rd_T90 l0_1 x3_1).f7), .int .i64 ((rd_T90 l0_1 x3_1).f8)] 90 (0, 0)) (by (with_reducible repeat (first | refine zK ?_ _ | refine zW ?_ | refine zB ?_ _)); exact BK154.out) hb); have n2_ := zM (zP (by repeat (first | exact HB.out | apply zA | apply zN | apply zD | refine zS ?_ GE152.out | refine zS ?_ GE154.out)) hb); clear BK152; clear BK154; clear HB; have BK152 := n0_; have BK154 := n1_; have HB := n2_; clear n0_ n1_ n2_; (try clear hb); (try clear hb2); (try clear hk); (try clear hi); have hcz38_0 : w37.cell? ⟨gb154, 0, none⟩ = some (.int .i64 ((rd_T90 l0_1 x3_1).f0)) := (zC BK154.out 0).trans rfl; have hcz38_1 : w37.cell? ⟨gb154, 1, none⟩ = some (.int .i64 ((rd_T90 l0_1 x3_1).f1)) := (zC BK154.out 1).trans rfl; have hcz38_2 : w37.cell? ⟨gb154, 2, none⟩ = some (.int .i64 ((rd_T90 l0_1 x3_1).f2)) := (zC BK154.out 2).trans rfl; have hcz38_3 : w37.cell? ⟨gb154, 3, none⟩ = some (.int .i64 ((rd_T90 l0_1 x3_1).f3)) := (zC BK154.out 3).trans rfl; have hcz38_4 : w37.cell? ⟨gb154, 4, none⟩ = some (.int .i64 ((rd_T90 l0_1 x3_1).f4)) := (zC BK154.out 4).trans rfl; have hcz38_5 : w37.cell? ⟨gb154, 5, none⟩ = some (.string ((rd_T90 l0_1 x3_1).f5)) := (zC BK154.out 5).trans rfl; have hcz38_6 : w37.cell? ⟨gb154, 6, none⟩ = some (.slice A153_6 ((rd_T90 l0_1 x3_1).f6).length c153_6) := (zC BK154.out 6).trans rfl; have hcz38_7 : w37.cell? ⟨gb154, 7, none⟩ = some (.int .i64 ((rd_T90 l0_1 x3_1).f7)) := (zC BK154.out 7).trans rfl; have hcz38_8 : w37.cell? ⟨gb154, 8, none⟩ = some (.int .i64 ((rd_T90 l0_1 x3_1).f8)) := (zC BK154.out 8).trans rfl; have hfz38_0 := zF BK154.out 0; have hfz38_1 := zF BK154.out 1; have hfz38_2 := zF BK154.out 2; have hfz38_3 := zF BK154.out 3; have hfz38_4 := zF BK154.out 4; have hfz38_5 := zF BK154.out 5; have hfz38_6 := zF BK154.out 6; have hfz38_7 := zF BK154.out 7; have hfz38_8 := zF BK154.out 8))
     go_roundg kj4
     case measure => have := HK1.out; have := HJ4.out; omega
     case rel => exact ⟨(wrap64 (x3_1 + 1)), (by first | rfl | (simp; done) | (simp [*]; done) | (simp; exact zQ _)), H', ⟨by have := HK1.out; have := HJ4.out; omega⟩, ⟨by (with_reducible repeat (first | refine zK ?_ _ | refine zW ?_ | refine zB ?_ _)); exact BK152.out⟩, ⟨by repeat (first | (with_reducible first | exact HB.out | apply zA | apply zN | apply zD | refine zS ?_ GE152.out | refine zS ?_ GE154.out) | exact HB.out)⟩⟩
section
open Go.Proofs.YtiopcpkfjikfdaaDoor.Mth Go.Proofs.YtiopcpkfjikfdaaDoor.Str
/-- what the law's own bound says of a volume -/
def volSmall (l : List S90) : Prop := l.length ≤ 1048576 ∧ (∀ x ∈ l, x.f6.length ≤ 1048576) ∧ (∀ x ∈ l, x.f5.size ≤ 1048576) ∧ (∀ x ∈ l, ∀ d ∈ x.f6, d.f0.size ≤ 1048576)
/-- a volume behind a pointer -/
structure VolAt (W : World) (g : Nat) (nx : Int) (A : Option Addr) (c : Nat) (l : List S90) : Prop where
  blk : W.heap[g]? = some (.cells #[.int .i64 nx, .slice A l.length c] 45 (0, 0))
  row : Kd.C k90 W A l.length l
  cap : l.length ≤ c
  small : volSmall l
theorem VolAt.below {W W1 : World} {g : Nat} {nx : Int} {A : Option Addr} {c : Nat} {l : List S90} (h : VolAt W g nx A c l) (hb : Below W.heap.size W W1) : VolAt W1 g nx A c l :=
  ⟨(hb.block g (blk_lt h.blk)).trans h.blk, Kd.C_below h.row hb, h.cap, h.small⟩
theorem VolAt.len {W : World} {g : Nat} {nx : Int} {A : Option Addr} {c : Nat} {l : List S90} (h : VolAt W g nx A c l) : l.length ≤ 9223372036854775807 := h.row.2.1
theorem VolAt.c0 {W : World} {g : Nat} {nx : Int} {A : Option Addr} {c : Nat} {l : List S90} (h : VolAt W g nx A c l) : W.cell? ⟨g, 0, none⟩ = some (.int .i64 nx) := (zC h.blk 0).trans rfl
theorem VolAt.c1 {W : World} {g : Nat} {nx : Int} {A : Option Addr} {c : Nat} {l : List S90} (h : VolAt W g nx A c l) : W.cell? ⟨g, 1, none⟩ = some (.slice A l.length c) := (zC h.blk 1).trans rfl
/-- the place of an inode; the list's length where there is none -/
def inoI (l : List S90) (id : Int) : Nat := l.findIdx fun x => x.f0 == id
def inoP (A : Option Addr) (l : List S90) (id : Int) : Value := if inoI l id < l.length then .pointer (A.map fun ad => ad.add (inoI l id * 9)) else .pointer none
theorem rd45 (l : List S90) (i : Nat) (h : i < l.length) : rd_T90 l (i : Int) = l[i] := by
  unfold rd_T90
  rw [Int.toNat_natCast, List.getD_eq_getElem?_getD, List.getElem?_eq_getElem h]; rfl
theorem inoI_yes (l : List S90) (id : Int) (i : Nat) (h : i < l.length) (h1 : l[i].f0 = id) (h0 : ∀ j (hj : j < i), (l[j]'(by omega)).f0 ≠ id) : inoI l id = i := by
  unfold inoI
  rw [List.findIdx_eq h]
  exact ⟨by simpa using h1, fun j hj => by simpa using h0 j hj⟩
theorem inoI_no (l : List S90) (id : Int) (h0 : ∀ j (hj : j < l.length), (l[j]'(by omega)).f0 ≠ id) : inoI l id = l.length := by
  unfold inoI
  rw [List.findIdx_eq_length]
  intro x hx
  obtain ⟨j, hj, rfl⟩ := List.getElem_of_mem hx
  simpa using h0 j hj
set_option maxHeartbeats 1000000 in
set_option maxRecDepth 100000 in
theorem inode_any (W : World) (g : Nat) (nx : Int) (A : Option Addr) (c : Nat) (l : List S90) (id : Int) (h : VolAt W g nx A c l) :
    Calls Tryd.prog 79 #[.pointer (some ⟨g, 0, none⟩), .int .i64 id] W fun e w' => e = .returned (inoP A l id) ∧ Drawn0 W w' := by
  have hu29 := Tryd.underlying45
  have hm := h.len
  have hc0 := h.c0
  have hc1 := h.c1
  have HV := zM h
  clear h
  go_enter Tryd.func79, Tryd.ntmps79
  go_wp2
  go_loopg [11] l.length (fun kq v11 w' => ∃ (x : Nat), v11 = .int .i64 (x : Int) ∧ Aside0 (x + kq = l.length ∧ ∀ j (hj : j < l.length), j < x → l[j].f0 ≠ id) ∧ Drawn0 W w')
  case atStart => exact ⟨0, rfl, ⟨by omega, fun j _ hj => absurd hj (by omega)⟩, Drawn0.refl _⟩
  case round =>
    obtain ⟨x, rfl, HX, ⟨m1, rfl⟩⟩ := hrel
    have hl : gk ≤ l.length ∧ x ≤ l.length := by have := HX.out.1; omega
    by_cases hlt : x < l.length
    rotate_left
    · have hI := zM (inoI_no l id (fun j hj => HX.out.2 j hj (by omega)))
      have hlt' : ¬ (x : Int) < (l.length : Int) := by omega
      clear hl
      go_wp2
      go_ret
      exact ⟨by unfold inoP; rw [hI.out, if_neg (by omega)]; rfl, by repeat (first | exact Drawn0.refl _ | apply Drawn0.step)⟩
    cases gk with
    | zero => have := HX.out.1; omega
    | succ k1 =>
    obtain ⟨ad, A6, c6, eA, hx0, _⟩ := at_T90 HV.out.row (x : Int) (by omega) (by omega)
    rw [Int.toNat_natCast] at hx0
    rw [rd45 l x hlt] at hx0
    subst eA
    by_cases hid : l[x].f0 = id
    · have hb : (l[x].f0 == id) = true := by simpa using hid
      have hI := zM (inoI_yes l id x hlt hid (fun j hj => HX.out.2 j (by omega) hj))
      clear hid hl
      go_wp2
      go_ret
      exact ⟨by unfold inoP; rw [hI.out, if_pos hlt]; rfl, by repeat (first | exact Drawn0.refl _ | apply Drawn0.step)⟩
    have hb : (l[x].f0 == id) = false := by simpa using hid
    have HN := zM hid
    clear hid hl
    go_wp2
    go_roundg k1
    case measure => omega
    case rel => exact ⟨x + 1, by go_num, ⟨by have := HX.out.1; omega, fun j hj hjx => by
      by_cases e : j = x
      · subst e; exact HN.out
      exact HX.out.2 j hj (by omega)⟩, by repeat (first | exact Drawn0.refl _ | apply Drawn0.step)⟩
end

section
open Go.Proofs.YtiopcpkfjikfdaaDoor.Mth Go.Proofs.YtiopcpkfjikfdaaDoor.Str
def cntD (id : Int) (ds : List S117) : Nat := (ds.filter fun d => d.f1 == id).length
def namedN (l : List S90) (id : Int) : Nat := (l.map fun x => cntD id x.f6).sum
/-- an inode's cells, in a later world -/
theorem ino_at {w wr : World} {g : Nat} {nx : Int} {A : Option Addr} {c : Nat} {l : List S90} (h : VolAt w g nx A c l) (hb : Below w.heap.size w wr) (x : Nat) (hx : x < l.length) : ∃ ad A6 c6, A = some ad ∧
    wr.cell? (ad.add (x * 9)) = some (.int .i64 l[x].f0) ∧ wr.cell? ⟨(ad.add (x * 9)).block, (ad.add (x * 9)).off + 1, none⟩ = some (.int .i64 l[x].f1) ∧ wr.cell? ⟨(ad.add (x * 9)).block, (ad.add (x * 9)).off + 2, none⟩ = some (.int .i64 l[x].f2) ∧
    wr.cell? ⟨(ad.add (x * 9)).block, (ad.add (x * 9)).off + 3, none⟩ = some (.int .i64 l[x].f3) ∧ wr.cell? ⟨(ad.add (x * 9)).block, (ad.add (x * 9)).off + 4, none⟩ = some (.int .i64 l[x].f4) ∧ wr.cell? ⟨(ad.add (x * 9)).block, (ad.add (x * 9)).off + 5, none⟩ = some (.string l[x].f5) ∧
    wr.cell? ⟨(ad.add (x * 9)).block, (ad.add (x * 9)).off + 6, none⟩ = some (.slice A6 l[x].f6.length c6) ∧ wr.cell? ⟨(ad.add (x * 9)).block, (ad.add (x * 9)).off + 7, none⟩ = some (.int .i64 l[x].f7) ∧ wr.cell? ⟨(ad.add (x * 9)).block, (ad.add (x * 9)).off + 8, none⟩ = some (.int .i64 l[x].f8) ∧
    l[x].f6.length ≤ c6 ∧ Kd.C k117 w A6 l[x].f6.length l[x].f6 := by
  obtain ⟨ad, A6, c6, eA, hx0, hx1, hx2, hx3, hx4, hx5, hx6, hx7, hx8, hl6, hi6⟩ := at_T90 h.row (x : Int) (by omega) (by omega)
  rw [Int.toNat_natCast, rd45 l x hx] at hx0 hx1 hx2 hx3 hx4 hx5 hx6 hx7 hx8
  rw [rd45 l x hx] at hl6 hi6
  exact ⟨ad, A6, c6, eA, pw_cell_below hb hx0, pw_cell_below hb hx1, pw_cell_below hb hx2, pw_cell_below hb hx3, pw_cell_below hb hx4, pw_cell_below hb hx5, pw_cell_below hb hx6, pw_cell_below hb hx7, pw_cell_below hb hx8, hl6, hi6⟩
theorem rd68 (l : List S117) (i : Nat) (h : i < l.length) : rd_T117 l (i : Int) = l[i] := by
  unfold rd_T117
  rw [Int.toNat_natCast, List.getD_eq_getElem?_getD, List.getElem?_eq_getElem h]; rfl
/-- an entry's cells, in a later world -/
theorem dir_at {w wr : World} {A : Option Addr} {l : List S117} (h : Kd.C k117 w A l.length l) (hb : Below w.heap.size w wr) (x : Nat) (hx : x < l.length) : ∃ ad, A = some ad ∧
    wr.cell? (ad.add (x * 2)) = some (.string l[x].f0) ∧ wr.cell? ⟨(ad.add (x * 2)).block, (ad.add (x * 2)).off + 1, none⟩ = some (.int .i64 l[x].f1) := by
  obtain ⟨ad, eA, hx0, hx1⟩ := at_T117 h (x : Int) (by omega) (by omega)
  rw [Int.toNat_natCast, rd68 l x hx] at hx0 hx1
  exact ⟨ad, eA, pw_cell_below hb hx0, pw_cell_below hb hx1⟩
theorem cntD_snoc (id : Int) (ds : List S117) (y : Nat) (h : y < ds.length) : cntD id (ds.take (y + 1)) = cntD id (ds.take y) + if ds[y].f1 = id then 1 else 0 := by
  unfold cntD
  rw [List.take_succ_eq_append_getElem h, List.filter_append, List.length_append]
  by_cases e : ds[y].f1 = id <;> simp [e]
theorem namedN_snoc (l : List S90) (id : Int) (x : Nat) (h : x < l.length) : namedN (l.take (x + 1)) id = namedN (l.take x) id + cntD id l[x].f6 := by
  unfold namedN
  rw [List.take_succ_eq_append_getElem h, List.map_append, List.sum_append]
  simp
theorem cntD_le (id : Int) (ds : List S117) : cntD id ds ≤ ds.length := List.length_filter_le _ _
theorem namedN_le (id : Int) : ∀ (l : List S90), (∀ x ∈ l, x.f6.length ≤ 1048576) → namedN l id ≤ l.length * 1048576
  | [], _ => Nat.le_refl _
  | x :: l, h => by
    have h1 := cntD_le id x.f6
    have h2 := h x (by simp)
    have h3 := namedN_le id l (fun y hy => h y (by simp [hy]))
    unfold namedN at h3 ⊢
    rw [List.map_cons, List.sum_cons, List.length_cons]
    omega
set_option maxHeartbeats 1000000 in
set_option maxRecDepth 100000 in
theorem named_any (w : World) (g : Nat) (nx : Int) (A : Option Addr) (c : Nat) (l : List S90) (id : Int) (h : VolAt w g nx A c l) :
    Calls Tryd.prog 73 #[.pointer (some ⟨g, 0, none⟩), .int .i64 id] w fun e w' => e = .returned (.int .i64 (namedN l id : Int)) ∧ Below w.heap.size w w' := by
  have hu29 := Tryd.underlying45
  have hu45 := Tryd.underlying90
  have hu68 := Tryd.underlying117
  have hm := h.len
  have hc0 := h.c0
  have hc1 := h.c1
  have HV := zM h
  have HB := zM (Below.refl w.heap.size w)
  clear h
  go_enter Tryd.func73, Tryd.ntmps73
  go_wp2
  go_loopg [5, 15] l.length (fun kq v5 v15 w' => ∃ (x : Nat) (n : Nat), v5 = .int .i64 (n : Int) ∧ v15 = .int .i64 (x : Int) ∧ Aside0 (x + kq = l.length ∧ n = namedN (l.take x) id) ∧ Aside0 (Below w.heap.size w w'))
  case atStart => exact ⟨0, 0, rfl, rfl, ⟨by omega, rfl⟩, HB⟩
  case round =>
    clear hc0 hc1 HB
    obtain ⟨x, n, rfl, rfl, HX, HB⟩ := hrel
    have hl : gk ≤ l.length ∧ x ≤ l.length := by have := HX.out.1; omega
    by_cases hlt : x < l.length
    rotate_left
    · have HN := zM (show n = namedN l id by have h1 := HX.out; have e : x = l.length := (by omega); rw [e, List.take_length] at h1; exact h1.2)
      clear hl
      go_wp2
      go_ret
      exact ⟨by rw [HN.out]; rfl, HB.out⟩
    cases gk with
    | zero => have := HX.out.1; omega
    | succ k1 =>
    obtain ⟨ad, A6, c6, eA, hx0, hx1, hx2, hx3, hx4, hx5, hx6, hx7, hx8, hl6, hi6⟩ := ino_at HV.out HB.out x hlt
    have HR6 := zM hi6
    have hm6 := hi6.2.1
    subst eA
    clear hl hl6 hi6
    go_wp2
    go_loopg [5, 22] l[x].f6.length (fun kq v5 v22 w' => ∃ (y : Nat) (n2 : Nat), v5 = .int .i64 (n2 : Int) ∧ v22 = .int .i64 (y : Int) ∧ Aside0 (y + kq = l[x].f6.length ∧ n2 = n + cntD id (l[x].f6.take y)) ∧ Aside0 (Below w.heap.size w w'))
    case atStart => exact ⟨0, n, rfl, rfl, ⟨by omega, rfl⟩, ⟨zA HB.out _⟩⟩
    case round =>
      clear HB hx0 hx1 hx2 hx3 hx4 hx5 hx6 hx7 hx8
      obtain ⟨y, n2, rfl, rfl, HY, HB⟩ := hrel
      have hl : y ≤ l[x].f6.length := by have := HY.out.1; omega
      by_cases hyt : y < l[x].f6.length
      rotate_left
      · clear hl
        go_wp2
        go_roundg k1
        case measure => omega
        case rel => exact ⟨x + 1, n2, rfl, by go_num, ⟨by have := HX.out.1; omega, by
          have hy : y = l[x].f6.length := by have := HY.out.1; omega
          have h2 := HY.out.2
          rw [hy, List.take_length] at h2
          rw [namedN_snoc l id x hlt]; have := HX.out.2; omega⟩, HB⟩
      cases gk with
      | zero => have := HY.out.1; omega
      | succ k2 =>
      obtain ⟨ad6, eA, hy0, hy1⟩ := dir_at HR6.out HB.out y hyt
      subst eA
      clear hl
      have hn2 : n2 ≤ 2000000000000 := by
        have h1 := HX.out.2
        have h2 := HY.out.2
        have h3 := namedN_le id (l.take x) (fun z hz => HV.out.small.2.1 z (List.mem_of_mem_take hz))
        have h4 := cntD_le id (l[x].f6.take y)
        have h5 := HV.out.small.1
        have h6 := HV.out.small.2.1 _ (List.getElem_mem hlt)
        rw [List.length_take] at h3 h4
        omega
      by_cases hid : l[x].f6[y].f1 = id
      rotate_left
      · have hb : (l[x].f6[y].f1 == id) = false := by simpa using hid
        have HN := zM hid
        clear hid
        go_wp2
        go_roundg k2
        case measure => omega
        case rel => exact ⟨y + 1, n2, rfl, by go_num, ⟨by have := HY.out.1; omega, by rw [cntD_snoc id _ y hyt, if_neg HN.out]; have := HY.out.2; omega⟩, ⟨by repeat (first | exact HB.out | apply zA | apply zN | apply zD)⟩⟩
      have hb : (l[x].f6[y].f1 == id) = true := by simpa using hid
      have HN := zM hid
      clear hid
      go_wp2
      go_roundg k2
      case measure => omega
      case rel => exact ⟨y + 1, n2 + 1, by go_num, by go_num, ⟨by have := HY.out.1; omega, by rw [cntD_snoc id _ y hyt, if_pos HN.out]; have := HY.out.2; omega⟩, ⟨by repeat (first | exact HB.out | apply zA | apply zN | apply zD)⟩⟩
end

end Go.Proofs.YtiopcpkfjikfdaaDoor.PFnExactWalk
