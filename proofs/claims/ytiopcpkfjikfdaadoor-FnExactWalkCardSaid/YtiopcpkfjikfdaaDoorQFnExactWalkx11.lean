/- Written by a program of mine (qprint.py, over the kit's print.py, and texts by hand) for the law FnExactWalk: the functions that it reaches, as Lean functions, and that the program answers as they do. -/
import Derived.Test.YtiopcpkfjikfdaaDoorQFnExactWalkx0
import Derived.Test.YtiopcpkfjikfdaaDoorQFnExactWalkx2
import Derived.Test.YtiopcpkfjikfdaaDoorQFnExactWalkx10
namespace Go.Proofs.YtiopcpkfjikfdaaDoor.PFnExactWalk
open Go.RowKit Go.Proofs.YtiopcpkfjikfdaaDoorW.PrintWords Go.Proofs.YtiopcpkfjikfdaaDoorW.PrintLast Go.Proofs.YtiopcpkfjikfdaaDoorW.PrintMore
attribute [local go_sem] max2_int min2_int max_two min_two max_three min_three max_four min_four   -- for this text's walks alone
set_option linter.unusedVariables false
set_option linter.unusedSimpArgs false

/-! ### spec_l6Cut: function 63 -/
mutual
def spec_l6Cut.l0 : Nat → ByteArray → List ByteArray → Int → Int → Option (List ByteArray)
 | 0, _, _, _, _ => none
 | k + 1, x0, x3, x4, x5 => if x5 ≤ (x0.size : Int) then (if x5 = (x0.size : Int) then (spec_l6Cut.j1 k x0 x3 x4 x5 true) else (if 0 ≤ x5 then (if x5 < (x0.size : Int) then (spec_l6Cut.j1 k x0 x3 x4 x5 ((bt x0 x5) == 47)) else (none)) else (none))) else (some x3)
def spec_l6Cut.j1 : Nat → ByteArray → List ByteArray → Int → Int → Bool → Option (List ByteArray)
 | 0, _, _, _, _, _ => none
 | k + 1, x0, x3, x4, x5, x22 => if x22 = true then (if x5 > x4 then (if 0 ≤ x4 then (if x4 ≤ x5 then (if x5 ≤ (x0.size : Int) then (if x3.length < 8796093022208 then (spec_l6Cut.l0 k x0 (x3 ++ [x0.extract (x4 : Int).toNat (x5 : Int).toNat]) (wrap64 (x5 + 1)) (wrap64 (x5 + 1))) else (none)) else (none)) else (none)) else (none)) else (spec_l6Cut.l0 k x0 x3 (wrap64 (x5 + 1)) (wrap64 (x5 + 1)))) else (spec_l6Cut.l0 k x0 x3 x4 (wrap64 (x5 + 1)))
end
def spec_l6Cut.f (k : Nat) (a0 : ByteArray) : Option (List ByteArray) := spec_l6Cut.l0 k a0 (([] : List ByteArray)) 0 0
theorem spec_l6Cut.mono_l : ∀ k, (∀ y0 y1 y2 y3, LeO (spec_l6Cut.l0 k y0 y1 y2 y3) (spec_l6Cut.l0 (k + 1) y0 y1 y2 y3)) ∧ (∀ y0 y1 y2 y3 y4, LeO (spec_l6Cut.j1 k y0 y1 y2 y3 y4) (spec_l6Cut.j1 (k + 1) y0 y1 y2 y3 y4))
 | 0 => ⟨fun _ _ _ _ r h => by simp [spec_l6Cut.l0] at h, fun _ _ _ _ _ r h => by simp [spec_l6Cut.j1] at h⟩
 | k + 1 => by
  obtain ⟨ih0, ih1⟩ := spec_l6Cut.mono_l k
  refine ⟨?_, ?_⟩
  ·intro y0 y1 y2 y3
   unfold spec_l6Cut.l0
   repeat' first | (with_reducible exact ih0 _ _ _ _) | (with_reducible exact ih1 _ _ _ _ _) | (with_reducible exact LeO.refl _) | (with_reducible exact LeO.none _) | (with_reducible refine LeO.ite ?_ ?_) | (with_reducible refine LeO.bind ?_ (fun _ => ?_)) | exact LeO.none _ | refine LeO.ite ?_ ?_ | refine LeO.bind ?_ (fun _ => ?_)
  ·intro y0 y1 y2 y3 y4
   unfold spec_l6Cut.j1
   repeat' first | (with_reducible exact ih0 _ _ _ _) | (with_reducible exact ih1 _ _ _ _ _) | (with_reducible exact LeO.refl _) | (with_reducible exact LeO.none _) | (with_reducible refine LeO.ite ?_ ?_) | (with_reducible refine LeO.bind ?_ (fun _ => ?_)) | exact LeO.none _ | refine LeO.ite ?_ ?_ | refine LeO.bind ?_ (fun _ => ?_)
theorem spec_l6Cut.mono : ∀ a0 k, LeO (spec_l6Cut.f k a0) (spec_l6Cut.f (k + 1) a0) := by
 intro a0 k
 obtain ⟨ih0, ih1⟩ := spec_l6Cut.mono_l k
 unfold spec_l6Cut.f
 repeat' first | (with_reducible exact ih0 _ _ _ _) | (with_reducible exact ih1 _ _ _ _ _) | (with_reducible exact LeO.refl _) | (with_reducible exact LeO.none _) | (with_reducible refine LeO.ite ?_ ?_) | (with_reducible refine LeO.bind ?_ (fun _ => ?_)) | exact LeO.none _ | refine LeO.ite ?_ ?_ | refine LeO.bind ?_ (fun _ => ?_)
set_option maxHeartbeats 8000000 in
set_option maxRecDepth 100000 in
theorem spec_l6Cut.calls (k : Nat) (a0 : ByteArray) (r : List ByteArray) (w : World) (h : spec_l6Cut.f k a0 = some r) :
  Calls Tryd.prog 63 #[.string a0] w fun e w' => ∃ v0_ : Value, e = .returned (v0_) ∧ Kd.R Kd.string 9 w' w.heap.size (fun _ => True) v0_ r ∧ Below w.heap.size w w' := by
 have HB := zM (Below.refl w.heap.size w)
 have H : (spec_l6Cut.l0 k a0 (([] : List ByteArray)) 0 0) = some r := h
 clear h
 obtain ⟨y162, hy162⟩ : ∃ y_ : List ByteArray, y_ = (([] : List ByteArray)) := ⟨_, rfl⟩
 replace H : (spec_l6Cut.l0 k a0 y162 0 0) = some r := by first | (rw [hy162]; with_reducible exact H) | (have H2_ := (Option.bind_some _ _).symm.trans H; rw [hy162]; with_reducible exact H2_) | (have H2_ := (Option.bind_some _ _).symm.trans H; with_reducible exact H2_) | with_reducible exact H | (rw [hy162]; exact H) | exact H
 have Ny162 := zM hy162
 clear hy162
 have H' := zM H
 clear H
 go_enter Tryd.func63, Tryd.ntmps63
 go_wp2_with (first | ((with_reducible refine gate_dst (N := 6) rfl ?_); refine Kd.R_lit Kd.string _ 9 ?hg (N := 6) ?hd (xs := ([] : List ByteArray)) (inner := []) (ok := fun _ => True) (okp := fun _ => True) ?hr ?hp (fun _ hk => hk) trivial (Below.refl _ _) (Nat.le_refl _) (by simp) ?_; (case hd => rfl); (case hg => rfl); (case hr => first | (go_simp; done) | (go_simp; rfl)); (case hp => exact (Reps.none _ _)); intro v163 w2 ho3 hb hg_ hnew_; clear hg_ hnew_; (first | rw [← Ny162.out] at ho3 | (simp only [Int.reduceToNat] at ho3; rw [← Ny162.out] at ho3)); have n0_ := zM (Kd.R_lower ho3 (zZ (by repeat (first | exact HB.out | apply zA | apply zN | apply zD)))); have n1_ := zM (zP (by repeat (first | exact HB.out | apply zA | apply zN | apply zD)) hb); clear HB; have HO164 := n0_; have HB := n1_; clear n0_ n1_; clear hb ho3))
 go_loopg [3, 4, 5] k (fun kq v3 v4 v5 w' => ∃ (x3_1 : List ByteArray) (x4_1 : Int) (x5_1 : Int), v4 = .int .i64 x4_1 ∧ v5 = .int .i64 x5_1 ∧ Aside0 (spec_l6Cut.l0 kq a0 x3_1 x4_1 x5_1 = some r) ∧ Aside0 (kq ≤ k) ∧ Aside0 (Kd.R Kd.string 9 w' w.heap.size (fun _ => True) v3 x3_1) ∧ Aside0 (Below w.heap.size w w'))
 case atStart => exact ⟨(y162), (0), (0), (by first | rfl | (simp; done) | (simp [*]; done) | (simp; exact zQ _)), (by first | rfl | (simp; done) | (simp [*]; done) | (simp; exact zQ _)), H', ⟨Nat.le_refl _⟩, ⟨by (with_reducible repeat (first | apply Kd.R_alloc | apply Kd.R_drewN | apply Kd.R_drew)); exact HO164.out⟩, ⟨by repeat (first | (with_reducible first | exact HB.out | apply zA | apply zN | apply zD) | exact HB.out)⟩⟩
 case round =>
  clear H'
  try clear p2
  obtain ⟨x3_1, x4_1, x5_1, rfl, rfl, HA, HK1, HO_3, HB⟩ := hrel
  cases gk with
  | zero => exact absurd HA.out (by simp [spec_l6Cut.l0])
  | succ k1 =>
   have H := HA.out
   clear HA
   simp only [spec_l6Cut.l0] at H
   by_cases c4 : x5_1 ≤ (a0.size : Int)
   rotate_left
   ·rw [if_neg c4] at H
    have c4b0 : decide (x5_1 ≤ (a0.size : Int)) = false := zG c4
    clear c4
    obtain rfl := zI H
    go_wp2
    go_ret
    exact ⟨_, by first | rfl | (simp [errW_none, errW_some] <;> rfl) | (simp [*, errW_none, errW_some] <;> rfl), by (with_reducible repeat (first | apply Kd.R_alloc | apply Kd.R_drewN | apply Kd.R_drew)); exact HO_3.out, by repeat (first | (with_reducible first | exact HB.out | apply zA | apply zN | apply zD) | exact HB.out)⟩

   rw [if_pos c4] at H
   have c4b0 : decide (x5_1 ≤ (a0.size : Int)) = true := zE c4
   clear c4
   have HC5 := zM H
   clear H
   go_upto_region 6 with (fail)
   go_cut [22] (fun v22 wc => ∃ (kq : Nat) (x22_4 : Bool), v22 = .bool x22_4 ∧ Aside0 (spec_l6Cut.j1 kq a0 x3_1 x4_1 x5_1 x22_4 = some r) ∧ Aside0 (kq ≤ k1) ∧ Aside0 (Kd.R Kd.string 9 wc w.heap.size (fun _ => True) u3 x3_1) ∧ Aside0 (Below w.heap.size w wc))
   case first =>
    have H := HC5.out
    clear HC5
    by_cases c6 : x5_1 = (a0.size : Int)
    ·rw [if_pos c6] at H
     have c6b0 : (x5_1 == (a0.size : Int)) = true := beq_iff_eq.mpr c6
     have c6b1 : (x5_1 != (a0.size : Int)) = false := bne_eq_false_iff_eq.mpr c6
     clear c6
     (first | rw [c6b0] | (simp only [i64_w, i32_w]; rw [c6b0]) | skip)
     have H' := zM H
     clear H
     go_wp2
     go_meet
     case rel => exact ⟨_, (true), (by first | rfl | (simp; done) | (simp [*]; done) | (simp; exact zQ _)), H', ⟨by have := HK1.out; first | omega | exact Nat.le_refl _⟩, ⟨by (with_reducible repeat (first | apply Kd.R_alloc | apply Kd.R_drewN | apply Kd.R_drew)); exact HO_3.out⟩, ⟨by repeat (first | (with_reducible first | exact HB.out | apply zA | apply zN | apply zD) | exact HB.out)⟩⟩
    rw [if_neg c6] at H
    have c6b0 : (x5_1 == (a0.size : Int)) = false := beq_eq_false_iff_ne.mpr c6
    have c6b1 : (x5_1 != (a0.size : Int)) = true := bne_iff_ne.mpr c6
    (first | rw [c6b0] | (simp only [i64_w, i32_w]; rw [c6b0]) | skip)
    by_cases c7 : 0 ≤ x5_1
    rotate_left
    ·rw [if_neg c7] at H
     exact absurd H (by simp)
    rw [if_pos c7] at H
    have c7b0 : decide (0 ≤ x5_1) = true := zE c7
    clear c7
    by_cases c8 : x5_1 < (a0.size : Int)
    rotate_left
    ·rw [if_neg c8] at H
     exact absurd H (by simp)
    rw [if_pos c8] at H
    have c8b0 : decide (x5_1 < (a0.size : Int)) = true := zE c8
    clear c8
    have H' := zM H
    clear H
    have p9 : 0 ≤ (x5_1 : Int) := zO (by first | (with_reducible assumption) | assumption)
    have q9 : x5_1 < (a0.size : Int) := zO (by first | (with_reducible assumption) | assumption)
    have hx9 := bt_at a0 x5_1
    replace p9 := eq_true p9
    replace q9 := eq_true q9
    go_wp2
    go_meet
    case rel => exact ⟨_, (((bt a0 x5_1) == 47)), (by first | rfl | (simp; done) | (simp [*]; done) | (simp; exact zQ _)), H', ⟨by have := HK1.out; first | omega | exact Nat.le_refl _⟩, ⟨by (with_reducible repeat (first | apply Kd.R_alloc | apply Kd.R_drewN | apply Kd.R_drew)); exact HO_3.out⟩, ⟨by repeat (first | (with_reducible first | exact HB.out | apply zA | apply zN | apply zD) | exact HB.out)⟩⟩
   case rest =>
    clear HC5
    try clear p2
    try clear c4
    try clear c4b0
    try clear c6
    try clear c6b0
    try clear c6b1
    try clear c7
    try clear c7b0
    try clear c8
    try clear c8b0
    try clear p9
    try clear q9
    try clear hx9
    try clear p2
    try clear p9
    try clear q9
    obtain ⟨kq, x22_4, rfl, HA, HJ4, HO_3, HB⟩ := hcut
    cases kq with
    | zero => exact absurd HA.out (by simp [spec_l6Cut.j1])
    | succ kj4 =>
     have H := HA.out
     clear HA
     simp only [spec_l6Cut.j1] at H
     by_cases c10 : x22_4 = true
     rotate_left
     ·replace c10 := Bool.eq_false_iff.mpr c10
      subst c10
      have H1 : (spec_l6Cut.l0 kj4 a0 x3_1 x4_1 (wrap64 (x5_1 + 1))) = some r := by rw [if_neg (show ¬ (false = true) by decide)] at H; exact H
      clear H
      have H := H1
      clear H1
      have H' := zM H
      clear H
      go_wp2
      go_roundg kj4
      case measure => have := HK1.out; have := HJ4.out; omega
      case rel => exact ⟨(x3_1), (x4_1), (wrap64 (x5_1 + 1)), (by first | rfl | (simp; done) | (simp [*]; done) | (simp; exact zQ _)), (by first | rfl | (simp; done) | (simp [*]; done) | (simp; exact zQ _)), H', ⟨by have := HK1.out; have := HJ4.out; omega⟩, ⟨by (with_reducible repeat (first | apply Kd.R_alloc | apply Kd.R_drewN | apply Kd.R_drew)); exact HO_3.out⟩, ⟨by repeat (first | (with_reducible first | exact HB.out | apply zA | apply zN | apply zD) | exact HB.out)⟩⟩
     subst c10
     have H1 : (if x5_1 > x4_1 then (if 0 ≤ x4_1 then (if x4_1 ≤ x5_1 then (if x5_1 ≤ (a0.size : Int) then (if x3_1.length < 8796093022208 then (spec_l6Cut.l0 kj4 a0 (x3_1 ++ [a0.extract (x4_1 : Int).toNat (x5_1 : Int).toNat]) (wrap64 (x5_1 + 1)) (wrap64 (x5_1 + 1))) else (none)) else (none)) else (none)) else (none)) else (spec_l6Cut.l0 kj4 a0 x3_1 (wrap64 (x5_1 + 1)) (wrap64 (x5_1 + 1)))) = some r := by rw [if_pos rfl] at H; exact H
     clear H
     have H := H1
     clear H1
     by_cases c11 : x5_1 > x4_1
     rotate_left
     ·rw [if_neg c11] at H
      have c11b0 : decide (x4_1 < x5_1) = false := zG c11
      clear c11
      have H' := zM H
      clear H
      go_wp2
      go_roundg kj4
      case measure => have := HK1.out; have := HJ4.out; omega
      case rel => exact ⟨(x3_1), (wrap64 (x5_1 + 1)), (wrap64 (x5_1 + 1)), (by first | rfl | (simp; done) | (simp [*]; done) | (simp; exact zQ _)), (by first | rfl | (simp; done) | (simp [*]; done) | (simp; exact zQ _)), H', ⟨by have := HK1.out; have := HJ4.out; omega⟩, ⟨by (with_reducible repeat (first | apply Kd.R_alloc | apply Kd.R_drewN | apply Kd.R_drew)); exact HO_3.out⟩, ⟨by repeat (first | (with_reducible first | exact HB.out | apply zA | apply zN | apply zD) | exact HB.out)⟩⟩
     rw [if_pos c11] at H
     have c11b0 : decide (x4_1 < x5_1) = true := zE c11
     clear c11
     by_cases c12 : 0 ≤ x4_1
     rotate_left
     ·rw [if_neg c12] at H
      exact absurd H (by simp)
     rw [if_pos c12] at H
     have c12b0 := eq_true c12
     have c12b1 : decide (0 ≤ x4_1) = true := zE c12
     clear c12
     by_cases c13 : x4_1 ≤ x5_1
     rotate_left
     ·rw [if_neg c13] at H
      exact absurd H (by simp)
     rw [if_pos c13] at H
     have c13b0 := eq_true c13
     have c13b1 : decide (x4_1 ≤ x5_1) = true := zE c13
     clear c13
     by_cases c14 : x5_1 ≤ (a0.size : Int)
     rotate_left
     ·rw [if_neg c14] at H
      exact absurd H (by simp)
     rw [if_pos c14] at H
     have c14b0 := eq_true c14
     have c14b1 : decide (x5_1 ≤ (a0.size : Int)) = true := zE c14
     clear c14
     by_cases c15 : x3_1.length < 8796093022208
     rotate_left
     ·rw [if_neg c15] at H
      exact absurd H (by simp)
     rw [if_pos c15] at H
     have LMc15 := zM c15
     clear c15
     obtain ⟨y165, hy165⟩ : ∃ y_ : List ByteArray, y_ = (x3_1 ++ [a0.extract (x4_1 : Int).toNat (x5_1 : Int).toNat]) := ⟨_, rfl⟩
     replace H : (spec_l6Cut.l0 kj4 a0 y165 (wrap64 (x5_1 + 1)) (wrap64 (x5_1 + 1))) = some r := by first | (rw [hy165]; with_reducible exact H) | (have H2_ := (Option.bind_some _ _).symm.trans H; rw [hy165]; with_reducible exact H2_) | (have H2_ := (Option.bind_some _ _).symm.trans H; with_reducible exact H2_) | with_reducible exact H | (rw [hy165]; exact H) | exact H
     have Ny165 := zM hy165
     clear hy165
     have H' := zM H
     clear H
     go_wp2_with (first | ((with_reducible refine gate_builtin (b := .append) (xs := #[.tmp 26, .tmp 31]) rfl ?_); at_builtin; refine Kd.R_append Kd.string (w0 := w) w.heap.size rfl (.tmp 26) (.tmp 31) 29 9 (.string ⟨#[]⟩) 16 rfl Tryd.underlying29 info9 rfl (by decide) (by omega) u3 x3_1 (a0.extract (x4_1 : Int).toNat (x5_1 : Int).toNat) [.string (a0.extract (x4_1 : Int).toNat (x5_1 : Int).toNat)] (fun _ => True) (fun _ => False) rfl rfl ?aP (fun _ hk => hk.elim) ?aF ?aO ?aB ?aS ?aL ?_; (case aP => exact rfl); (case aB => exact (by repeat (first | exact HB.out | apply zA | apply zN | apply zD))); (case aF => exact (fun _ _ => trivial)); (case aO => exact (by (with_reducible repeat (first | apply Kd.R_alloc | apply Kd.R_drewN | apply Kd.R_drew)); exact HO_3.out)); (case aS => exact (zZ (by repeat (first | exact HB.out | apply zA | apply zN | apply zD)))); (case aL => have := LMc15.out; omega); intro v166 w16 ho hb hg hat; rw [← Ny165.out] at ho; have n0_ := zM (hb); have n1_ := zM (ho); clear HB; clear HO_3; have HB := n0_; have HO167 := n1_; clear n0_ n1_; clear ho hb hg hat))
     go_roundg kj4
     case measure => have := HK1.out; have := HJ4.out; omega
     case rel => exact ⟨(y165), (wrap64 (x5_1 + 1)), (wrap64 (x5_1 + 1)), (by first | rfl | (simp; done) | (simp [*]; done) | (simp; exact zQ _)), (by first | rfl | (simp; done) | (simp [*]; done) | (simp; exact zQ _)), H', ⟨by have := HK1.out; have := HJ4.out; omega⟩, ⟨by (with_reducible repeat (first | apply Kd.R_alloc | apply Kd.R_drewN | apply Kd.R_drew)); exact HO167.out⟩, ⟨by repeat (first | (with_reducible first | exact HB.out | apply zA | apply zN | apply zD) | exact HB.out)⟩⟩
/-! ### spec_In: function 93 -/
def spec_In.l0 : Nat → Int → Bool → Int → Int → Int → List Int → Option (Bool)
 | 0, _, _, _, _, _, _ => none
 | k + 1, x1, x5, x6, x169000, x169001, x169002 => if x6 < (x169002.length : Int) then (if x5 = true then (spec_In.l0 k x1 true (wrap64 (x6 + 1)) x169000 x169001 x169002) else (if 0 ≤ x6 then (spec_In.l0 k x1 ((rd x169002 x6) == x1) (wrap64 (x6 + 1)) x169000 x169001 x169002) else (none))) else (some x5)
def spec_In.f (k : Nat) (a0_0 : Int) (a0_1 : Int) (l0_2 : List Int) (a1 : Int) : Option (Bool) := (spec_CredOk.f k a0_0 a0_1 l0_2).bind fun t169 => (if t169 = true then (spec_In.l0 k a1 (a0_1 == a1) 0 a0_0 a0_1 l0_2) else (some false))
theorem spec_In.mono_l : ∀ k, (∀ y0 y1 y2 y3 y4 y5, LeO (spec_In.l0 k y0 y1 y2 y3 y4 y5) (spec_In.l0 (k + 1) y0 y1 y2 y3 y4 y5))
 | 0 => fun _ _ _ _ _ _ r h => by simp [spec_In.l0] at h
 | k + 1 => by
  have ih0 := spec_In.mono_l k
  ·intro y0 y1 y2 y3 y4 y5
   unfold spec_In.l0
   repeat' first | (with_reducible exact ih0 _ _ _ _ _ _) | (with_reducible exact spec_CredOk.mono _ _ _ _) | (with_reducible exact LeO.refl _) | (with_reducible exact LeO.none _) | (with_reducible refine LeO.ite ?_ ?_) | (with_reducible refine LeO.bind ?_ (fun _ => ?_)) | exact LeO.none _ | refine LeO.ite ?_ ?_ | refine LeO.bind ?_ (fun _ => ?_)
theorem spec_In.mono : ∀ a0 a1 a2 a3 k, LeO (spec_In.f k a0 a1 a2 a3) (spec_In.f (k + 1) a0 a1 a2 a3) := by
 intro a0 a1 a2 a3 k
 have ih0 := spec_In.mono_l k
 unfold spec_In.f
 repeat' first | (with_reducible exact ih0 _ _ _ _ _ _) | (with_reducible exact spec_CredOk.mono _ _ _ _) | (with_reducible exact LeO.refl _) | (with_reducible exact LeO.none _) | (with_reducible refine LeO.ite ?_ ?_) | (with_reducible refine LeO.bind ?_ (fun _ => ?_)) | exact LeO.none _ | refine LeO.ite ?_ ?_ | refine LeO.bind ?_ (fun _ => ?_)
set_option maxHeartbeats 8000000 in
set_option maxRecDepth 100000 in
theorem spec_In.calls (k : Nat) (a0_0 : Int) (a0_1 : Int) (A0_2 : Option Addr) (c0_2 : Nat) (l0_2 : List Int) (a1 : Int) (r : Bool) (w : World) (hr0_2 : Kd.C (Kd.int .i64) w A0_2 l0_2.length l0_2) (hc0_2 : l0_2.length ≤ c0_2) (h : spec_In.f k a0_0 a0_1 l0_2 a1 = some r) :
  Calls Tryd.prog 93 #[.agg #[.int .i64 a0_0, .int .i64 a0_1, .slice A0_2 l0_2.length c0_2], .int .i64 a1] w fun e w' => e = .returned (.bool r) ∧ Below w.heap.size w w' := by
 have hu47 := Tryd.underlying47
 have HR0_2 := zM hr0_2
 have HC0_2 := zM hc0_2
 clear hr0_2 hc0_2
 have HB := zM (Below.refl w.heap.size w)
 have H : ((spec_CredOk.f k a0_0 a0_1 l0_2).bind fun t169 => (if t169 = true then (spec_In.l0 k a1 (a0_1 == a1) 0 a0_0 a0_1 l0_2) else (some false))) = some r := h
 clear h
 replace H := Option.bind_eq_some_iff.mp H
 obtain ⟨t169, A30, H⟩ := H
 replace H : (if t169 = true then (spec_In.l0 k a1 (a0_1 == a1) 0 a0_0 a0_1 l0_2) else (some false)) = some r := H
 have A3 := zM A30
 clear A30
 by_cases c4 : t169 = true
 rotate_left
 ·replace c4 := Bool.eq_false_iff.mpr c4
  subst c4
  have H1 : (some false) = some r := by rw [if_neg (show ¬ (false = true) by decide)] at H; exact H
  clear H
  have H := H1
  clear H1
  obtain rfl := zI H
  go_enter Tryd.func93, Tryd.ntmps93
  go_wp2_with (first | ((with_reducible refine gate_dst (N := 2) rfl ?_); refine box_event ?hg (N := 2) ?hd (cs := #[.int .i64 a0_0, .int .i64 a0_1, .slice A0_2 l0_2.length c0_2]) (t := 47) ?hr ?_; (case hd => rfl); (case hg => rfl); (case hr => first | (go_simp; done) | (go_simp; rfl)); intro gb168 hg w15 hbox hb; have n0_ := zM (zP (by repeat (first | exact HB.out | apply zA | apply zN | apply zD)) hb); have n1_ := zM (hbox); have n2_ := zM ((by rw [hg]; exact (zZ (by repeat (first | exact HB.out | apply zA | apply zN | apply zD))) : w.heap.size ≤ gb168)); have n3_ := zM ((by rw [hg]; exact (zZ (by repeat (first | exact HB.out | apply zA | apply zN | apply zD))) : w.heap.size ≤ gb168)); clear HB; have HB := n0_; have BK168 := n1_; have GW168 := n2_; have GE168 := n3_; clear n0_ n1_ n2_ n3_; clear hb hbox hg; have hcz16_0 : w15.cell? ⟨gb168, 0, none⟩ = some (.int .i64 a0_0) := (zC BK168.out 0).trans rfl; have hcz16_1 : w15.cell? ⟨gb168, 1, none⟩ = some (.int .i64 a0_1) := (zC BK168.out 1).trans rfl; have hcz16_2 : w15.cell? ⟨gb168, 2, none⟩ = some (.slice A0_2 l0_2.length c0_2) := (zC BK168.out 2).trans rfl; have hfz16_0 := zF BK168.out 0; have hfz16_1 := zF BK168.out 1; have hfz16_2 := zF BK168.out 2) | ((with_reducible refine gate_callee (f := 40) rfl ?_); refine goesL_ (some 8) rfl rfl Tryd.func40 (by kernel_rfl) rfl #[.agg #[.int .i64 a0_0, .int .i64 a0_1, .slice A0_2 l0_2.length c0_2]] rfl (by (try simp only [List.map_toArray, List.map_cons, List.map_nil]); first | done | rfl | (simp only [List.length_drop, List.length_take]; rfl)) ?_; (with_reducible refine (spec_CredOk.calls k a0_0 a0_1 _ _ l0_2 false _ ?side1 ?side2 A3.out).mono ?_); (case side1 => repeat (first | exact (Kd.C_below HR0_2.out HB.out) | (with_reducible refine Kd.C_alloc ?_ _) | (with_reducible refine Kd.C_drewN ?_ _) | (with_reducible refine Kd.C_drew ?_))); (case side2 => exact HC0_2.out); rintro e w17 ⟨rfl, hb⟩; refine ⟨_, rfl, ?_⟩; have n0_ := zM (zL (g := gb168) (o := .cells #[.int .i64 a0_0, .int .i64 a0_1, .slice A0_2 l0_2.length c0_2] 47 (0, 0)) (by (with_reducible repeat (first | refine zK ?_ _ | refine zW ?_ | refine zB ?_ _)); exact BK168.out) hb); have n1_ := zM (zP (by repeat (first | exact HB.out | apply zA | apply zN | apply zD | refine zS ?_ GE168.out)) hb); clear BK168; clear HB; have BK168 := n0_; have HB := n1_; clear n0_ n1_; (try clear hb); (try clear hb2); (try clear hk); (try clear hi)))
  go_ret
  exact ⟨by first | rfl | (simp [errW_none, errW_some] <;> rfl) | (simp [*, errW_none, errW_some] <;> rfl), by repeat (first | (with_reducible first | exact HB.out | apply zA | apply zN | apply zD | refine zS ?_ GE168.out) | exact HB.out)⟩

 subst c4
 have H1 : (spec_In.l0 k a1 (a0_1 == a1) 0 a0_0 a0_1 l0_2) = some r := by rw [if_pos rfl] at H; exact H
 clear H
 have H := H1
 clear H1
 have H' := zM H
 clear H
 go_enter Tryd.func93, Tryd.ntmps93
 go_wp2_with (first | ((with_reducible refine gate_dst (N := 2) rfl ?_); refine box_event ?hg (N := 2) ?hd (cs := #[.int .i64 a0_0, .int .i64 a0_1, .slice A0_2 l0_2.length c0_2]) (t := 47) ?hr ?_; (case hd => rfl); (case hg => rfl); (case hr => first | (go_simp; done) | (go_simp; rfl)); intro gb168 hg w5 hbox hb; have n0_ := zM (zP (by repeat (first | exact HB.out | apply zA | apply zN | apply zD)) hb); have n1_ := zM (hbox); have n2_ := zM ((by rw [hg]; exact (zZ (by repeat (first | exact HB.out | apply zA | apply zN | apply zD))) : w.heap.size ≤ gb168)); have n3_ := zM ((by rw [hg]; exact (zZ (by repeat (first | exact HB.out | apply zA | apply zN | apply zD))) : w.heap.size ≤ gb168)); clear HB; have HB := n0_; have BK168 := n1_; have GW168 := n2_; have GE168 := n3_; clear n0_ n1_ n2_ n3_; clear hb hbox hg; have hcz6_0 : w5.cell? ⟨gb168, 0, none⟩ = some (.int .i64 a0_0) := (zC BK168.out 0).trans rfl; have hcz6_1 : w5.cell? ⟨gb168, 1, none⟩ = some (.int .i64 a0_1) := (zC BK168.out 1).trans rfl; have hcz6_2 : w5.cell? ⟨gb168, 2, none⟩ = some (.slice A0_2 l0_2.length c0_2) := (zC BK168.out 2).trans rfl; have hfz6_0 := zF BK168.out 0; have hfz6_1 := zF BK168.out 1; have hfz6_2 := zF BK168.out 2) | ((with_reducible refine gate_callee (f := 40) rfl ?_); refine goesL_ (some 8) rfl rfl Tryd.func40 (by kernel_rfl) rfl #[.agg #[.int .i64 a0_0, .int .i64 a0_1, .slice A0_2 l0_2.length c0_2]] rfl (by (try simp only [List.map_toArray, List.map_cons, List.map_nil]); first | done | rfl | (simp only [List.length_drop, List.length_take]; rfl)) ?_; (with_reducible refine (spec_CredOk.calls k a0_0 a0_1 _ _ l0_2 true _ ?side1 ?side2 A3.out).mono ?_); (case side1 => repeat (first | exact (Kd.C_below HR0_2.out HB.out) | (with_reducible refine Kd.C_alloc ?_ _) | (with_reducible refine Kd.C_drewN ?_ _) | (with_reducible refine Kd.C_drew ?_))); (case side2 => exact HC0_2.out); rintro e w7 ⟨rfl, hb⟩; refine ⟨_, rfl, ?_⟩; have n0_ := zM (zL (g := gb168) (o := .cells #[.int .i64 a0_0, .int .i64 a0_1, .slice A0_2 l0_2.length c0_2] 47 (0, 0)) (by (with_reducible repeat (first | refine zK ?_ _ | refine zW ?_ | refine zB ?_ _)); exact BK168.out) hb); have n1_ := zM (zP (by repeat (first | exact HB.out | apply zA | apply zN | apply zD | refine zS ?_ GE168.out)) hb); clear BK168; clear HB; have BK168 := n0_; have HB := n1_; clear n0_ n1_; (try clear hb); (try clear hb2); (try clear hk); (try clear hi); have hcz8_0 : w7.cell? ⟨gb168, 0, none⟩ = some (.int .i64 a0_0) := (zC BK168.out 0).trans rfl; have hcz8_1 : w7.cell? ⟨gb168, 1, none⟩ = some (.int .i64 a0_1) := (zC BK168.out 1).trans rfl; have hcz8_2 : w7.cell? ⟨gb168, 2, none⟩ = some (.slice A0_2 l0_2.length c0_2) := (zC BK168.out 2).trans rfl; have hfz8_0 := zF BK168.out 0; have hfz8_1 := zF BK168.out 1; have hfz8_2 := zF BK168.out 2))
 go_loopg [5, 6] k (fun kq v5 v6 w' => ∃ (x5_1 : Bool) (x6_1 : Int), v5 = .bool x5_1 ∧ v6 = .int .i64 x6_1 ∧ Aside0 (spec_In.l0 kq a1 x5_1 x6_1 a0_0 a0_1 l0_2 = some r) ∧ Aside0 (kq ≤ k) ∧ Aside0 (w'.heap[gb168]? = some (.cells #[.int .i64 a0_0, .int .i64 a0_1, (.slice A0_2 l0_2.length c0_2)] 47 (0, 0))) ∧ Aside0 (Below w.heap.size w w'))
 case atStart => exact ⟨((a0_1 == a1)), (0), (by first | rfl | (simp; done) | (simp [*]; done) | (simp; exact zQ _)), (by first | rfl | (simp; done) | (simp [*]; done) | (simp; exact zQ _)), H', ⟨Nat.le_refl _⟩, ⟨by (with_reducible repeat (first | refine zK ?_ _ | refine zW ?_ | refine zB ?_ _)); exact BK168.out⟩, ⟨by repeat (first | (with_reducible first | exact HB.out | apply zA | apply zN | apply zD | refine zS ?_ GE168.out) | exact HB.out)⟩⟩
 case round =>
  clear H'
  try clear p2
  try clear c4
  try clear hcz6_0
  try clear hcz6_1
  try clear hcz6_2
  try clear hcz8_0
  try clear hcz8_1
  try clear hcz8_2
  try clear hfz6_0
  try clear hfz6_1
  try clear hfz6_2
  try clear hfz8_0
  try clear hfz8_1
  try clear hfz8_2
  obtain ⟨x5_1, x6_1, rfl, rfl, HA, HK1, BK168, HB⟩ := hrel
  cases gk with
  | zero => exact absurd HA.out (by simp [spec_In.l0])
  | succ k1 =>
   have H := HA.out
   clear HA
   simp only [spec_In.l0] at H
   by_cases c9 : x6_1 < (l0_2.length : Int)
   rotate_left
   ·rw [if_neg c9] at H
    have c9b0 : decide (x6_1 < (l0_2.length : Int)) = false := zG c9
    clear c9
    obtain rfl := zI H
    have hcz14_0 : wr.cell? ⟨gb168, 0, none⟩ = some (.int .i64 a0_0) := (zC BK168.out 0).trans rfl
    have hcz14_1 : wr.cell? ⟨gb168, 1, none⟩ = some (.int .i64 a0_1) := (zC BK168.out 1).trans rfl
    have hcz14_2 : wr.cell? ⟨gb168, 2, none⟩ = some (.slice A0_2 l0_2.length c0_2) := (zC BK168.out 2).trans rfl
    have hfz14_0 := zF BK168.out 0
    have hfz14_1 := zF BK168.out 1
    have hfz14_2 := zF BK168.out 2
    go_wp2
    go_ret
    exact ⟨by first | rfl | (simp [errW_none, errW_some] <;> rfl) | (simp [*, errW_none, errW_some] <;> rfl), by repeat (first | (with_reducible first | exact HB.out | apply zA | apply zN | apply zD | refine zS ?_ GE168.out) | exact HB.out)⟩
   rw [if_pos c9] at H
   have c9b0 : decide (x6_1 < (l0_2.length : Int)) = true := zE c9
   clear c9
   by_cases c10 : x5_1 = true
   ·subst c10
    have H1 : (spec_In.l0 k1 a1 true (wrap64 (x6_1 + 1)) a0_0 a0_1 l0_2) = some r := by rw [if_pos rfl] at H; exact H
    clear H
    have H := H1
    clear H1
    have H' := zM H
    clear H
    have hcz11_0 : wr.cell? ⟨gb168, 0, none⟩ = some (.int .i64 a0_0) := (zC BK168.out 0).trans rfl
    have hcz11_1 : wr.cell? ⟨gb168, 1, none⟩ = some (.int .i64 a0_1) := (zC BK168.out 1).trans rfl
    have hcz11_2 : wr.cell? ⟨gb168, 2, none⟩ = some (.slice A0_2 l0_2.length c0_2) := (zC BK168.out 2).trans rfl
    have hfz11_0 := zF BK168.out 0
    have hfz11_1 := zF BK168.out 1
    have hfz11_2 := zF BK168.out 2
    go_wp2
    go_roundg k1
    case measure => have := HK1.out; omega
    case rel => exact ⟨(true), (wrap64 (x6_1 + 1)), (by first | rfl | (simp; done) | (simp [*]; done) | (simp; exact zQ _)), (by first | rfl | (simp; done) | (simp [*]; done) | (simp; exact zQ _)), H', ⟨by have := HK1.out; omega⟩, ⟨by (with_reducible repeat (first | refine zK ?_ _ | refine zW ?_ | refine zB ?_ _)); exact BK168.out⟩, ⟨by repeat (first | (with_reducible first | exact HB.out | apply zA | apply zN | apply zD | refine zS ?_ GE168.out) | exact HB.out)⟩⟩
   replace c10 := Bool.eq_false_iff.mpr c10
   subst c10
   have H1 : (if 0 ≤ x6_1 then (spec_In.l0 k1 a1 ((rd l0_2 x6_1) == a1) (wrap64 (x6_1 + 1)) a0_0 a0_1 l0_2) else (none)) = some r := by rw [if_neg (show ¬ (false = true) by decide)] at H; exact H
   clear H
   have H := H1
   clear H1
   by_cases c12 : 0 ≤ x6_1
   rotate_left
   ·rw [if_neg c12] at H
    exact absurd H (by simp)
   rw [if_pos c12] at H
   have c12b0 : decide (0 ≤ x6_1) = true := zE c12
   clear c12
   have H' := zM H
   clear H
   have hcz13_0 : wr.cell? ⟨gb168, 0, none⟩ = some (.int .i64 a0_0) := (zC BK168.out 0).trans rfl
   have hcz13_1 : wr.cell? ⟨gb168, 1, none⟩ = some (.int .i64 a0_1) := (zC BK168.out 1).trans rfl
   have hcz13_2 : wr.cell? ⟨gb168, 2, none⟩ = some (.slice A0_2 l0_2.length c0_2) := (zC BK168.out 2).trans rfl
   have hfz13_0 := zF BK168.out 0
   have hfz13_1 := zF BK168.out 1
   have hfz13_2 := zF BK168.out 2
   have p170 : 0 ≤ (x6_1 : Int) := zO (by first | (with_reducible assumption) | assumption)
   have q170 : x6_1 < (l0_2.length : Int) := zO (by first | (with_reducible assumption) | assumption)
   obtain ⟨ad170, e170, hx170_0⟩ := Kd.at_int HR0_2.out x6_1 p170 q170
   cases e170
   replace hx170_0 := (HB.out.cell (zT w _ hx170_0)).trans hx170_0
   replace p170 := eq_true p170
   replace q170 := eq_true q170
   go_wp2
   go_roundg k1
   case measure => have := HK1.out; omega
   case rel => exact ⟨(((rd l0_2 x6_1) == a1)), (wrap64 (x6_1 + 1)), (by first | rfl | (simp; done) | (simp [*]; done) | (simp; exact zQ _)), (by first | rfl | (simp; done) | (simp [*]; done) | (simp; exact zQ _)), H', ⟨by have := HK1.out; omega⟩, ⟨by (with_reducible repeat (first | refine zK ?_ _ | refine zW ?_ | refine zB ?_ _)); exact BK168.out⟩, ⟨by repeat (first | (with_reducible first | exact HB.out | apply zA | apply zN | apply zD | refine zS ?_ GE168.out) | exact HB.out)⟩⟩
/-! ### spec_May: function 64 -/
def spec_May.j0 : Nat → Int → Bool → Int → Int → List Int → Int → Int → Int → Int → Int → ByteArray → List (S117) → Int → Int → Option (Bool)
 | 0, _, _, _, _, _, _, _, _, _, _, _, _, _, _ => none
 | k + 1, x2, x15, x172000, x172001, x172002, x173000, x173001, x173002, x173003, x173004, x173005, x173006, x173007, x173008 => if x15 = true then (some false) else (if x172000 = 0 then (if (Go.bits .and .i64 x2 1) = 0 then (some true) else (if x173001 = 1 then (some ((Go.bits .and .i64 x173002 73) != 0)) else (some true))) else ((spec_In.f k x172000 x172001 x172002 x173004).bind fun t175 => (if t175 = true then (if x172000 = x173003 then (some ((Go.bits .and .i64 (Go.bits .and .i64 (x173002 / 64) 7) x2) == x2)) else (some ((Go.bits .and .i64 (Go.bits .and .i64 (x173002 / 8) 7) x2) == x2))) else (if x172000 = x173003 then (some ((Go.bits .and .i64 (Go.bits .and .i64 (x173002 / 64) 7) x2) == x2)) else (some ((Go.bits .and .i64 (Go.bits .and .i64 x173002 7) x2) == x2))))))
def spec_May.f (k : Nat) (a0_0 : Int) (a0_1 : Int) (l0_2 : List Int) (a1_0 : Int) (a1_1 : Int) (a1_2 : Int) (a1_3 : Int) (a1_4 : Int) (a1_5 : ByteArray) (l1_6 : List (S117)) (a1_7 : Int) (a1_8 : Int) (a2 : Int) : Option (Bool) := (spec_CredOk.f k a0_0 a0_1 l0_2).bind fun t173 => (if t173 = true then ((spec_l1In.f a2 0 7).bind fun t174 => (spec_May.j0 k a2 (!t174) a0_0 a0_1 l0_2 a1_0 a1_1 a1_2 a1_3 a1_4 a1_5 l1_6 a1_7 a1_8)) else (spec_May.j0 k a2 true a0_0 a0_1 l0_2 a1_0 a1_1 a1_2 a1_3 a1_4 a1_5 l1_6 a1_7 a1_8))
theorem spec_May.mono_l : ∀ k, (∀ y0 y1 y2 y3 y4 y5 y6 y7 y8 y9 y10 y11 y12 y13, LeO (spec_May.j0 k y0 y1 y2 y3 y4 y5 y6 y7 y8 y9 y10 y11 y12 y13) (spec_May.j0 (k + 1) y0 y1 y2 y3 y4 y5 y6 y7 y8 y9 y10 y11 y12 y13))
 | 0 => fun _ _ _ _ _ _ _ _ _ _ _ _ _ _ r h => by simp [spec_May.j0] at h
 | k + 1 => by
  have ih0 := spec_May.mono_l k
  ·intro y0 y1 y2 y3 y4 y5 y6 y7 y8 y9 y10 y11 y12 y13
   unfold spec_May.j0
   repeat' first | (with_reducible exact ih0 _ _ _ _ _ _ _ _ _ _ _ _ _ _) | (with_reducible exact spec_CredOk.mono _ _ _ _) | (with_reducible exact spec_In.mono _ _ _ _ _) | (with_reducible exact LeO.refl _) | (with_reducible exact LeO.none _) | (with_reducible refine LeO.ite ?_ ?_) | (with_reducible refine LeO.bind ?_ (fun _ => ?_)) | exact LeO.none _ | refine LeO.ite ?_ ?_ | refine LeO.bind ?_ (fun _ => ?_)
theorem spec_May.mono : ∀ a0 a1 a2 a3 a4 a5 a6 a7 a8 a9 a10 a11 a12 k, LeO (spec_May.f k a0 a1 a2 a3 a4 a5 a6 a7 a8 a9 a10 a11 a12) (spec_May.f (k + 1) a0 a1 a2 a3 a4 a5 a6 a7 a8 a9 a10 a11 a12) := by
 intro a0 a1 a2 a3 a4 a5 a6 a7 a8 a9 a10 a11 a12 k
 have ih0 := spec_May.mono_l k
 unfold spec_May.f
 repeat' first | (with_reducible exact ih0 _ _ _ _ _ _ _ _ _ _ _ _ _ _) | (with_reducible exact spec_CredOk.mono _ _ _ _) | (with_reducible exact spec_In.mono _ _ _ _ _) | (with_reducible exact LeO.refl _) | (with_reducible exact LeO.none _) | (with_reducible refine LeO.ite ?_ ?_) | (with_reducible refine LeO.bind ?_ (fun _ => ?_)) | exact LeO.none _ | refine LeO.ite ?_ ?_ | refine LeO.bind ?_ (fun _ => ?_)
set_option maxHeartbeats 8000000 in
set_option maxRecDepth 100000 in
theorem spec_May.calls (k : Nat) (a0_0 : Int) (a0_1 : Int) (A0_2 : Option Addr) (c0_2 : Nat) (l0_2 : List Int) (a1_0 : Int) (a1_1 : Int) (a1_2 : Int) (a1_3 : Int) (a1_4 : Int) (a1_5 : ByteArray) (A1_6 : Option Addr) (c1_6 : Nat) (l1_6 : List (S117)) (a1_7 : Int) (a1_8 : Int) (a2 : Int) (r : Bool) (w : World) (hr0_2 : Kd.C (Kd.int .i64) w A0_2 l0_2.length l0_2) (hc0_2 : l0_2.length ≤ c0_2) (hr1_6 : Kd.C k117 w A1_6 l1_6.length l1_6) (hc1_6 : l1_6.length ≤ c1_6) (h : spec_May.f k a0_0 a0_1 l0_2 a1_0 a1_1 a1_2 a1_3 a1_4 a1_5 l1_6 a1_7 a1_8 a2 = some r) :
  Calls Tryd.prog 64 #[.agg #[.int .i64 a0_0, .int .i64 a0_1, .slice A0_2 l0_2.length c0_2], .agg #[.int .i64 a1_0, .int .i64 a1_1, .int .i64 a1_2, .int .i64 a1_3, .int .i64 a1_4, .string a1_5, .slice A1_6 l1_6.length c1_6, .int .i64 a1_7, .int .i64 a1_8], .int .i64 a2] w fun e w' => e = .returned (.bool r) ∧ Below w.heap.size w w' := by
 have hu47 := Tryd.underlying47
 have hu90 := Tryd.underlying90
 have HR0_2 := zM hr0_2
 have HC0_2 := zM hc0_2
 clear hr0_2 hc0_2
 have HR1_6 := zM hr1_6
 have HC1_6 := zM hc1_6
 clear hr1_6 hc1_6
 have HB := zM (Below.refl w.heap.size w)
 have H : ((spec_CredOk.f k a0_0 a0_1 l0_2).bind fun t173 => (if t173 = true then ((spec_l1In.f a2 0 7).bind fun t174 => (spec_May.j0 k a2 (!t174) a0_0 a0_1 l0_2 a1_0 a1_1 a1_2 a1_3 a1_4 a1_5 l1_6 a1_7 a1_8)) else (spec_May.j0 k a2 true a0_0 a0_1 l0_2 a1_0 a1_1 a1_2 a1_3 a1_4 a1_5 l1_6 a1_7 a1_8))) = some r := h
 clear h
 have HC4 := zM H
 clear H
 go_enter Tryd.func64, Tryd.ntmps64
 go_upto_region 1 with (first | ((with_reducible refine gate_dst (N := 3) rfl ?_); refine box_event ?hg (N := 3) ?hd (cs := #[.int .i64 a0_0, .int .i64 a0_1, .slice A0_2 l0_2.length c0_2]) (t := 47) ?hr ?_; (case hd => rfl); (case hg => rfl); (case hr => first | (go_simp; done) | (go_simp; rfl)); intro gb171 hg w5 hbox hb; have n0_ := zM (zP (by repeat (first | exact HB.out | apply zA | apply zN | apply zD)) hb); have n1_ := zM (hbox); have n2_ := zM ((by rw [hg]; exact (zZ (by repeat (first | exact HB.out | apply zA | apply zN | apply zD))) : w.heap.size ≤ gb171)); have n3_ := zM ((by rw [hg]; exact (zZ (by repeat (first | exact HB.out | apply zA | apply zN | apply zD))) : w.heap.size ≤ gb171)); clear HB; have HB := n0_; have BK171 := n1_; have GW171 := n2_; have GE171 := n3_; clear n0_ n1_ n2_ n3_; clear hb hbox hg) | ((with_reducible refine gate_dst (N := 4) rfl ?_); refine box_event ?hg (N := 4) ?hd (cs := #[.int .i64 a1_0, .int .i64 a1_1, .int .i64 a1_2, .int .i64 a1_3, .int .i64 a1_4, .string a1_5, .slice A1_6 l1_6.length c1_6, .int .i64 a1_7, .int .i64 a1_8]) (t := 90) ?hr ?_; (case hd => rfl); (case hg => rfl); (case hr => first | (go_simp; done) | (go_simp; rfl)); intro gb172 hg w6 hbox hb; have n0_ := zM (zL (g := gb171) (o := .cells #[.int .i64 a0_0, .int .i64 a0_1, .slice A0_2 l0_2.length c0_2] 47 (0, 0)) (by (with_reducible repeat (first | refine zK ?_ _ | refine zW ?_ | refine zB ?_ _)); exact BK171.out) hb); have n1_ := zM (zP (by repeat (first | exact HB.out | apply zA | apply zN | apply zD | refine zS ?_ GE171.out)) hb); have n2_ := zM (hbox); have n3_ := zM ((by rw [hg]; exact (zZ (by repeat (first | exact HB.out | apply zA | apply zN | apply zD | refine zS ?_ GE171.out))) : w.heap.size ≤ gb172)); have n4_ := zM ((by rw [hg]; exact (zZ (by repeat (first | exact HB.out | apply zA | apply zN | apply zD | refine zS ?_ GE171.out))) : w.heap.size ≤ gb172)); have n5_ := zM ((by rw [hg]; exact Nat.ne_of_lt (blk_lt (g := gb171) (o := .cells #[.int .i64 a0_0, .int .i64 a0_1, .slice A0_2 l0_2.length c0_2] 47 (0, 0)) (by (with_reducible repeat (first | refine zK ?_ _ | refine zW ?_ | refine zB ?_ _)); exact BK171.out)) : gb171 ≠ gb172)); have n6_ := zM ((by rw [hg]; exact Nat.ne_of_gt (blk_lt (g := gb171) (o := .cells #[.int .i64 a0_0, .int .i64 a0_1, .slice A0_2 l0_2.length c0_2] 47 (0, 0)) (by (with_reducible repeat (first | refine zK ?_ _ | refine zW ?_ | refine zB ?_ _)); exact BK171.out)) : gb172 ≠ gb171)); clear BK171; clear HB; have BK171 := n0_; have HB := n1_; have BK172 := n2_; have GW172 := n3_; have GE172 := n4_; have NB171_172 := n5_; have NB172_171 := n6_; clear n0_ n1_ n2_ n3_ n4_ n5_ n6_; clear hb hbox hg))
 (try simp only [Act.put, List.setIfInBounds_toArray, List.set_cons_zero, List.set_cons_succ])
 go_cut [15] (fun v15 wc => ∃ (kq : Nat) (x15_3 : Bool), v15 = .bool x15_3 ∧ Aside0 (spec_May.j0 kq a2 x15_3 a0_0 a0_1 l0_2 a1_0 a1_1 a1_2 a1_3 a1_4 a1_5 l1_6 a1_7 a1_8 = some r) ∧ Aside0 (kq ≤ k) ∧ Aside0 (wc.heap[gb171]? = some (.cells #[.int .i64 a0_0, .int .i64 a0_1, (.slice A0_2 l0_2.length c0_2)] 47 (0, 0))) ∧ Aside0 (wc.heap[gb172]? = some (.cells #[.int .i64 a1_0, .int .i64 a1_1, .int .i64 a1_2, .int .i64 a1_3, .int .i64 a1_4, .string a1_5, (.slice A1_6 l1_6.length c1_6), .int .i64 a1_7, .int .i64 a1_8] 90 (0, 0))) ∧ Aside0 (Below w.heap.size w wc))
 case first =>
  have H := HC4.out
  clear HC4
  replace H := Option.bind_eq_some_iff.mp H
  obtain ⟨t173, A70, H⟩ := H
  replace H : (if t173 = true then ((spec_l1In.f a2 0 7).bind fun t174 => (spec_May.j0 k a2 (!t174) a0_0 a0_1 l0_2 a1_0 a1_1 a1_2 a1_3 a1_4 a1_5 l1_6 a1_7 a1_8)) else (spec_May.j0 k a2 true a0_0 a0_1 l0_2 a1_0 a1_1 a1_2 a1_3 a1_4 a1_5 l1_6 a1_7 a1_8)) = some r := H
  have A7 := zM A70
  clear A70
  by_cases c8 : t173 = true
  rotate_left
  ·replace c8 := Bool.eq_false_iff.mpr c8
   subst c8
   have H1 : (spec_May.j0 k a2 true a0_0 a0_1 l0_2 a1_0 a1_1 a1_2 a1_3 a1_4 a1_5 l1_6 a1_7 a1_8) = some r := by rw [if_neg (show ¬ (false = true) by decide)] at H; exact H
   clear H
   have H := H1
   clear H1
   have H' := zM H
   clear H
   have hnb13 := NB171_172.out
   have hnc13 := NB172_171.out
   have hcz14_0 : w6.cell? ⟨gb171, 0, none⟩ = some (.int .i64 a0_0) := (zC BK171.out 0).trans rfl
   have hcz14_1 : w6.cell? ⟨gb171, 1, none⟩ = some (.int .i64 a0_1) := (zC BK171.out 1).trans rfl
   have hcz14_2 : w6.cell? ⟨gb171, 2, none⟩ = some (.slice A0_2 l0_2.length c0_2) := (zC BK171.out 2).trans rfl
   have hfz14_0 := zF BK171.out 0
   have hfz14_1 := zF BK171.out 1
   have hfz14_2 := zF BK171.out 2
   go_wp2_with (first | ((with_reducible refine gate_callee (f := 40) rfl ?_); refine goesL_ (some 9) rfl rfl Tryd.func40 (by kernel_rfl) rfl #[.agg #[.int .i64 a0_0, .int .i64 a0_1, .slice A0_2 l0_2.length c0_2]] rfl (by (try simp only [List.map_toArray, List.map_cons, List.map_nil]); first | done | rfl | (simp only [List.length_drop, List.length_take]; rfl)) ?_; (with_reducible refine (spec_CredOk.calls k a0_0 a0_1 _ _ l0_2 false _ ?side1 ?side2 A7.out).mono ?_); (case side1 => repeat (first | exact (Kd.C_below HR0_2.out HB.out) | (with_reducible refine Kd.C_alloc ?_ _) | (with_reducible refine Kd.C_drewN ?_ _) | (with_reducible refine Kd.C_drew ?_))); (case side2 => exact HC0_2.out); rintro e w15 ⟨rfl, hb⟩; refine ⟨_, rfl, ?_⟩; have n0_ := zM (zL (g := gb171) (o := .cells #[.int .i64 a0_0, .int .i64 a0_1, .slice A0_2 l0_2.length c0_2] 47 (0, 0)) (by (with_reducible repeat (first | refine zK ?_ _ | refine zW ?_ | refine zB ?_ _)); exact BK171.out) hb); have n1_ := zM (zL (g := gb172) (o := .cells #[.int .i64 a1_0, .int .i64 a1_1, .int .i64 a1_2, .int .i64 a1_3, .int .i64 a1_4, .string a1_5, .slice A1_6 l1_6.length c1_6, .int .i64 a1_7, .int .i64 a1_8] 90 (0, 0)) (by (with_reducible repeat (first | refine zK ?_ _ | refine zW ?_ | refine zB ?_ _)); exact BK172.out) hb); have n2_ := zM (zP (by repeat (first | exact HB.out | apply zA | apply zN | apply zD | refine zS ?_ GE171.out | refine zS ?_ GE172.out)) hb); clear BK171; clear BK172; clear HB; have BK171 := n0_; have BK172 := n1_; have HB := n2_; clear n0_ n1_ n2_; (try clear hb); (try clear hb2); (try clear hk); (try clear hi)))
   go_meet
   case rel => exact ⟨_, (true), (by first | rfl | (simp; done) | (simp [*]; done) | (simp; exact zQ _)), H', ⟨by first | omega | exact Nat.le_refl _⟩, ⟨by (with_reducible repeat (first | refine zK ?_ _ | refine zW ?_ | refine zB ?_ _)); exact BK171.out⟩, ⟨by (with_reducible repeat (first | refine zK ?_ _ | refine zW ?_ | refine zB ?_ _)); exact BK172.out⟩, ⟨by repeat (first | (with_reducible first | exact HB.out | apply zA | apply zN | apply zD | refine zS ?_ GE171.out | refine zS ?_ GE172.out) | exact HB.out)⟩⟩
  subst c8
  have H1 : ((spec_l1In.f a2 0 7).bind fun t174 => (spec_May.j0 k a2 (!t174) a0_0 a0_1 l0_2 a1_0 a1_1 a1_2 a1_3 a1_4 a1_5 l1_6 a1_7 a1_8)) = some r := by rw [if_pos rfl] at H; exact H
  clear H
  have H := H1
  clear H1
  replace H := Option.bind_eq_some_iff.mp H
  obtain ⟨t174, A90, H⟩ := H
  replace H : (spec_May.j0 k a2 (!t174) a0_0 a0_1 l0_2 a1_0 a1_1 a1_2 a1_3 a1_4 a1_5 l1_6 a1_7 a1_8) = some r := H
  have A9 := zM A90
  clear A90
  have H' := zM H
  clear H
  have hnb10 := NB171_172.out
  have hnc10 := NB172_171.out
  have hcz11_0 : w6.cell? ⟨gb171, 0, none⟩ = some (.int .i64 a0_0) := (zC BK171.out 0).trans rfl
  have hcz11_1 : w6.cell? ⟨gb171, 1, none⟩ = some (.int .i64 a0_1) := (zC BK171.out 1).trans rfl
  have hcz11_2 : w6.cell? ⟨gb171, 2, none⟩ = some (.slice A0_2 l0_2.length c0_2) := (zC BK171.out 2).trans rfl
  have hfz11_0 := zF BK171.out 0
  have hfz11_1 := zF BK171.out 1
  have hfz11_2 := zF BK171.out 2
  go_wp2_with (first | ((with_reducible refine gate_callee (f := 40) rfl ?_); refine goesL_ (some 9) rfl rfl Tryd.func40 (by kernel_rfl) rfl #[.agg #[.int .i64 a0_0, .int .i64 a0_1, .slice A0_2 l0_2.length c0_2]] rfl (by (try simp only [List.map_toArray, List.map_cons, List.map_nil]); first | done | rfl | (simp only [List.length_drop, List.length_take]; rfl)) ?_; (with_reducible refine (spec_CredOk.calls k a0_0 a0_1 _ _ l0_2 true _ ?side1 ?side2 A7.out).mono ?_); (case side1 => repeat (first | exact (Kd.C_below HR0_2.out HB.out) | (with_reducible refine Kd.C_alloc ?_ _) | (with_reducible refine Kd.C_drewN ?_ _) | (with_reducible refine Kd.C_drew ?_))); (case side2 => exact HC0_2.out); rintro e w12 ⟨rfl, hb⟩; refine ⟨_, rfl, ?_⟩; have n0_ := zM (zL (g := gb171) (o := .cells #[.int .i64 a0_0, .int .i64 a0_1, .slice A0_2 l0_2.length c0_2] 47 (0, 0)) (by (with_reducible repeat (first | refine zK ?_ _ | refine zW ?_ | refine zB ?_ _)); exact BK171.out) hb); have n1_ := zM (zL (g := gb172) (o := .cells #[.int .i64 a1_0, .int .i64 a1_1, .int .i64 a1_2, .int .i64 a1_3, .int .i64 a1_4, .string a1_5, .slice A1_6 l1_6.length c1_6, .int .i64 a1_7, .int .i64 a1_8] 90 (0, 0)) (by (with_reducible repeat (first | refine zK ?_ _ | refine zW ?_ | refine zB ?_ _)); exact BK172.out) hb); have n2_ := zM (zP (by repeat (first | exact HB.out | apply zA | apply zN | apply zD | refine zS ?_ GE171.out | refine zS ?_ GE172.out)) hb); clear BK171; clear BK172; clear HB; have BK171 := n0_; have BK172 := n1_; have HB := n2_; clear n0_ n1_ n2_; (try clear hb); (try clear hb2); (try clear hk); (try clear hi)) | (go_at_call 35; (with_reducible refine (spec_l1In.calls a2 0 7 t174 _ A9.out).mono ?_); rintro e w' ⟨rfl, ⟨nd, rfl⟩⟩))
  go_meet
  case rel => exact ⟨_, (!t174), (by first | rfl | (simp; done) | (simp [*]; done) | (simp; exact zQ _)), H', ⟨by first | omega | exact Nat.le_refl _⟩, ⟨by (with_reducible repeat (first | refine zK ?_ _ | refine zW ?_ | refine zB ?_ _)); exact BK171.out⟩, ⟨by (with_reducible repeat (first | refine zK ?_ _ | refine zW ?_ | refine zB ?_ _)); exact BK172.out⟩, ⟨by repeat (first | (with_reducible first | exact HB.out | apply zA | apply zN | apply zD | refine zS ?_ GE171.out | refine zS ?_ GE172.out) | exact HB.out)⟩⟩
 case rest =>
  clear HC4
  try clear c1
  try clear p2
  try clear c4
  try clear c6
  try clear c8
  try clear c10
  try clear c13
  try clear hcz11_0
  try clear hcz11_1
  try clear hcz11_2
  try clear hcz14_0
  try clear hcz14_1
  try clear hcz14_2
  try clear hfz11_0
  try clear hfz11_1
  try clear hfz11_2
  try clear hfz14_0
  try clear hfz14_1
  try clear hfz14_2
  obtain ⟨kq, x15_3, rfl, HA, HJ3, BK171, BK172, HB⟩ := hcut
  cases kq with
  | zero => exact absurd HA.out (by simp [spec_May.j0])
  | succ kj3 =>
   have H := HA.out
   clear HA
   simp only [spec_May.j0] at H
   by_cases c16 : x15_3 = true
   ·subst c16
    have H1 : (some false) = some r := by rw [if_pos rfl] at H; exact H
    clear H
    have H := H1
    clear H1
    obtain rfl := zI H
    go_wp2
    go_ret
    exact ⟨by first | rfl | (simp [errW_none, errW_some] <;> rfl) | (simp [*, errW_none, errW_some] <;> rfl), by repeat (first | (with_reducible first | exact HB.out | apply zA | apply zN | apply zD | refine zS ?_ GE171.out | refine zS ?_ GE172.out) | exact HB.out)⟩
   replace c16 := Bool.eq_false_iff.mpr c16
   subst c16
   have H1 : (if a0_0 = 0 then (if (Go.bits .and .i64 a2 1) = 0 then (some true) else (if a1_1 = 1 then (some ((Go.bits .and .i64 a1_2 73) != 0)) else (some true))) else ((spec_In.f kj3 a0_0 a0_1 l0_2 a1_4).bind fun t175 => (if t175 = true then (if a0_0 = a1_3 then (some ((Go.bits .and .i64 (Go.bits .and .i64 (a1_2 / 64) 7) a2) == a2)) else (some ((Go.bits .and .i64 (Go.bits .and .i64 (a1_2 / 8) 7) a2) == a2))) else (if a0_0 = a1_3 then (some ((Go.bits .and .i64 (Go.bits .and .i64 (a1_2 / 64) 7) a2) == a2)) else (some ((Go.bits .and .i64 (Go.bits .and .i64 a1_2 7) a2) == a2)))))) = some r := by rw [if_neg (show ¬ (false = true) by decide)] at H; exact H
   clear H
   have H := H1
   clear H1
   by_cases c17 : a0_0 = 0
   ·rw [if_pos c17] at H
    have c17b0 : (a0_0 == 0) = true := beq_iff_eq.mpr c17
    have c17b1 : (a0_0 != 0) = false := bne_eq_false_iff_eq.mpr c17
    clear c17
    by_cases c18 : (Go.bits .and .i64 a2 1) = 0
    ·rw [if_pos c18] at H
     have c18b0 : ((Go.bits .and .i64 a2 1) == 0) = true := beq_iff_eq.mpr c18
     have c18b1 : ((Go.bits .and .i64 a2 1) != 0) = false := bne_eq_false_iff_eq.mpr c18
     clear c18
     obtain rfl := zI H
     have hnb19 := NB171_172.out
     have hnc19 := NB172_171.out
     have hcz20_0 : wc.cell? ⟨gb171, 0, none⟩ = some (.int .i64 a0_0) := (zC BK171.out 0).trans rfl
     have hcz20_1 : wc.cell? ⟨gb171, 1, none⟩ = some (.int .i64 a0_1) := (zC BK171.out 1).trans rfl
     have hcz20_2 : wc.cell? ⟨gb171, 2, none⟩ = some (.slice A0_2 l0_2.length c0_2) := (zC BK171.out 2).trans rfl
     have hfz20_0 := zF BK171.out 0
     have hfz20_1 := zF BK171.out 1
     have hfz20_2 := zF BK171.out 2
     go_wp2
     go_ret
     exact ⟨by first | rfl | (simp [errW_none, errW_some] <;> rfl) | (simp [*, errW_none, errW_some] <;> rfl), by repeat (first | (with_reducible first | exact HB.out | apply zA | apply zN | apply zD | refine zS ?_ GE171.out | refine zS ?_ GE172.out) | exact HB.out)⟩
    rw [if_neg c18] at H
    have c18b0 : ((Go.bits .and .i64 a2 1) == 0) = false := beq_eq_false_iff_ne.mpr c18
    have c18b1 : ((Go.bits .and .i64 a2 1) != 0) = true := bne_iff_ne.mpr c18
    by_cases c21 : a1_1 = 1
    rotate_left
    ·rw [if_neg c21] at H
     have c21b0 : (a1_1 == 1) = false := beq_eq_false_iff_ne.mpr c21
     have c21b1 : (a1_1 != 1) = true := bne_iff_ne.mpr c21
     obtain rfl := zI H
     have hnb25 := NB171_172.out
     have hnc25 := NB172_171.out
     have hcz26_0 : wc.cell? ⟨gb171, 0, none⟩ = some (.int .i64 a0_0) := (zC BK171.out 0).trans rfl
     have hcz26_1 : wc.cell? ⟨gb171, 1, none⟩ = some (.int .i64 a0_1) := (zC BK171.out 1).trans rfl
     have hcz26_2 : wc.cell? ⟨gb171, 2, none⟩ = some (.slice A0_2 l0_2.length c0_2) := (zC BK171.out 2).trans rfl
     have hfz26_0 := zF BK171.out 0
     have hfz26_1 := zF BK171.out 1
     have hfz26_2 := zF BK171.out 2
     have hcz27_0 : wc.cell? ⟨gb172, 0, none⟩ = some (.int .i64 a1_0) := (zC BK172.out 0).trans rfl
     have hcz27_1 : wc.cell? ⟨gb172, 1, none⟩ = some (.int .i64 a1_1) := (zC BK172.out 1).trans rfl
     have hcz27_2 : wc.cell? ⟨gb172, 2, none⟩ = some (.int .i64 a1_2) := (zC BK172.out 2).trans rfl
     have hcz27_3 : wc.cell? ⟨gb172, 3, none⟩ = some (.int .i64 a1_3) := (zC BK172.out 3).trans rfl
     have hcz27_4 : wc.cell? ⟨gb172, 4, none⟩ = some (.int .i64 a1_4) := (zC BK172.out 4).trans rfl
     have hcz27_5 : wc.cell? ⟨gb172, 5, none⟩ = some (.string a1_5) := (zC BK172.out 5).trans rfl
     have hcz27_6 : wc.cell? ⟨gb172, 6, none⟩ = some (.slice A1_6 l1_6.length c1_6) := (zC BK172.out 6).trans rfl
     have hcz27_7 : wc.cell? ⟨gb172, 7, none⟩ = some (.int .i64 a1_7) := (zC BK172.out 7).trans rfl
     have hcz27_8 : wc.cell? ⟨gb172, 8, none⟩ = some (.int .i64 a1_8) := (zC BK172.out 8).trans rfl
     have hfz27_0 := zF BK172.out 0
     have hfz27_1 := zF BK172.out 1
     have hfz27_2 := zF BK172.out 2
     have hfz27_3 := zF BK172.out 3
     have hfz27_4 := zF BK172.out 4
     have hfz27_5 := zF BK172.out 5
     have hfz27_6 := zF BK172.out 6
     have hfz27_7 := zF BK172.out 7
     have hfz27_8 := zF BK172.out 8
     go_wp2
     go_ret
     exact ⟨by first | rfl | (simp [errW_none, errW_some] <;> rfl) | (simp [*, errW_none, errW_some] <;> rfl), by repeat (first | (with_reducible first | exact HB.out | apply zA | apply zN | apply zD | refine zS ?_ GE171.out | refine zS ?_ GE172.out) | exact HB.out)⟩
    rw [if_pos c21] at H
    have c21b0 : (a1_1 == 1) = true := beq_iff_eq.mpr c21
    have c21b1 : (a1_1 != 1) = false := bne_eq_false_iff_eq.mpr c21
    clear c21
    obtain rfl := zI H
    have hnb22 := NB171_172.out
    have hnc22 := NB172_171.out
    have hcz23_0 : wc.cell? ⟨gb171, 0, none⟩ = some (.int .i64 a0_0) := (zC BK171.out 0).trans rfl
    have hcz23_1 : wc.cell? ⟨gb171, 1, none⟩ = some (.int .i64 a0_1) := (zC BK171.out 1).trans rfl
    have hcz23_2 : wc.cell? ⟨gb171, 2, none⟩ = some (.slice A0_2 l0_2.length c0_2) := (zC BK171.out 2).trans rfl
    have hfz23_0 := zF BK171.out 0
    have hfz23_1 := zF BK171.out 1
    have hfz23_2 := zF BK171.out 2
    have hcz24_0 : wc.cell? ⟨gb172, 0, none⟩ = some (.int .i64 a1_0) := (zC BK172.out 0).trans rfl
    have hcz24_1 : wc.cell? ⟨gb172, 1, none⟩ = some (.int .i64 a1_1) := (zC BK172.out 1).trans rfl
    have hcz24_2 : wc.cell? ⟨gb172, 2, none⟩ = some (.int .i64 a1_2) := (zC BK172.out 2).trans rfl
    have hcz24_3 : wc.cell? ⟨gb172, 3, none⟩ = some (.int .i64 a1_3) := (zC BK172.out 3).trans rfl
    have hcz24_4 : wc.cell? ⟨gb172, 4, none⟩ = some (.int .i64 a1_4) := (zC BK172.out 4).trans rfl
    have hcz24_5 : wc.cell? ⟨gb172, 5, none⟩ = some (.string a1_5) := (zC BK172.out 5).trans rfl
    have hcz24_6 : wc.cell? ⟨gb172, 6, none⟩ = some (.slice A1_6 l1_6.length c1_6) := (zC BK172.out 6).trans rfl
    have hcz24_7 : wc.cell? ⟨gb172, 7, none⟩ = some (.int .i64 a1_7) := (zC BK172.out 7).trans rfl
    have hcz24_8 : wc.cell? ⟨gb172, 8, none⟩ = some (.int .i64 a1_8) := (zC BK172.out 8).trans rfl
    have hfz24_0 := zF BK172.out 0
    have hfz24_1 := zF BK172.out 1
    have hfz24_2 := zF BK172.out 2
    have hfz24_3 := zF BK172.out 3
    have hfz24_4 := zF BK172.out 4
    have hfz24_5 := zF BK172.out 5
    have hfz24_6 := zF BK172.out 6
    have hfz24_7 := zF BK172.out 7
    have hfz24_8 := zF BK172.out 8
    go_wp2
    go_ret
    exact ⟨by first | rfl | (simp [errW_none, errW_some] <;> rfl) | (simp [*, errW_none, errW_some] <;> rfl), by repeat (first | (with_reducible first | exact HB.out | apply zA | apply zN | apply zD | refine zS ?_ GE171.out | refine zS ?_ GE172.out) | exact HB.out)⟩
   rw [if_neg c17] at H
   have c17b0 : (a0_0 == 0) = false := beq_eq_false_iff_ne.mpr c17
   have c17b1 : (a0_0 != 0) = true := bne_iff_ne.mpr c17
   replace H := Option.bind_eq_some_iff.mp H
   obtain ⟨t175, A280, H⟩ := H
   replace H : (if t175 = true then (if a0_0 = a1_3 then (some ((Go.bits .and .i64 (Go.bits .and .i64 (a1_2 / 64) 7) a2) == a2)) else (some ((Go.bits .and .i64 (Go.bits .and .i64 (a1_2 / 8) 7) a2) == a2))) else (if a0_0 = a1_3 then (some ((Go.bits .and .i64 (Go.bits .and .i64 (a1_2 / 64) 7) a2) == a2)) else (some ((Go.bits .and .i64 (Go.bits .and .i64 a1_2 7) a2) == a2)))) = some r := H
   have A28 := zM A280
   clear A280
   by_cases c29 : t175 = true
   ·subst c29
    have H1 : (if a0_0 = a1_3 then (some ((Go.bits .and .i64 (Go.bits .and .i64 (a1_2 / 64) 7) a2) == a2)) else (some ((Go.bits .and .i64 (Go.bits .and .i64 (a1_2 / 8) 7) a2) == a2))) = some r := by rw [if_pos rfl] at H; exact H
    clear H
    have H := H1
    clear H1
    by_cases c30 : a0_0 = a1_3
    rotate_left
    ·rw [if_neg c30] at H
     have c30b0 : (a0_0 == a1_3) = false := beq_eq_false_iff_ne.mpr c30
     have c30b1 : (a0_0 != a1_3) = true := bne_iff_ne.mpr c30
     obtain rfl := zI H
     have hnb37 := NB171_172.out
     have hnc37 := NB172_171.out
     have hcz38_0 : wc.cell? ⟨gb171, 0, none⟩ = some (.int .i64 a0_0) := (zC BK171.out 0).trans rfl
     have hcz38_1 : wc.cell? ⟨gb171, 1, none⟩ = some (.int .i64 a0_1) := (zC BK171.out 1).trans rfl
     have hcz38_2 : wc.cell? ⟨gb171, 2, none⟩ = some (.slice A0_2 l0_2.length c0_2) := (zC BK171.out 2).trans rfl
     have hfz38_0 := zF BK171.out 0
     have hfz38_1 := zF BK171.out 1
     have hfz38_2 := zF BK171.out 2
     have hcz39_0 : wc.cell? ⟨gb172, 0, none⟩ = some (.int .i64 a1_0) := (zC BK172.out 0).trans rfl
     have hcz39_1 : wc.cell? ⟨gb172, 1, none⟩ = some (.int .i64 a1_1) := (zC BK172.out 1).trans rfl
     have hcz39_2 : wc.cell? ⟨gb172, 2, none⟩ = some (.int .i64 a1_2) := (zC BK172.out 2).trans rfl
     have hcz39_3 : wc.cell? ⟨gb172, 3, none⟩ = some (.int .i64 a1_3) := (zC BK172.out 3).trans rfl
     have hcz39_4 : wc.cell? ⟨gb172, 4, none⟩ = some (.int .i64 a1_4) := (zC BK172.out 4).trans rfl
     have hcz39_5 : wc.cell? ⟨gb172, 5, none⟩ = some (.string a1_5) := (zC BK172.out 5).trans rfl
     have hcz39_6 : wc.cell? ⟨gb172, 6, none⟩ = some (.slice A1_6 l1_6.length c1_6) := (zC BK172.out 6).trans rfl
     have hcz39_7 : wc.cell? ⟨gb172, 7, none⟩ = some (.int .i64 a1_7) := (zC BK172.out 7).trans rfl
     have hcz39_8 : wc.cell? ⟨gb172, 8, none⟩ = some (.int .i64 a1_8) := (zC BK172.out 8).trans rfl
     have hfz39_0 := zF BK172.out 0
     have hfz39_1 := zF BK172.out 1
     have hfz39_2 := zF BK172.out 2
     have hfz39_3 := zF BK172.out 3
     have hfz39_4 := zF BK172.out 4
     have hfz39_5 := zF BK172.out 5
     have hfz39_6 := zF BK172.out 6
     have hfz39_7 := zF BK172.out 7
     have hfz39_8 := zF BK172.out 8
     go_wp2_with (first | ((with_reducible refine gate_callee (f := 93) rfl ?_); refine goesL_ (some 39) rfl rfl Tryd.func93 (by kernel_rfl) rfl #[.agg #[.int .i64 a0_0, .int .i64 a0_1, .slice A0_2 l0_2.length c0_2], .int .i64 a1_4] rfl (by (try simp only [List.map_toArray, List.map_cons, List.map_nil]); first | done | rfl | (simp only [List.length_drop, List.length_take]; rfl)) ?_; (with_reducible refine (spec_In.calls kj3 a0_0 a0_1 _ _ l0_2 a1_4 true _ ?side1 ?side2 A28.out).mono ?_); (case side1 => repeat (first | exact (Kd.C_below HR0_2.out HB.out) | (with_reducible refine Kd.C_alloc ?_ _) | (with_reducible refine Kd.C_drewN ?_ _) | (with_reducible refine Kd.C_drew ?_))); (case side2 => exact HC0_2.out); rintro e w40 ⟨rfl, hb⟩; refine ⟨_, rfl, ?_⟩; have n0_ := zM (zL (g := gb171) (o := .cells #[.int .i64 a0_0, .int .i64 a0_1, .slice A0_2 l0_2.length c0_2] 47 (0, 0)) (by (with_reducible repeat (first | refine zK ?_ _ | refine zW ?_ | refine zB ?_ _)); exact BK171.out) hb); have n1_ := zM (zL (g := gb172) (o := .cells #[.int .i64 a1_0, .int .i64 a1_1, .int .i64 a1_2, .int .i64 a1_3, .int .i64 a1_4, .string a1_5, .slice A1_6 l1_6.length c1_6, .int .i64 a1_7, .int .i64 a1_8] 90 (0, 0)) (by (with_reducible repeat (first | refine zK ?_ _ | refine zW ?_ | refine zB ?_ _)); exact BK172.out) hb); have n2_ := zM (zP (by repeat (first | exact HB.out | apply zA | apply zN | apply zD | refine zS ?_ GE171.out | refine zS ?_ GE172.out)) hb); clear BK171; clear BK172; clear HB; have BK171 := n0_; have BK172 := n1_; have HB := n2_; clear n0_ n1_ n2_; (try clear hb); (try clear hb2); (try clear hk); (try clear hi); have hcz41_0 : w40.cell? ⟨gb172, 0, none⟩ = some (.int .i64 a1_0) := (zC BK172.out 0).trans rfl; have hcz41_1 : w40.cell? ⟨gb172, 1, none⟩ = some (.int .i64 a1_1) := (zC BK172.out 1).trans rfl; have hcz41_2 : w40.cell? ⟨gb172, 2, none⟩ = some (.int .i64 a1_2) := (zC BK172.out 2).trans rfl; have hcz41_3 : w40.cell? ⟨gb172, 3, none⟩ = some (.int .i64 a1_3) := (zC BK172.out 3).trans rfl; have hcz41_4 : w40.cell? ⟨gb172, 4, none⟩ = some (.int .i64 a1_4) := (zC BK172.out 4).trans rfl; have hcz41_5 : w40.cell? ⟨gb172, 5, none⟩ = some (.string a1_5) := (zC BK172.out 5).trans rfl; have hcz41_6 : w40.cell? ⟨gb172, 6, none⟩ = some (.slice A1_6 l1_6.length c1_6) := (zC BK172.out 6).trans rfl; have hcz41_7 : w40.cell? ⟨gb172, 7, none⟩ = some (.int .i64 a1_7) := (zC BK172.out 7).trans rfl; have hcz41_8 : w40.cell? ⟨gb172, 8, none⟩ = some (.int .i64 a1_8) := (zC BK172.out 8).trans rfl; have hfz41_0 := zF BK172.out 0; have hfz41_1 := zF BK172.out 1; have hfz41_2 := zF BK172.out 2; have hfz41_3 := zF BK172.out 3; have hfz41_4 := zF BK172.out 4; have hfz41_5 := zF BK172.out 5; have hfz41_6 := zF BK172.out 6; have hfz41_7 := zF BK172.out 7; have hfz41_8 := zF BK172.out 8; have hcz42_0 : w40.cell? ⟨gb171, 0, none⟩ = some (.int .i64 a0_0) := (zC BK171.out 0).trans rfl; have hcz42_1 : w40.cell? ⟨gb171, 1, none⟩ = some (.int .i64 a0_1) := (zC BK171.out 1).trans rfl; have hcz42_2 : w40.cell? ⟨gb171, 2, none⟩ = some (.slice A0_2 l0_2.length c0_2) := (zC BK171.out 2).trans rfl; have hfz42_0 := zF BK171.out 0; have hfz42_1 := zF BK171.out 1; have hfz42_2 := zF BK171.out 2))
     go_ret
     exact ⟨by first | rfl | (simp [errW_none, errW_some] <;> rfl) | (simp [*, errW_none, errW_some] <;> rfl), by repeat (first | (with_reducible first | exact HB.out | apply zA | apply zN | apply zD | refine zS ?_ GE171.out | refine zS ?_ GE172.out) | exact HB.out)⟩
    rw [if_pos c30] at H
    have c30b0 : (a0_0 == a1_3) = true := beq_iff_eq.mpr c30
    have c30b1 : (a0_0 != a1_3) = false := bne_eq_false_iff_eq.mpr c30
    clear c30
    obtain rfl := zI H
    have hnb31 := NB171_172.out
    have hnc31 := NB172_171.out
    have hcz32_0 : wc.cell? ⟨gb171, 0, none⟩ = some (.int .i64 a0_0) := (zC BK171.out 0).trans rfl
    have hcz32_1 : wc.cell? ⟨gb171, 1, none⟩ = some (.int .i64 a0_1) := (zC BK171.out 1).trans rfl
    have hcz32_2 : wc.cell? ⟨gb171, 2, none⟩ = some (.slice A0_2 l0_2.length c0_2) := (zC BK171.out 2).trans rfl
    have hfz32_0 := zF BK171.out 0
    have hfz32_1 := zF BK171.out 1
    have hfz32_2 := zF BK171.out 2
    have hcz33_0 : wc.cell? ⟨gb172, 0, none⟩ = some (.int .i64 a1_0) := (zC BK172.out 0).trans rfl
    have hcz33_1 : wc.cell? ⟨gb172, 1, none⟩ = some (.int .i64 a1_1) := (zC BK172.out 1).trans rfl
    have hcz33_2 : wc.cell? ⟨gb172, 2, none⟩ = some (.int .i64 a1_2) := (zC BK172.out 2).trans rfl
    have hcz33_3 : wc.cell? ⟨gb172, 3, none⟩ = some (.int .i64 a1_3) := (zC BK172.out 3).trans rfl
    have hcz33_4 : wc.cell? ⟨gb172, 4, none⟩ = some (.int .i64 a1_4) := (zC BK172.out 4).trans rfl
    have hcz33_5 : wc.cell? ⟨gb172, 5, none⟩ = some (.string a1_5) := (zC BK172.out 5).trans rfl
    have hcz33_6 : wc.cell? ⟨gb172, 6, none⟩ = some (.slice A1_6 l1_6.length c1_6) := (zC BK172.out 6).trans rfl
    have hcz33_7 : wc.cell? ⟨gb172, 7, none⟩ = some (.int .i64 a1_7) := (zC BK172.out 7).trans rfl
    have hcz33_8 : wc.cell? ⟨gb172, 8, none⟩ = some (.int .i64 a1_8) := (zC BK172.out 8).trans rfl
    have hfz33_0 := zF BK172.out 0
    have hfz33_1 := zF BK172.out 1
    have hfz33_2 := zF BK172.out 2
    have hfz33_3 := zF BK172.out 3
    have hfz33_4 := zF BK172.out 4
    have hfz33_5 := zF BK172.out 5
    have hfz33_6 := zF BK172.out 6
    have hfz33_7 := zF BK172.out 7
    have hfz33_8 := zF BK172.out 8
    go_wp2_with (first | ((with_reducible refine gate_callee (f := 93) rfl ?_); refine goesL_ (some 39) rfl rfl Tryd.func93 (by kernel_rfl) rfl #[.agg #[.int .i64 a0_0, .int .i64 a0_1, .slice A0_2 l0_2.length c0_2], .int .i64 a1_4] rfl (by (try simp only [List.map_toArray, List.map_cons, List.map_nil]); first | done | rfl | (simp only [List.length_drop, List.length_take]; rfl)) ?_; (with_reducible refine (spec_In.calls kj3 a0_0 a0_1 _ _ l0_2 a1_4 true _ ?side1 ?side2 A28.out).mono ?_); (case side1 => repeat (first | exact (Kd.C_below HR0_2.out HB.out) | (with_reducible refine Kd.C_alloc ?_ _) | (with_reducible refine Kd.C_drewN ?_ _) | (with_reducible refine Kd.C_drew ?_))); (case side2 => exact HC0_2.out); rintro e w34 ⟨rfl, hb⟩; refine ⟨_, rfl, ?_⟩; have n0_ := zM (zL (g := gb171) (o := .cells #[.int .i64 a0_0, .int .i64 a0_1, .slice A0_2 l0_2.length c0_2] 47 (0, 0)) (by (with_reducible repeat (first | refine zK ?_ _ | refine zW ?_ | refine zB ?_ _)); exact BK171.out) hb); have n1_ := zM (zL (g := gb172) (o := .cells #[.int .i64 a1_0, .int .i64 a1_1, .int .i64 a1_2, .int .i64 a1_3, .int .i64 a1_4, .string a1_5, .slice A1_6 l1_6.length c1_6, .int .i64 a1_7, .int .i64 a1_8] 90 (0, 0)) (by (with_reducible repeat (first | refine zK ?_ _ | refine zW ?_ | refine zB ?_ _)); exact BK172.out) hb); have n2_ := zM (zP (by repeat (first | exact HB.out | apply zA | apply zN | apply zD | refine zS ?_ GE171.out | refine zS ?_ GE172.out)) hb); clear BK171; clear BK172; clear HB; have BK171 := n0_; have BK172 := n1_; have HB := n2_; clear n0_ n1_ n2_; (try clear hb); (try clear hb2); (try clear hk); (try clear hi); have hcz35_0 : w34.cell? ⟨gb172, 0, none⟩ = some (.int .i64 a1_0) := (zC BK172.out 0).trans rfl; have hcz35_1 : w34.cell? ⟨gb172, 1, none⟩ = some (.int .i64 a1_1) := (zC BK172.out 1).trans rfl; have hcz35_2 : w34.cell? ⟨gb172, 2, none⟩ = some (.int .i64 a1_2) := (zC BK172.out 2).trans rfl; have hcz35_3 : w34.cell? ⟨gb172, 3, none⟩ = some (.int .i64 a1_3) := (zC BK172.out 3).trans rfl; have hcz35_4 : w34.cell? ⟨gb172, 4, none⟩ = some (.int .i64 a1_4) := (zC BK172.out 4).trans rfl; have hcz35_5 : w34.cell? ⟨gb172, 5, none⟩ = some (.string a1_5) := (zC BK172.out 5).trans rfl; have hcz35_6 : w34.cell? ⟨gb172, 6, none⟩ = some (.slice A1_6 l1_6.length c1_6) := (zC BK172.out 6).trans rfl; have hcz35_7 : w34.cell? ⟨gb172, 7, none⟩ = some (.int .i64 a1_7) := (zC BK172.out 7).trans rfl; have hcz35_8 : w34.cell? ⟨gb172, 8, none⟩ = some (.int .i64 a1_8) := (zC BK172.out 8).trans rfl; have hfz35_0 := zF BK172.out 0; have hfz35_1 := zF BK172.out 1; have hfz35_2 := zF BK172.out 2; have hfz35_3 := zF BK172.out 3; have hfz35_4 := zF BK172.out 4; have hfz35_5 := zF BK172.out 5; have hfz35_6 := zF BK172.out 6; have hfz35_7 := zF BK172.out 7; have hfz35_8 := zF BK172.out 8; have hcz36_0 : w34.cell? ⟨gb171, 0, none⟩ = some (.int .i64 a0_0) := (zC BK171.out 0).trans rfl; have hcz36_1 : w34.cell? ⟨gb171, 1, none⟩ = some (.int .i64 a0_1) := (zC BK171.out 1).trans rfl; have hcz36_2 : w34.cell? ⟨gb171, 2, none⟩ = some (.slice A0_2 l0_2.length c0_2) := (zC BK171.out 2).trans rfl; have hfz36_0 := zF BK171.out 0; have hfz36_1 := zF BK171.out 1; have hfz36_2 := zF BK171.out 2))
    go_ret
    exact ⟨by first | rfl | (simp [errW_none, errW_some] <;> rfl) | (simp [*, errW_none, errW_some] <;> rfl), by repeat (first | (with_reducible first | exact HB.out | apply zA | apply zN | apply zD | refine zS ?_ GE171.out | refine zS ?_ GE172.out) | exact HB.out)⟩
   replace c29 := Bool.eq_false_iff.mpr c29
   subst c29
   have H1 : (if a0_0 = a1_3 then (some ((Go.bits .and .i64 (Go.bits .and .i64 (a1_2 / 64) 7) a2) == a2)) else (some ((Go.bits .and .i64 (Go.bits .and .i64 a1_2 7) a2) == a2))) = some r := by rw [if_neg (show ¬ (false = true) by decide)] at H; exact H
   clear H
   have H := H1
   clear H1
   by_cases c43 : a0_0 = a1_3
   rotate_left
   ·rw [if_neg c43] at H
    have c43b0 : (a0_0 == a1_3) = false := beq_eq_false_iff_ne.mpr c43
    have c43b1 : (a0_0 != a1_3) = true := bne_iff_ne.mpr c43
    obtain rfl := zI H
    have hnb50 := NB171_172.out
    have hnc50 := NB172_171.out
    have hcz51_0 : wc.cell? ⟨gb171, 0, none⟩ = some (.int .i64 a0_0) := (zC BK171.out 0).trans rfl
    have hcz51_1 : wc.cell? ⟨gb171, 1, none⟩ = some (.int .i64 a0_1) := (zC BK171.out 1).trans rfl
    have hcz51_2 : wc.cell? ⟨gb171, 2, none⟩ = some (.slice A0_2 l0_2.length c0_2) := (zC BK171.out 2).trans rfl
    have hfz51_0 := zF BK171.out 0
    have hfz51_1 := zF BK171.out 1
    have hfz51_2 := zF BK171.out 2
    have hcz52_0 : wc.cell? ⟨gb172, 0, none⟩ = some (.int .i64 a1_0) := (zC BK172.out 0).trans rfl
    have hcz52_1 : wc.cell? ⟨gb172, 1, none⟩ = some (.int .i64 a1_1) := (zC BK172.out 1).trans rfl
    have hcz52_2 : wc.cell? ⟨gb172, 2, none⟩ = some (.int .i64 a1_2) := (zC BK172.out 2).trans rfl
    have hcz52_3 : wc.cell? ⟨gb172, 3, none⟩ = some (.int .i64 a1_3) := (zC BK172.out 3).trans rfl
    have hcz52_4 : wc.cell? ⟨gb172, 4, none⟩ = some (.int .i64 a1_4) := (zC BK172.out 4).trans rfl
    have hcz52_5 : wc.cell? ⟨gb172, 5, none⟩ = some (.string a1_5) := (zC BK172.out 5).trans rfl
    have hcz52_6 : wc.cell? ⟨gb172, 6, none⟩ = some (.slice A1_6 l1_6.length c1_6) := (zC BK172.out 6).trans rfl
    have hcz52_7 : wc.cell? ⟨gb172, 7, none⟩ = some (.int .i64 a1_7) := (zC BK172.out 7).trans rfl
    have hcz52_8 : wc.cell? ⟨gb172, 8, none⟩ = some (.int .i64 a1_8) := (zC BK172.out 8).trans rfl
    have hfz52_0 := zF BK172.out 0
    have hfz52_1 := zF BK172.out 1
    have hfz52_2 := zF BK172.out 2
    have hfz52_3 := zF BK172.out 3
    have hfz52_4 := zF BK172.out 4
    have hfz52_5 := zF BK172.out 5
    have hfz52_6 := zF BK172.out 6
    have hfz52_7 := zF BK172.out 7
    have hfz52_8 := zF BK172.out 8
    go_wp2_with (first | ((with_reducible refine gate_callee (f := 93) rfl ?_); refine goesL_ (some 39) rfl rfl Tryd.func93 (by kernel_rfl) rfl #[.agg #[.int .i64 a0_0, .int .i64 a0_1, .slice A0_2 l0_2.length c0_2], .int .i64 a1_4] rfl (by (try simp only [List.map_toArray, List.map_cons, List.map_nil]); first | done | rfl | (simp only [List.length_drop, List.length_take]; rfl)) ?_; (with_reducible refine (spec_In.calls kj3 a0_0 a0_1 _ _ l0_2 a1_4 false _ ?side1 ?side2 A28.out).mono ?_); (case side1 => repeat (first | exact (Kd.C_below HR0_2.out HB.out) | (with_reducible refine Kd.C_alloc ?_ _) | (with_reducible refine Kd.C_drewN ?_ _) | (with_reducible refine Kd.C_drew ?_))); (case side2 => exact HC0_2.out); rintro e w53 ⟨rfl, hb⟩; refine ⟨_, rfl, ?_⟩; have n0_ := zM (zL (g := gb171) (o := .cells #[.int .i64 a0_0, .int .i64 a0_1, .slice A0_2 l0_2.length c0_2] 47 (0, 0)) (by (with_reducible repeat (first | refine zK ?_ _ | refine zW ?_ | refine zB ?_ _)); exact BK171.out) hb); have n1_ := zM (zL (g := gb172) (o := .cells #[.int .i64 a1_0, .int .i64 a1_1, .int .i64 a1_2, .int .i64 a1_3, .int .i64 a1_4, .string a1_5, .slice A1_6 l1_6.length c1_6, .int .i64 a1_7, .int .i64 a1_8] 90 (0, 0)) (by (with_reducible repeat (first | refine zK ?_ _ | refine zW ?_ | refine zB ?_ _)); exact BK172.out) hb); have n2_ := zM (zP (by repeat (first | exact HB.out | apply zA | apply zN | apply zD | refine zS ?_ GE171.out | refine zS ?_ GE172.out)) hb); clear BK171; clear BK172; clear HB; have BK171 := n0_; have BK172 := n1_; have HB := n2_; clear n0_ n1_ n2_; (try clear hb); (try clear hb2); (try clear hk); (try clear hi); have hcz54_0 : w53.cell? ⟨gb171, 0, none⟩ = some (.int .i64 a0_0) := (zC BK171.out 0).trans rfl; have hcz54_1 : w53.cell? ⟨gb171, 1, none⟩ = some (.int .i64 a0_1) := (zC BK171.out 1).trans rfl; have hcz54_2 : w53.cell? ⟨gb171, 2, none⟩ = some (.slice A0_2 l0_2.length c0_2) := (zC BK171.out 2).trans rfl; have hfz54_0 := zF BK171.out 0; have hfz54_1 := zF BK171.out 1; have hfz54_2 := zF BK171.out 2; have hcz55_0 : w53.cell? ⟨gb172, 0, none⟩ = some (.int .i64 a1_0) := (zC BK172.out 0).trans rfl; have hcz55_1 : w53.cell? ⟨gb172, 1, none⟩ = some (.int .i64 a1_1) := (zC BK172.out 1).trans rfl; have hcz55_2 : w53.cell? ⟨gb172, 2, none⟩ = some (.int .i64 a1_2) := (zC BK172.out 2).trans rfl; have hcz55_3 : w53.cell? ⟨gb172, 3, none⟩ = some (.int .i64 a1_3) := (zC BK172.out 3).trans rfl; have hcz55_4 : w53.cell? ⟨gb172, 4, none⟩ = some (.int .i64 a1_4) := (zC BK172.out 4).trans rfl; have hcz55_5 : w53.cell? ⟨gb172, 5, none⟩ = some (.string a1_5) := (zC BK172.out 5).trans rfl; have hcz55_6 : w53.cell? ⟨gb172, 6, none⟩ = some (.slice A1_6 l1_6.length c1_6) := (zC BK172.out 6).trans rfl; have hcz55_7 : w53.cell? ⟨gb172, 7, none⟩ = some (.int .i64 a1_7) := (zC BK172.out 7).trans rfl; have hcz55_8 : w53.cell? ⟨gb172, 8, none⟩ = some (.int .i64 a1_8) := (zC BK172.out 8).trans rfl; have hfz55_0 := zF BK172.out 0; have hfz55_1 := zF BK172.out 1; have hfz55_2 := zF BK172.out 2; have hfz55_3 := zF BK172.out 3; have hfz55_4 := zF BK172.out 4; have hfz55_5 := zF BK172.out 5; have hfz55_6 := zF BK172.out 6; have hfz55_7 := zF BK172.out 7; have hfz55_8 := zF BK172.out 8))
    go_ret
    exact ⟨by first | rfl | (simp [errW_none, errW_some] <;> rfl) | (simp [*, errW_none, errW_some] <;> rfl), by repeat (first | (with_reducible first | exact HB.out | apply zA | apply zN | apply zD | refine zS ?_ GE171.out | refine zS ?_ GE172.out) | exact HB.out)⟩

   rw [if_pos c43] at H
   have c43b0 : (a0_0 == a1_3) = true := beq_iff_eq.mpr c43
   have c43b1 : (a0_0 != a1_3) = false := bne_eq_false_iff_eq.mpr c43
   clear c43
   obtain rfl := zI H
   have hnb44 := NB171_172.out
   have hnc44 := NB172_171.out
   have hcz45_0 : wc.cell? ⟨gb171, 0, none⟩ = some (.int .i64 a0_0) := (zC BK171.out 0).trans rfl
   have hcz45_1 : wc.cell? ⟨gb171, 1, none⟩ = some (.int .i64 a0_1) := (zC BK171.out 1).trans rfl
   have hcz45_2 : wc.cell? ⟨gb171, 2, none⟩ = some (.slice A0_2 l0_2.length c0_2) := (zC BK171.out 2).trans rfl
   have hfz45_0 := zF BK171.out 0
   have hfz45_1 := zF BK171.out 1
   have hfz45_2 := zF BK171.out 2
   have hcz46_0 : wc.cell? ⟨gb172, 0, none⟩ = some (.int .i64 a1_0) := (zC BK172.out 0).trans rfl
   have hcz46_1 : wc.cell? ⟨gb172, 1, none⟩ = some (.int .i64 a1_1) := (zC BK172.out 1).trans rfl
   have hcz46_2 : wc.cell? ⟨gb172, 2, none⟩ = some (.int .i64 a1_2) := (zC BK172.out 2).trans rfl
   have hcz46_3 : wc.cell? ⟨gb172, 3, none⟩ = some (.int .i64 a1_3) := (zC BK172.out 3).trans rfl
   have hcz46_4 : wc.cell? ⟨gb172, 4, none⟩ = some (.int .i64 a1_4) := (zC BK172.out 4).trans rfl
   have hcz46_5 : wc.cell? ⟨gb172, 5, none⟩ = some (.string a1_5) := (zC BK172.out 5).trans rfl
   have hcz46_6 : wc.cell? ⟨gb172, 6, none⟩ = some (.slice A1_6 l1_6.length c1_6) := (zC BK172.out 6).trans rfl
   have hcz46_7 : wc.cell? ⟨gb172, 7, none⟩ = some (.int .i64 a1_7) := (zC BK172.out 7).trans rfl
   have hcz46_8 : wc.cell? ⟨gb172, 8, none⟩ = some (.int .i64 a1_8) := (zC BK172.out 8).trans rfl
   have hfz46_0 := zF BK172.out 0
   have hfz46_1 := zF BK172.out 1
   have hfz46_2 := zF BK172.out 2
   have hfz46_3 := zF BK172.out 3
   have hfz46_4 := zF BK172.out 4
   have hfz46_5 := zF BK172.out 5
   have hfz46_6 := zF BK172.out 6
   have hfz46_7 := zF BK172.out 7
   have hfz46_8 := zF BK172.out 8
   go_wp2_with (first | ((with_reducible refine gate_callee (f := 93) rfl ?_); refine goesL_ (some 39) rfl rfl Tryd.func93 (by kernel_rfl) rfl #[.agg #[.int .i64 a0_0, .int .i64 a0_1, .slice A0_2 l0_2.length c0_2], .int .i64 a1_4] rfl (by (try simp only [List.map_toArray, List.map_cons, List.map_nil]); first | done | rfl | (simp only [List.length_drop, List.length_take]; rfl)) ?_; (with_reducible refine (spec_In.calls kj3 a0_0 a0_1 _ _ l0_2 a1_4 false _ ?side1 ?side2 A28.out).mono ?_); (case side1 => repeat (first | exact (Kd.C_below HR0_2.out HB.out) | (with_reducible refine Kd.C_alloc ?_ _) | (with_reducible refine Kd.C_drewN ?_ _) | (with_reducible refine Kd.C_drew ?_))); (case side2 => exact HC0_2.out); rintro e w47 ⟨rfl, hb⟩; refine ⟨_, rfl, ?_⟩; have n0_ := zM (zL (g := gb171) (o := .cells #[.int .i64 a0_0, .int .i64 a0_1, .slice A0_2 l0_2.length c0_2] 47 (0, 0)) (by (with_reducible repeat (first | refine zK ?_ _ | refine zW ?_ | refine zB ?_ _)); exact BK171.out) hb); have n1_ := zM (zL (g := gb172) (o := .cells #[.int .i64 a1_0, .int .i64 a1_1, .int .i64 a1_2, .int .i64 a1_3, .int .i64 a1_4, .string a1_5, .slice A1_6 l1_6.length c1_6, .int .i64 a1_7, .int .i64 a1_8] 90 (0, 0)) (by (with_reducible repeat (first | refine zK ?_ _ | refine zW ?_ | refine zB ?_ _)); exact BK172.out) hb); have n2_ := zM (zP (by repeat (first | exact HB.out | apply zA | apply zN | apply zD | refine zS ?_ GE171.out | refine zS ?_ GE172.out)) hb); clear BK171; clear BK172; clear HB; have BK171 := n0_; have BK172 := n1_; have HB := n2_; clear n0_ n1_ n2_; (try clear hb); (try clear hb2); (try clear hk); (try clear hi); have hcz48_0 : w47.cell? ⟨gb171, 0, none⟩ = some (.int .i64 a0_0) := (zC BK171.out 0).trans rfl; have hcz48_1 : w47.cell? ⟨gb171, 1, none⟩ = some (.int .i64 a0_1) := (zC BK171.out 1).trans rfl; have hcz48_2 : w47.cell? ⟨gb171, 2, none⟩ = some (.slice A0_2 l0_2.length c0_2) := (zC BK171.out 2).trans rfl; have hfz48_0 := zF BK171.out 0; have hfz48_1 := zF BK171.out 1; have hfz48_2 := zF BK171.out 2; have hcz49_0 : w47.cell? ⟨gb172, 0, none⟩ = some (.int .i64 a1_0) := (zC BK172.out 0).trans rfl; have hcz49_1 : w47.cell? ⟨gb172, 1, none⟩ = some (.int .i64 a1_1) := (zC BK172.out 1).trans rfl; have hcz49_2 : w47.cell? ⟨gb172, 2, none⟩ = some (.int .i64 a1_2) := (zC BK172.out 2).trans rfl; have hcz49_3 : w47.cell? ⟨gb172, 3, none⟩ = some (.int .i64 a1_3) := (zC BK172.out 3).trans rfl; have hcz49_4 : w47.cell? ⟨gb172, 4, none⟩ = some (.int .i64 a1_4) := (zC BK172.out 4).trans rfl; have hcz49_5 : w47.cell? ⟨gb172, 5, none⟩ = some (.string a1_5) := (zC BK172.out 5).trans rfl; have hcz49_6 : w47.cell? ⟨gb172, 6, none⟩ = some (.slice A1_6 l1_6.length c1_6) := (zC BK172.out 6).trans rfl; have hcz49_7 : w47.cell? ⟨gb172, 7, none⟩ = some (.int .i64 a1_7) := (zC BK172.out 7).trans rfl; have hcz49_8 : w47.cell? ⟨gb172, 8, none⟩ = some (.int .i64 a1_8) := (zC BK172.out 8).trans rfl; have hfz49_0 := zF BK172.out 0; have hfz49_1 := zF BK172.out 1; have hfz49_2 := zF BK172.out 2; have hfz49_3 := zF BK172.out 3; have hfz49_4 := zF BK172.out 4; have hfz49_5 := zF BK172.out 5; have hfz49_6 := zF BK172.out 6; have hfz49_7 := zF BK172.out 7; have hfz49_8 := zF BK172.out 8))
   go_ret
   exact ⟨by first | rfl | (simp [errW_none, errW_some] <;> rfl) | (simp [*, errW_none, errW_some] <;> rfl), by repeat (first | (with_reducible first | exact HB.out | apply zA | apply zN | apply zD | refine zS ?_ GE171.out | refine zS ?_ GE172.out) | exact HB.out)⟩
end Go.Proofs.YtiopcpkfjikfdaaDoor.PFnExactWalk
