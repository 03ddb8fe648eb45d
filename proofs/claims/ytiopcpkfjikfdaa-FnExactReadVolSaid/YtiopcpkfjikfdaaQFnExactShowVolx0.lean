/- Written by programs of mine (qprint.py, over the kit's print.py; volsplit.py) and by hand: functions that the law FnExactShowVol reaches, as Lean functions, and that the program answers as they do. -/
import Derived.Test.YtiopcpkfjikfdaaQFnExactVolOkx9
namespace Go.Proofs.Ytiopcpkfjikfdaa.PFnExactVolOk
open Go.RowKit Go.Proofs.YtiopcpkfjikfdaaW.PrintWords Go.Proofs.YtiopcpkfjikfdaaW.PrintLast Go.Proofs.YtiopcpkfjikfdaaW.PrintMore
attribute [local go_sem] max2_int min2_int max_two min_two max_three min_three max_four min_four   -- for this text's walks alone
set_option linter.unusedVariables false
set_option linter.unusedSimpArgs false

theorem info3 : (Try.prog.info? 3).map (fun i => (i.zero, i.size, i.bytes)) = some (some (.int .i64 0), 1, 8) := by kernel_rfl
theorem info5 : (Try.prog.info? 5).map (fun i => (i.zero, i.size, i.bytes)) = some (some (.int .u8 0), 1, 1) := by kernel_rfl

/-! ### spec_Var: function 52 -/
def spec_Var.l0 : Nat → Int → List Int → Option (ByteArray)
 | 0, _, _ => none
 | k + 1, x0, x3 => if x0 ≥ 128 then (if x3.length < 140737488355328 then (spec_Var.l0 k (wrap64 (Int.tdiv x0 128)) (x3 ++ [(wrap64 (128 + (Int.tmod x0 128))) % 256])) else (none)) else (if x3.length < 140737488355328 then (some (strOfNums (x3 ++ [(x0) % 256]))) else (none))
def spec_Var.f (k : Nat) (a0 : Int) : Option (ByteArray) := (spec_l1In.f a0 0 562949953421311).bind fun t205 => (if t205 = true then (spec_Var.l0 k a0 (([] : List Int))) else (some (⟨#[]⟩ : ByteArray)))
theorem spec_Var.mono_l : ∀ k, (∀ y0 y1, LeO (spec_Var.l0 k y0 y1) (spec_Var.l0 (k + 1) y0 y1))
 | 0 => fun _ _ r h => by simp [spec_Var.l0] at h
 | k + 1 => by
  have ih0 := spec_Var.mono_l k
  ·intro y0 y1
   unfold spec_Var.l0
   repeat' first
   | (with_reducible exact ih0 _ _)
   | (with_reducible exact LeO.refl _)
   | (with_reducible exact LeO.none _)
   | (with_reducible refine LeO.ite ?_ ?_)
   | (with_reducible refine LeO.bind ?_ (fun _ => ?_))
   | exact ih0 _ _
   | exact LeO.none _
   | refine LeO.ite ?_ ?_
   | refine LeO.bind ?_ (fun _ => ?_)
theorem spec_Var.mono : ∀ a0 k, LeO (spec_Var.f k a0) (spec_Var.f (k + 1) a0) := by
 intro a0 k
 have ih0 := spec_Var.mono_l k
 unfold spec_Var.f
 repeat' first
   | (with_reducible exact ih0 _ _)
   | (with_reducible exact LeO.refl _)
   | (with_reducible exact LeO.none _)
   | (with_reducible refine LeO.ite ?_ ?_)
   | (with_reducible refine LeO.bind ?_ (fun _ => ?_))
   | exact ih0 _ _
   | exact LeO.none _
   | refine LeO.ite ?_ ?_
   | refine LeO.bind ?_ (fun _ => ?_)
set_option maxHeartbeats 8000000 in
set_option maxRecDepth 100000 in
theorem spec_Var.calls (k : Nat) (a0 : Int) (r : ByteArray) (w : World) (h : spec_Var.f k a0 = some r) :
  Calls Try.prog 52 #[.int .i64 a0] w fun e w' => e = .returned (.string r) ∧ Below w.heap.size w w' := by
 have HB := Aside0.mk (Below.refl w.heap.size w)
 have H : ((spec_l1In.f a0 0 562949953421311).bind fun t205 => (if t205 = true then (spec_Var.l0 k a0 (([] : List Int))) else (some (⟨#[]⟩ : ByteArray)))) = some r := h
 clear h
 replace H := Option.bind_eq_some_iff.mp H
 obtain ⟨t205, A20, H⟩ := H
 replace H : (if t205 = true then (spec_Var.l0 k a0 (([] : List Int))) else (some (⟨#[]⟩ : ByteArray))) = some r := H
 have A2 := Aside0.mk A20
 clear A20
 by_cases c3 : t205 = true
 rotate_left
 ·replace c3 := Bool.eq_false_iff.mpr c3
  subst c3
  have H1 : (some (⟨#[]⟩ : ByteArray)) = some r := by rw [if_neg (show ¬ (false = true) by decide)] at H; exact H
  clear H
  have H := H1
  clear H1
  obtain rfl := Option.some.inj H
  go_enter Try.func52, Try.ntmps52
  go_wp2_with (first | ((with_reducible refine gate_callee (f := 27) rfl ?_); refine goesL_ (some 5) rfl rfl Try.func27 (by kernel_rfl) rfl #[.int .i64 a0, .int .i64 0, .int .i64 562949953421311] rfl (by (try simp only [List.map_toArray, List.map_cons, List.map_nil]); first | done | rfl | (simp only [List.length_drop, List.length_take]; rfl)) ?_; (with_reducible refine (spec_l1In.calls a0 0 562949953421311 false _ A2.out).mono ?_); rintro e w' ⟨rfl, ⟨nd, rfl⟩⟩; refine ⟨_, rfl, ?_⟩))
  go_ret
  exact ⟨by first | rfl | (simp [errW_none, errW_some] <;> rfl) | (simp [*, errW_none, errW_some] <;> rfl), by repeat (first | (with_reducible first | exact HB.out | apply below_alloc | apply pw_below_drewN | apply below_drew1) | exact HB.out)⟩


 subst c3
 have H1 : (spec_Var.l0 k a0 (([] : List Int))) = some r := by rw [if_pos rfl] at H; exact H
 clear H
 have H := H1
 clear H1
 obtain ⟨y206, hy206⟩ : ∃ y_ : List Int, y_ = (([] : List Int)) := ⟨_, rfl⟩
 replace H : (spec_Var.l0 k a0 y206) = some r := by first | (rw [hy206]; with_reducible exact H) | (have H2_ := (Option.bind_some _ _).symm.trans H; rw [hy206]; with_reducible exact H2_) | (have H2_ := (Option.bind_some _ _).symm.trans H; with_reducible exact H2_) | with_reducible exact H | (rw [hy206]; exact H) | exact H
 have Ny206 := Aside0.mk hy206
 clear hy206
 have H' := Aside0.mk H
 clear H
 go_enter Try.func52, Try.ntmps52
 go_wp2_with (first | ((with_reducible refine gate_callee (f := 27) rfl ?_); refine goesL_ (some 5) rfl rfl Try.func27 (by kernel_rfl) rfl #[.int .i64 a0, .int .i64 0, .int .i64 562949953421311] rfl (by (try simp only [List.map_toArray, List.map_cons, List.map_nil]); first | done | rfl | (simp only [List.length_drop, List.length_take]; rfl)) ?_; (with_reducible refine (spec_l1In.calls a0 0 562949953421311 true _ A2.out).mono ?_); rintro e w' ⟨rfl, ⟨nd, rfl⟩⟩; refine ⟨_, rfl, ?_⟩) | ((with_reducible refine gate_dst (N := 7) rfl ?_); refine Kd.R_lit (Kd.int .u8) _ 5 ?hg (N := 7) ?hd (xs := ([] : List Int)) (inner := []) (ok := fun _ => True) (okp := fun _ => True) ?hr ?hp (fun _ hk => hk) trivial (Below.refl _ _) (Nat.le_refl _) (by simp) ?_; (case hd => rfl); (case hg => rfl); (case hr => first | (go_simp; done) | (go_simp; rfl)); (case hp => exact (Reps.none _ _)); intro v207 w4 ho5 hb hg_ hnew_; clear hg_ hnew_; (first | rw [← Ny206.out] at ho5 | (simp only [Int.reduceToNat] at ho5; rw [← Ny206.out] at ho5)); have n0_ := Aside0.mk (Kd.R_lower ho5 (below_size (by repeat (first | (with_reducible first | exact HB.out | apply below_alloc | apply pw_below_drewN | apply below_drew1) | exact HB.out)))); have n1_ := Aside0.mk (below_step (by repeat (first | (with_reducible first | exact HB.out | apply below_alloc | apply pw_below_drewN | apply below_drew1) | exact HB.out)) hb); clear HB; have HO208 := n0_; have HB := n1_; clear n0_ n1_; clear hb ho5))
 go_loopg [0, 3] k (fun kq v0 v3 w' => ∃ (x0_1 : Int) (x3_1 : List Int), v0 = .int .i64 x0_1 ∧ Aside0 (spec_Var.l0 kq x0_1 x3_1 = some r) ∧ Aside0 (kq ≤ k) ∧ Aside0 (Kd.R (Kd.int .u8) 5 w' w.heap.size (fun _ => True) v3 x3_1) ∧ Aside0 (Below w.heap.size w w'))
 case atStart => exact ⟨(a0), (y206), (by first | rfl | (simp; done) | (simp [*]; done) | (simp; exact (fun (l : List UInt8) => (by cases l <;> rfl : l.isEmpty = !(l != []))) _)), H', ⟨Nat.le_refl _⟩, ⟨by (with_reducible repeat (first | apply Kd.R_alloc | apply Kd.R_drewN | apply Kd.R_drew)); exact HO208.out⟩, ⟨by repeat (first | (with_reducible first | exact HB.out | apply below_alloc | apply pw_below_drewN | apply below_drew1) | exact HB.out)⟩⟩
 case round =>
  clear H'
  try clear c2
  try clear p2
  try clear c3
  try clear c5
  obtain ⟨x0_1, x3_1, rfl, HA, HK1, HO_3, HB⟩ := hrel
  cases gk with
  | zero => exact absurd HA.out (by simp [spec_Var.l0])
  | succ k1 =>
   have H := HA.out
   clear HA
   simp only [spec_Var.l0] at H
   by_cases c6 : x0_1 ≥ 128
   rotate_left
   ·rw [if_neg c6] at H
    have c6b0 : decide (128 ≤ x0_1) = false := decide_eq_false c6
    clear c6
    by_cases c9 : x3_1.length < 140737488355328
    rotate_left
    ·rw [if_neg c9] at H
     exact absurd H (by simp)
    rw [if_pos c9] at H
    have LMc9 := Aside0.mk c9
    clear c9
    obtain ⟨y212, hy212⟩ : ∃ y_ : List Int, y_ = (x3_1 ++ [(x0_1) % 256]) := ⟨_, rfl⟩
    replace H : (some (strOfNums y212)) = some r := by first | (rw [hy212]; with_reducible exact H) | (have H2_ := (Option.bind_some _ _).symm.trans H; rw [hy212]; with_reducible exact H2_) | (have H2_ := (Option.bind_some _ _).symm.trans H; with_reducible exact H2_) | with_reducible exact H | (rw [hy212]; exact H) | exact H
    have Ny212 := Aside0.mk hy212
    clear hy212
    obtain rfl := Option.some.inj H
    go_wp2_with (first | ((with_reducible refine gate_builtin (b := .append) (xs := #[.tmp 19, .tmp 22]) rfl ?_); at_builtin; refine Kd.R_append (Kd.int .u8) (w0 := w) w.heap.size rfl (.tmp 19) (.tmp 22) 87 5 (.int .u8 0) 1 rfl Try.underlying87 info5 rfl (by decide) (by omega) u3 x3_1 ((x0_1) % 256) [.int .u8 ((x0_1) % 256)] (fun _ => True) (fun _ => False) rfl rfl ?aP (fun _ hk => hk.elim) ?aF ?aO ?aB ?aS ?aL ?_; (case aP => exact rfl); (case aB => exact (by repeat (first | (with_reducible first | exact HB.out | apply below_alloc | apply pw_below_drewN | apply below_drew1) | exact HB.out))); (case aF => exact (fun _ _ => trivial)); (case aO => exact (by (with_reducible repeat (first | apply Kd.R_alloc | apply Kd.R_drewN | apply Kd.R_drew)); exact HO_3.out)); (case aS => exact (below_size (by repeat (first | (with_reducible first | exact HB.out | apply below_alloc | apply pw_below_drewN | apply below_drew1) | exact HB.out)))); (case aL => have := LMc9.out; omega); intro v213 w10 ho hb hg hat; rw [← Ny212.out] at ho; have n0_ := Aside0.mk (hb); have n1_ := Aside0.mk (ho); clear HB; clear HO_3; have HB := n0_; have HO214 := n1_; clear n0_ n1_; clear ho hb hg hat; have hcv11 := own_string (P := Try.prog) Try.underlying87 Try.underlying5 Try.underlying9 (Kd.own_of_R HO214.out)))
    go_ret
    exact ⟨by first | rfl | (simp [errW_none, errW_some] <;> rfl) | (simp [*, errW_none, errW_some] <;> rfl), by repeat (first | (with_reducible first | exact HB.out | apply below_alloc | apply pw_below_drewN | apply below_drew1) | exact HB.out)⟩
   rw [if_pos c6] at H
   have c6b0 : decide (128 ≤ x0_1) = true := decide_eq_true c6
   clear c6
   by_cases c7 : x3_1.length < 140737488355328
   rotate_left
   ·rw [if_neg c7] at H
    exact absurd H (by simp)
   rw [if_pos c7] at H
   have LMc7 := Aside0.mk c7
   clear c7
   obtain ⟨y209, hy209⟩ : ∃ y_ : List Int, y_ = (x3_1 ++ [(wrap64 (128 + (Int.tmod x0_1 128))) % 256]) := ⟨_, rfl⟩
   replace H : (spec_Var.l0 k1 (wrap64 (Int.tdiv x0_1 128)) y209) = some r := by first | (rw [hy209]; with_reducible exact H) | (have H2_ := (Option.bind_some _ _).symm.trans H; rw [hy209]; with_reducible exact H2_) | (have H2_ := (Option.bind_some _ _).symm.trans H; with_reducible exact H2_) | with_reducible exact H | (rw [hy209]; exact H) | exact H
   have Ny209 := Aside0.mk hy209
   clear hy209
   have H' := Aside0.mk H
   clear H
   go_wp2_with (first | ((with_reducible refine gate_builtin (b := .append) (xs := #[.tmp 10, .tmp 15]) rfl ?_); at_builtin; refine Kd.R_append (Kd.int .u8) (w0 := w) w.heap.size rfl (.tmp 10) (.tmp 15) 87 5 (.int .u8 0) 1 rfl Try.underlying87 info5 rfl (by decide) (by omega) u3 x3_1 ((wrap64 (128 + (Int.tmod x0_1 128))) % 256) [.int .u8 ((wrap64 (128 + (Int.tmod x0_1 128))) % 256)] (fun _ => True) (fun _ => False) rfl rfl ?aP (fun _ hk => hk.elim) ?aF ?aO ?aB ?aS ?aL ?_; (case aP => exact rfl); (case aB => exact (by repeat (first | (with_reducible first | exact HB.out | apply below_alloc | apply pw_below_drewN | apply below_drew1) | exact HB.out))); (case aF => exact (fun _ _ => trivial)); (case aO => exact (by (with_reducible repeat (first | apply Kd.R_alloc | apply Kd.R_drewN | apply Kd.R_drew)); exact HO_3.out)); (case aS => exact (below_size (by repeat (first | (with_reducible first | exact HB.out | apply below_alloc | apply pw_below_drewN | apply below_drew1) | exact HB.out)))); (case aL => have := LMc7.out; omega); intro v210 w8 ho hb hg hat; rw [← Ny209.out] at ho; have n0_ := Aside0.mk (hb); have n1_ := Aside0.mk (ho); clear HB; clear HO_3; have HB := n0_; have HO211 := n1_; clear n0_ n1_; clear ho hb hg hat))
   go_roundg k1
   case measure => have := HK1.out; omega
   case rel => exact ⟨(wrap64 (Int.tdiv x0_1 128)), (y209), (by first | rfl | (simp; done) | (simp [*]; done) | (simp; exact (fun (l : List UInt8) => (by cases l <;> rfl : l.isEmpty = !(l != []))) _)), H', ⟨by have := HK1.out; omega⟩, ⟨by (with_reducible repeat (first | apply Kd.R_alloc | apply Kd.R_drewN | apply Kd.R_drew)); exact HO211.out⟩, ⟨by repeat (first | (with_reducible first | exact HB.out | apply below_alloc | apply pw_below_drewN | apply below_drew1) | exact HB.out)⟩⟩
/-! ### spec_l8Piece: function 53 -/
def spec_l8Piece.f (k : Nat) (a0 : ByteArray) : Option (ByteArray) := (spec_Var.f k (a0.size : Int)).bind fun t215 => (if t215.size + a0.size ≤ 9223372036854775807 then (some (t215 ++ a0)) else (none))
theorem spec_l8Piece.mono : ∀ a0 k, LeO (spec_l8Piece.f k a0) (spec_l8Piece.f (k + 1) a0) := by
 intro a0 k
 unfold spec_l8Piece.f
 repeat' first
   | (with_reducible exact spec_Var.mono _ _)
   | (with_reducible exact LeO.refl _)
   | (with_reducible exact LeO.none _)
   | (with_reducible refine LeO.ite ?_ ?_)
   | (with_reducible refine LeO.bind ?_ (fun _ => ?_))
   | exact spec_Var.mono _ _
   | exact LeO.none _
   | refine LeO.ite ?_ ?_
   | refine LeO.bind ?_ (fun _ => ?_)
set_option maxHeartbeats 8000000 in
set_option maxRecDepth 100000 in
theorem spec_l8Piece.calls (k : Nat) (a0 : ByteArray) (r : ByteArray) (w : World) (h : spec_l8Piece.f k a0 = some r) :
  Calls Try.prog 53 #[.string a0] w fun e w' => e = .returned (.string r) ∧ Below w.heap.size w w' := by
 have HB := Aside0.mk (Below.refl w.heap.size w)
 have H : ((spec_Var.f k (a0.size : Int)).bind fun t215 => (if t215.size + a0.size ≤ 9223372036854775807 then (some (t215 ++ a0)) else (none))) = some r := h
 clear h
 replace H := Option.bind_eq_some_iff.mp H
 obtain ⟨t215, A20, H⟩ := H
 replace H : (if t215.size + a0.size ≤ 9223372036854775807 then (some (t215 ++ a0)) else (none)) = some r := H
 have A2 := Aside0.mk A20
 clear A20
 by_cases c3 : t215.size + a0.size ≤ 9223372036854775807
 rotate_left
 ·rw [if_neg c3] at H
  exact absurd H (by simp)


 rw [if_pos c3] at H
 have c3b0 := eq_true c3
 have c3b1 : decide (t215.size + a0.size ≤ 9223372036854775807) = true := decide_eq_true c3
 try have c3b2 : (9223372036854775807 < t215.size + a0.size) = False := eq_false (Nat.not_lt.2 c3)
 obtain rfl := Option.some.inj H
 go_enter Try.func53, Try.ntmps53
 go_wp2_with (first | ((with_reducible refine gate_callee (f := 52) rfl ?_); refine goesL_ (some 5) rfl rfl Try.func52 (by kernel_rfl) rfl #[.int .i64 (a0.size : Int)] rfl (by (try simp only [List.map_toArray, List.map_cons, List.map_nil]); first | done | rfl | (simp only [List.length_drop, List.length_take]; rfl)) ?_; (with_reducible refine (spec_Var.calls k (a0.size : Int) t215 _ A2.out).mono ?_); rintro e w4 ⟨rfl, hb⟩; refine ⟨_, rfl, ?_⟩; have n0_ := Aside0.mk (below_step (by repeat (first | (with_reducible first | exact HB.out | apply below_alloc | apply pw_below_drewN | apply below_drew1) | exact HB.out)) hb); clear HB; have HB := n0_; clear n0_; (try clear hb); (try clear hb2); (try clear hk); (try clear hi)))
 go_ret
 exact ⟨by first | rfl | (simp [errW_none, errW_some] <;> rfl) | (simp [*, errW_none, errW_some] <;> rfl), by repeat (first | (with_reducible first | exact HB.out | apply below_alloc | apply pw_below_drewN | apply below_drew1) | exact HB.out)⟩
/-! ### spec_ShowVol: function 20 -/
mutual
def spec_ShowVol.l0 : Nat → ByteArray → Int → Int → List (S45) → Option (ByteArray)
 | 0, _, _, _, _ => none
 | k + 1, x3, x4, x217000, x217001 => if x4 < (x217001.length : Int) then (if 0 ≤ x4 then ((spec_Var.f k ((rd_T45 x217001 x4).f0)).bind fun t222 => (if x3.size + t222.size ≤ 9223372036854775807 then ((spec_Var.f k ((rd_T45 x217001 x4).f1)).bind fun t223 => (if (x3 ++ t222).size + t223.size ≤ 9223372036854775807 then ((spec_Var.f k ((rd_T45 x217001 x4).f2)).bind fun t224 => (if ((x3 ++ t222) ++ t223).size + t224.size ≤ 9223372036854775807 then ((spec_Var.f k ((rd_T45 x217001 x4).f3)).bind fun t225 => (if (((x3 ++ t222) ++ t223) ++ t224).size + t225.size ≤ 9223372036854775807 then ((spec_Var.f k ((rd_T45 x217001 x4).f4)).bind fun t226 => (if ((((x3 ++ t222) ++ t223) ++ t224) ++ t225).size + t226.size ≤ 9223372036854775807 then ((spec_Var.f k ((rd_T45 x217001 x4).f7)).bind fun t227 => (if (((((x3 ++ t222) ++ t223) ++ t224) ++ t225) ++ t226).size + t227.size ≤ 9223372036854775807 then ((spec_Var.f k ((rd_T45 x217001 x4).f8)).bind fun t228 => (if ((((((x3 ++ t222) ++ t223) ++ t224) ++ t225) ++ t226) ++ t227).size + t228.size ≤ 9223372036854775807 then ((spec_l8Piece.f k ((rd_T45 x217001 x4).f5)).bind fun t229 => (if (((((((x3 ++ t222) ++ t223) ++ t224) ++ t225) ++ t226) ++ t227) ++ t228).size + t229.size ≤ 9223372036854775807 then ((spec_Var.f k (((rd_T45 x217001 x4).f6).length : Int)).bind fun t230 => (if ((((((((x3 ++ t222) ++ t223) ++ t224) ++ t225) ++ t226) ++ t227) ++ t228) ++ t229).size + t230.size ≤ 9223372036854775807 then (spec_ShowVol.l1 k (((((((((x3 ++ t222) ++ t223) ++ t224) ++ t225) ++ t226) ++ t227) ++ t228) ++ t229) ++ t230) x4 0 x217000 x217001 ((rd_T45 x217001 x4).f0) ((rd_T45 x217001 x4).f1) ((rd_T45 x217001 x4).f2) ((rd_T45 x217001 x4).f3) ((rd_T45 x217001 x4).f4) ((rd_T45 x217001 x4).f5) ((rd_T45 x217001 x4).f6) ((rd_T45 x217001 x4).f7) ((rd_T45 x217001 x4).f8)) else (none))) else (none))) else (none))) else (none))) else (none))) else (none))) else (none))) else (none))) else (none))) else (none)) else (some x3)
def spec_ShowVol.l1 : Nat → ByteArray → Int → Int → Int → List (S45) → Int → Int → Int → Int → Int → ByteArray → List (S68) → Int → Int → Option (ByteArray)
 | 0, _, _, _, _, _, _, _, _, _, _, _, _, _, _ => none
 | k + 1, x3, x4, x6, x217000, x217001, x222000, x222001, x222002, x222003, x222004, x222005, x222006, x222007, x222008 => if x6 < (x222006.length : Int) then (if 0 ≤ x6 then ((spec_l8Piece.f k ((rd_T68 x222006 x6).f0)).bind fun t232 => (if x3.size + t232.size ≤ 9223372036854775807 then ((spec_Var.f k ((rd_T68 x222006 x6).f1)).bind fun t234 => (if (x3 ++ t232).size + t234.size ≤ 9223372036854775807 then (spec_ShowVol.l1 k ((x3 ++ t232) ++ t234) x4 (wrap64 (x6 + 1)) x217000 x217001 x222000 x222001 x222002 x222003 x222004 x222005 x222006 x222007 x222008) else (none))) else (none))) else (none)) else (spec_ShowVol.l0 k x3 (wrap64 (x4 + 1)) x217000 x217001)
end
def spec_ShowVol.f (k : Nat) (a0_0 : Int) (l0_1 : List (S45)) : Option (ByteArray) := (spec_VolOk.f a0_0 l0_1).bind fun t217 => (if t217 = true then ((spec_Var.f k a0_0).bind fun t218 => ((spec_Var.f k (l0_1.length : Int)).bind fun t219 => (if t218.size + t219.size ≤ 9223372036854775807 then (spec_ShowVol.l0 k (t218 ++ t219) 0 a0_0 l0_1) else (none)))) else (some (⟨#[]⟩ : ByteArray)))
theorem spec_ShowVol.mono_l : ∀ k, (∀ y0 y1 y2 y3, LeO (spec_ShowVol.l0 k y0 y1 y2 y3) (spec_ShowVol.l0 (k + 1) y0 y1 y2 y3)) ∧ (∀ y0 y1 y2 y3 y4 y5 y6 y7 y8 y9 y10 y11 y12 y13, LeO (spec_ShowVol.l1 k y0 y1 y2 y3 y4 y5 y6 y7 y8 y9 y10 y11 y12 y13) (spec_ShowVol.l1 (k + 1) y0 y1 y2 y3 y4 y5 y6 y7 y8 y9 y10 y11 y12 y13))
 | 0 => ⟨fun _ _ _ _ r h => by simp [spec_ShowVol.l0] at h, fun _ _ _ _ _ _ _ _ _ _ _ _ _ _ r h => by simp [spec_ShowVol.l1] at h⟩
 | k + 1 => by
  obtain ⟨ih0, ih1⟩ := spec_ShowVol.mono_l k
  refine ⟨?_, ?_⟩
  ·intro y0 y1 y2 y3
   unfold spec_ShowVol.l0
   repeat' first
   | (with_reducible exact ih0 _ _ _ _)
   | (with_reducible exact ih1 _ _ _ _ _ _ _ _ _ _ _ _ _ _)
   | (with_reducible exact spec_Var.mono _ _)
   | (with_reducible exact spec_l8Piece.mono _ _)
   | (with_reducible exact LeO.refl _)
   | (with_reducible exact LeO.none _)
   | (with_reducible refine LeO.ite ?_ ?_)
   | (with_reducible refine LeO.bind ?_ (fun _ => ?_))
   | exact ih0 _ _ _ _
   | exact ih1 _ _ _ _ _ _ _ _ _ _ _ _ _ _
   | exact spec_Var.mono _ _
   | exact spec_l8Piece.mono _ _
   | exact LeO.none _
   | refine LeO.ite ?_ ?_
   | refine LeO.bind ?_ (fun _ => ?_)
  ·intro y0 y1 y2 y3 y4 y5 y6 y7 y8 y9 y10 y11 y12 y13
   unfold spec_ShowVol.l1
   repeat' first
   | (with_reducible exact ih0 _ _ _ _)
   | (with_reducible exact ih1 _ _ _ _ _ _ _ _ _ _ _ _ _ _)
   | (with_reducible exact spec_Var.mono _ _)
   | (with_reducible exact spec_l8Piece.mono _ _)
   | (with_reducible exact LeO.refl _)
   | (with_reducible exact LeO.none _)
   | (with_reducible refine LeO.ite ?_ ?_)
   | (with_reducible refine LeO.bind ?_ (fun _ => ?_))
   | exact ih0 _ _ _ _
   | exact ih1 _ _ _ _ _ _ _ _ _ _ _ _ _ _
   | exact spec_Var.mono _ _
   | exact spec_l8Piece.mono _ _
   | exact LeO.none _
   | refine LeO.ite ?_ ?_
   | refine LeO.bind ?_ (fun _ => ?_)
theorem spec_ShowVol.mono : ∀ a0 a1 k, LeO (spec_ShowVol.f k a0 a1) (spec_ShowVol.f (k + 1) a0 a1) := by
 intro a0 a1 k
 obtain ⟨ih0, ih1⟩ := spec_ShowVol.mono_l k
 unfold spec_ShowVol.f
 repeat' first
   | (with_reducible exact ih0 _ _ _ _)
   | (with_reducible exact ih1 _ _ _ _ _ _ _ _ _ _ _ _ _ _)
   | (with_reducible exact spec_Var.mono _ _)
   | (with_reducible exact spec_l8Piece.mono _ _)
   | (with_reducible exact LeO.refl _)
   | (with_reducible exact LeO.none _)
   | (with_reducible refine LeO.ite ?_ ?_)
   | (with_reducible refine LeO.bind ?_ (fun _ => ?_))
   | exact ih0 _ _ _ _
   | exact ih1 _ _ _ _ _ _ _ _ _ _ _ _ _ _
   | exact spec_Var.mono _ _
   | exact spec_l8Piece.mono _ _
   | exact LeO.none _
   | refine LeO.ite ?_ ?_
   | refine LeO.bind ?_ (fun _ => ?_)
def spec_ShowVol.T3 : Bool × List (List Nat × List Nat) := (true, [([], []), ([0], [0]), ([1], [1]), ([], []), ([3], [3]), ([4], [4]), ([5, 2], [5]), ([2, 6], [2, 6]), ([7, 6, 0, 1, 2, 3, 4, 5, 6, 7], [7])])
def spec_ShowVol.B3 : List Nat := [0, 1, 3, 0, 8, 24, 63, 127, 255]
theorem spec_ShowVol.tab3 : rtab .any (opsOf Try.f20 3) = spec_ShowVol.T3 := by kernel_rfl
theorem spec_ShowVol.bits3 : waitsOk spec_ShowVol.T3.2 spec_ShowVol.B3 = true := by kernel_rfl
def spec_ShowVol.T8 : Bool × List (List Nat × List Nat) := (true, [([], []), ([], []), ([1], [1]), ([2], [2]), ([0, 3], [0, 3]), ([], []), ([5], [5]), ([6, 3], [6]), ([4, 7], [4, 7]), ([], []), ([9], [9]), ([10, 7], [10]), ([8, 11], [8, 11]), ([], []), ([13], [13]), ([14, 11], [14]), ([12, 15], [12, 15]), ([], []), ([17], [17]), ([18, 15], [18]), ([16, 19], [16, 19]), ([], []), ([21], [21]), ([22, 19], [22]), ([20, 23], [20, 23]), ([], []), ([25], [25]), ([26, 23], [26]), ([24, 27], [24, 27]), ([], []), ([29], [29]), ([30, 27], [30]), ([28, 31], [28, 31]), ([], []), ([33], [33]), ([34], [34]), ([35, 31], [35]), ([32, 36], [32, 36]), ([37, 36, 0, 1, 2, 3, 4, 5, 6, 7, 8, 9, 10, 11, 12, 13, 14, 15, 16, 17, 18, 19, 20, 21, 22, 23, 24, 25, 26, 27, 28, 29, 30, 31, 32, 33, 34, 35, 36, 37], [0, 37])])
def spec_ShowVol.B8 : List Nat := [0, 0, 2, 6, 15, 0, 32, 110, 255, 0, 512, 1774, 4095, 0, 8192, 28398, 65535, 0, 131072, 454382, 1048575, 0, 2097152, 7270126, 16777215, 0, 33554432, 116322030, 268435455, 0, 536870912, 1861152494, 4294967295, 0, 8589934592, 25769803776, 64138178286, 137438953471, 274877906943]
theorem spec_ShowVol.tab8 : rtab .any (opsOf Try.f20 8) = spec_ShowVol.T8 := by kernel_rfl
theorem spec_ShowVol.bits8 : waitsOk spec_ShowVol.T8.2 spec_ShowVol.B8 = true := by kernel_rfl
def spec_ShowVol.T12 : Bool × List (List Nat × List Nat) := (true, [([], []), ([], []), ([1], [1]), ([], []), ([2, 3], [2, 3]), ([4], [4]), ([5], [5]), ([6], [6]), ([0, 7], [0, 7]), ([], []), ([9], [9]), ([], []), ([10, 11], [10, 11]), ([12], [12]), ([13], [13]), ([14, 7], [14]), ([8, 15], [8, 15]), ([16, 15, 0, 1, 2, 3, 4, 5, 6, 7, 8, 9, 10, 11, 12, 13, 14, 15, 16], [0, 16])])
def spec_ShowVol.B12 : List Nat := [0, 0, 2, 0, 14, 30, 62, 126, 255, 0, 512, 0, 3584, 7680, 15872, 32510, 65535, 131071]
theorem spec_ShowVol.tab12 : rtab .any (opsOf Try.f20 12) = spec_ShowVol.T12 := by kernel_rfl
theorem spec_ShowVol.bits12 : waitsOk spec_ShowVol.T12.2 spec_ShowVol.B12 = true := by kernel_rfl
set_option maxHeartbeats 8000000 in
set_option maxRecDepth 100000 in
theorem spec_ShowVol.calls (k : Nat) (a0_0 : Int) (A0_1 : Option Addr) (c0_1 : Nat) (l0_1 : List (S45)) (r : ByteArray) (w : World) (hr0_1 : Kd.C k45 w A0_1 l0_1.length l0_1) (hc0_1 : l0_1.length ≤ c0_1) (h : spec_ShowVol.f k a0_0 l0_1 = some r) :
  Calls Try.prog 20 #[.agg #[.int .i64 a0_0, .slice A0_1 l0_1.length c0_1]] w fun e w' => e = .returned (.string r) ∧ Below w.heap.size w w' := by
 have hu29 := Try.underlying29
 have hu45 := Try.underlying45
 have HR0_1 := Aside0.mk hr0_1
 have HC0_1 := Aside0.mk hc0_1
 clear hr0_1 hc0_1
 have HB := Aside0.mk (Below.refl w.heap.size w)
 have H : ((spec_VolOk.f a0_0 l0_1).bind fun t217 => (if t217 = true then ((spec_Var.f k a0_0).bind fun t218 => ((spec_Var.f k (l0_1.length : Int)).bind fun t219 => (if t218.size + t219.size ≤ 9223372036854775807 then (spec_ShowVol.l0 k (t218 ++ t219) 0 a0_0 l0_1) else (none)))) else (some (⟨#[]⟩ : ByteArray)))) = some r := h
 clear h
 replace H := Option.bind_eq_some_iff.mp H
 obtain ⟨t217, A20, H⟩ := H
 replace H : (if t217 = true then ((spec_Var.f k a0_0).bind fun t218 => ((spec_Var.f k (l0_1.length : Int)).bind fun t219 => (if t218.size + t219.size ≤ 9223372036854775807 then (spec_ShowVol.l0 k (t218 ++ t219) 0 a0_0 l0_1) else (none)))) else (some (⟨#[]⟩ : ByteArray))) = some r := H
 have A2 := Aside0.mk A20
 clear A20
 by_cases c3 : t217 = true
 rotate_left
 ·replace c3 := Bool.eq_false_iff.mpr c3
  subst c3
  have H1 : (some (⟨#[]⟩ : ByteArray)) = some r := by rw [if_neg (show ¬ (false = true) by decide)] at H; exact H
  clear H
  have H := H1
  clear H1
  obtain rfl := Option.some.inj H
  go_enter Try.func20, Try.ntmps20
  go_wp2_with (first | ((with_reducible refine gate_dst (N := 1) rfl ?_); refine box_event ?hg (N := 1) ?hd (cs := #[.int .i64 a0_0, .slice A0_1 l0_1.length c0_1]) (t := 29) ?hr ?_; (case hd => rfl); (case hg => rfl); (case hr => first | (go_simp; done) | (go_simp; rfl)); intro gb216 hg w62 hbox hb; have n0_ := Aside0.mk (below_step (by repeat (first | (with_reducible first | exact HB.out | apply below_alloc | apply pw_below_drewN | apply below_drew1) | exact HB.out)) hb); have n1_ := Aside0.mk (hbox); have n2_ := Aside0.mk ((by rw [hg]; exact (below_size (by repeat (first | (with_reducible first | exact HB.out | apply below_alloc | apply pw_below_drewN | apply below_drew1) | exact HB.out))) : w.heap.size ≤ gb216)); have n3_ := Aside0.mk ((by rw [hg]; exact (below_size (by repeat (first | (with_reducible first | exact HB.out | apply below_alloc | apply pw_below_drewN | apply below_drew1) | exact HB.out))) : w.heap.size ≤ gb216)); clear HB; have HB := n0_; have BK216 := n1_; have GW216 := n2_; have GE216 := n3_; clear n0_ n1_ n2_ n3_; clear hb hbox hg; have hcz63_0 : w62.cell? ⟨gb216, 0, none⟩ = some (.int .i64 a0_0) := (blk_cell BK216.out 0).trans rfl; have hcz63_1 : w62.cell? ⟨gb216, 1, none⟩ = some (.slice A0_1 l0_1.length c0_1) := (blk_cell BK216.out 1).trans rfl; have hfz63_0 := blk_frozen BK216.out 0; have hfz63_1 := blk_frozen BK216.out 1) | ((with_reducible refine gate_callee (f := 10) rfl ?_); refine goesL_ (some 8) rfl rfl Try.func10 (by kernel_rfl) rfl #[.agg #[.int .i64 a0_0, .slice A0_1 l0_1.length c0_1]] rfl (by (try simp only [List.map_toArray, List.map_cons, List.map_nil]); first | done | rfl | (simp only [List.length_drop, List.length_take]; rfl)) ?_; (with_reducible refine (spec_VolOk.calls a0_0 _ _ l0_1 false _ ?side1 ?side2 A2.out).mono ?_); (case side1 => repeat (first | exact (Kd.C_below HR0_1.out HB.out) | (with_reducible refine Kd.C_alloc ?_ _) | (with_reducible refine Kd.C_drewN ?_ _) | (with_reducible refine Kd.C_drew ?_))); (case side2 => exact HC0_1.out); rintro e w64 ⟨rfl, hb⟩; refine ⟨_, rfl, ?_⟩; have n0_ := Aside0.mk (blk_below (g := gb216) (o := .cells #[.int .i64 a0_0, .slice A0_1 l0_1.length c0_1] 29 (0, 0)) (by (with_reducible repeat (first | refine blk_drewN ?_ _ | refine blk_drew ?_ | refine blk_alloc ?_ _)); exact BK216.out) hb); have n1_ := Aside0.mk (below_step (by repeat (first | (with_reducible first | exact HB.out | apply below_alloc | apply pw_below_drewN | apply below_drew1 | refine below_set ?_ GE216.out) | exact HB.out)) hb); clear BK216; clear HB; have BK216 := n0_; have HB := n1_; clear n0_ n1_; (try clear hb); (try clear hb2); (try clear hk); (try clear hi)))
  go_ret
  exact ⟨by first | rfl | (simp [errW_none, errW_some] <;> rfl) | (simp [*, errW_none, errW_some] <;> rfl), by repeat (first | (with_reducible first | exact HB.out | apply below_alloc | apply pw_below_drewN | apply below_drew1 | refine below_set ?_ GE216.out) | exact HB.out)⟩


 subst c3
 have H1 : ((spec_Var.f k a0_0).bind fun t218 => ((spec_Var.f k (l0_1.length : Int)).bind fun t219 => (if t218.size + t219.size ≤ 9223372036854775807 then (spec_ShowVol.l0 k (t218 ++ t219) 0 a0_0 l0_1) else (none)))) = some r := by rw [if_pos rfl] at H; exact H
 clear H
 have H := H1
 clear H1
 replace H := Option.bind_eq_some_iff.mp H
 obtain ⟨t218, A40, H⟩ := H
 replace H : ((spec_Var.f k (l0_1.length : Int)).bind fun t219 => (if t218.size + t219.size ≤ 9223372036854775807 then (spec_ShowVol.l0 k (t218 ++ t219) 0 a0_0 l0_1) else (none))) = some r := H
 have A4 := Aside0.mk A40
 clear A40
 replace H := Option.bind_eq_some_iff.mp H
 obtain ⟨t219, A50, H⟩ := H
 replace H : (if t218.size + t219.size ≤ 9223372036854775807 then (spec_ShowVol.l0 k (t218 ++ t219) 0 a0_0 l0_1) else (none)) = some r := H
 have A5 := Aside0.mk A50
 clear A50
 by_cases c6 : t218.size + t219.size ≤ 9223372036854775807
 rotate_left
 ·rw [if_neg c6] at H
  exact absurd H (by simp)
 rw [if_pos c6] at H
 have c6b0 := eq_true c6
 have c6b1 : decide (t218.size + t219.size ≤ 9223372036854775807) = true := decide_eq_true c6
 try have c6b2 : (9223372036854775807 < t218.size + t219.size) = False := eq_false (Nat.not_lt.2 c6)
 have H' := Aside0.mk H
 clear H
 go_enter Try.func20, Try.ntmps20
 try go_wp2_with (first | ((with_reducible refine gate_dst (N := 1) rfl ?_); refine box_event ?hg (N := 1) ?hd (cs := #[.int .i64 a0_0, .slice A0_1 l0_1.length c0_1]) (t := 29) ?hr ?_; (case hd => rfl); (case hg => rfl); (case hr => first | (go_simp; done) | (go_simp; rfl)); intro gb216 hg w7 hbox hb; have n0_ := Aside0.mk (below_step (by repeat (first | (with_reducible first | exact HB.out | apply below_alloc | apply pw_below_drewN | apply below_drew1) | exact HB.out)) hb); have n1_ := Aside0.mk (hbox); have n2_ := Aside0.mk ((by rw [hg]; exact (below_size (by repeat (first | (with_reducible first | exact HB.out | apply below_alloc | apply pw_below_drewN | apply below_drew1) | exact HB.out))) : w.heap.size ≤ gb216)); have n3_ := Aside0.mk ((by rw [hg]; exact (below_size (by repeat (first | (with_reducible first | exact HB.out | apply below_alloc | apply pw_below_drewN | apply below_drew1) | exact HB.out))) : w.heap.size ≤ gb216)); clear HB; have HB := n0_; have BK216 := n1_; have GW216 := n2_; have GE216 := n3_; clear n0_ n1_ n2_ n3_; clear hb hbox hg; have hcz8_0 : w7.cell? ⟨gb216, 0, none⟩ = some (.int .i64 a0_0) := (blk_cell BK216.out 0).trans rfl; have hcz8_1 : w7.cell? ⟨gb216, 1, none⟩ = some (.slice A0_1 l0_1.length c0_1) := (blk_cell BK216.out 1).trans rfl; have hfz8_0 := blk_frozen BK216.out 0; have hfz8_1 := blk_frozen BK216.out 1) | ((with_reducible refine gate_callee (f := 10) rfl ?_); refine goesL_ (some 8) rfl rfl Try.func10 (by kernel_rfl) rfl #[.agg #[.int .i64 a0_0, .slice A0_1 l0_1.length c0_1]] rfl (by (try simp only [List.map_toArray, List.map_cons, List.map_nil]); first | done | rfl | (simp only [List.length_drop, List.length_take]; rfl)) ?_; (with_reducible refine (spec_VolOk.calls a0_0 _ _ l0_1 true _ ?side1 ?side2 A2.out).mono ?_); (case side1 => repeat (first | exact (Kd.C_below HR0_1.out HB.out) | (with_reducible refine Kd.C_alloc ?_ _) | (with_reducible refine Kd.C_drewN ?_ _) | (with_reducible refine Kd.C_drew ?_))); (case side2 => exact HC0_1.out); rintro e w9 ⟨rfl, hb⟩; refine ⟨_, rfl, ?_⟩; have n0_ := Aside0.mk (blk_below (g := gb216) (o := .cells #[.int .i64 a0_0, .slice A0_1 l0_1.length c0_1] 29 (0, 0)) (by (with_reducible repeat (first | refine blk_drewN ?_ _ | refine blk_drew ?_ | refine blk_alloc ?_ _)); exact BK216.out) hb); have n1_ := Aside0.mk (below_step (by repeat (first | (with_reducible first | exact HB.out | apply below_alloc | apply pw_below_drewN | apply below_drew1 | refine below_set ?_ GE216.out) | exact HB.out)) hb); clear BK216; clear HB; have BK216 := n0_; have HB := n1_; clear n0_ n1_; (try clear hb); (try clear hb2); (try clear hk); (try clear hi)))
 have n0_ := Aside0.mk (blk_drew BK216.out)
 have n1_ := Aside0.mk (below_drew1 HB.out)
 clear BK216
 clear HB
 have BK216 := n0_
 have HB := n1_
 clear n0_ n1_
 refine start_ (n := 9) (S := fun w' => w'.cell? ⟨gb216, 0, none⟩ = some (.int .i64 a0_0) ∧ w'.cell? ⟨gb216, 1, none⟩ = some (.slice A0_1 l0_1.length c0_1)) (ds := []) #[false, false, false, false, false, false, false, false, false] (by kernel_rfl) rfl rfl ⟨(blk_cell BK216.out 0).trans rfl, (blk_cell BK216.out 1).trans rfl⟩ (fun hHeld => ?_); refine with_tabW spec_ShowVol.tab3 spec_ShowVol.bits3 (fun HT_ HW_ => ?_)
 generalize w9.drew = w10 at BK216 HB hHeld ⊢
 refine pure_ (i := 0) (N := some 10) (v := ?_) (a' := ?_) #[true, false, false, false, false, false, false, false, false] rfl rfl (any_of HT_.out (by kernel_rfl)) (fun _ _ _ h => h) (Or.inl ⟨by rfl, ?_⟩) ?_ ?_
 rotate_left
 ·intro w'
  go_simp
  with_reducible rfl
 rotate_left
 ·simp only [Act.put, List.setIfInBounds_toArray, List.set_cons_zero, List.set_cons_succ, i64_w, i32_w]
  rfl
 refine pure_ (i := 3) (N := some 13) (v := ?_) (a' := ?_) #[true, false, false, true, false, false, false, false, false] rfl rfl (any_of HT_.out (by kernel_rfl)) (fun _ _ _ h => h) (Or.inl ⟨by rfl, ?_⟩) ?_ ?_
 rotate_left
 ·intro w'
  go_simp
  with_reducible rfl
 rotate_left
 ·simp only [Act.put, List.setIfInBounds_toArray, List.set_cons_zero, List.set_cons_succ, i64_w, i32_w]
  rfl
 refine take_ (i := 1) (N := some 11) (v := ?_) (a' := ?_) #[true, true, false, true, false, false, false, false, false] rfl rfl (take_ofW HT_.out HW_.out (by kernel_rfl)) (fun _ _ _ h => h) (Or.inl ⟨by rfl, ?_⟩) hHeld ?_ ?_
 rotate_left
 ·rintro w' ⟨s0, s1⟩
  go_simp
  with_reducible rfl
 rotate_left
 ·simp only [Act.put, List.setIfInBounds_toArray, List.set_cons_zero, List.set_cons_succ, i64_w, i32_w]
  rfl
 refine take_ (i := 4) (N := some 14) (v := ?_) (a' := ?_) #[true, true, false, true, true, false, false, false, false] rfl rfl (take_ofW HT_.out HW_.out (by kernel_rfl)) (fun _ _ _ h => h) (Or.inl ⟨by rfl, ?_⟩) hHeld ?_ ?_
 rotate_left
 ·rintro w' ⟨s0, s1⟩
  go_simp
  with_reducible rfl
 rotate_left
 ·simp only [Act.put, List.setIfInBounds_toArray, List.set_cons_zero, List.set_cons_succ, i64_w, i32_w]
  rfl
 refine pure_ (i := 5) (N := some 15) (v := ?_) (a' := ?_) #[true, true, false, true, true, true, false, false, false] rfl rfl (any_of HT_.out (by kernel_rfl)) (fun _ _ _ h => h) (Or.inl ⟨by rfl, ?_⟩) ?_ ?_
 rotate_left
 ·intro w'
  go_simp
  with_reducible rfl
 rotate_left
 ·simp only [Act.put, List.setIfInBounds_toArray, List.set_cons_zero, List.set_cons_succ, i64_w, i32_w]
  rfl
 refine one_ (i := 2) (N := some 12) #[true, true, true, true, true, true, false, false, false] rfl rfl (one_of HT_.out (by kernel_rfl)) (by decide) (fun K hK => ?_)
 refine goes_ Try.func52 (by kernel_rfl) rfl #[.int .i64 a0_0] (by rfl) rfl rfl (by (try simp only [List.map_toArray, List.map_cons, List.map_nil]); first | done | rfl | (simp only [List.length_drop, List.length_take]; rfl)) ?_
 with_reducible refine (spec_Var.calls k a0_0 t218 _ A4.out).mono ?_
 rintro e w11 ⟨rfl, hb⟩
 refine ⟨_, rfl, ?_⟩
 have n0_ := Aside0.mk (blk_below (g := gb216) (o := .cells #[.int .i64 a0_0, .slice A0_1 l0_1.length c0_1] 29 (0, 0)) (by (with_reducible repeat (first | refine blk_drewN ?_ _ | refine blk_drew ?_ | refine blk_alloc ?_ _)); exact BK216.out) hb)
 have n1_ := Aside0.mk (below_step (by repeat (first | (with_reducible first | exact HB.out | apply below_alloc | apply pw_below_drewN | apply below_drew1 | refine below_set ?_ GE216.out) | exact HB.out)) hb)
 clear BK216
 clear HB
 have BK216 := n0_
 have HB := n1_
 clear n0_ n1_
 (try clear hb)
 (try clear hb2)
 (try clear hk)
 (try clear hi)
 refine hK.out _ _ ⟨(blk_cell BK216.out 0).trans rfl, (blk_cell BK216.out 1).trans rfl⟩ (fun hHeld => ?_)
 clear hK K
 refine norm_ (a' := ?_) ?_ ?_
 rotate_left
 ·show Act.put _ (some 12) _ = _
  simp only [Act.put, List.setIfInBounds_toArray, List.set_cons_zero, List.set_cons_succ, i64_w, i32_w]
  rfl
 refine one_ (i := 6) (N := some 16) #[true, true, true, true, true, true, true, false, false] rfl rfl (one_of HT_.out (by kernel_rfl)) (by decide) (fun K hK => ?_)
 refine goes_ Try.func52 (by kernel_rfl) rfl #[.int .i64 (l0_1.length : Int)] (by rfl) rfl rfl (by (try simp only [List.map_toArray, List.map_cons, List.map_nil]); first | done | rfl | (simp only [List.length_drop, List.length_take]; rfl)) ?_
 with_reducible refine (spec_Var.calls k (l0_1.length : Int) t219 _ A5.out).mono ?_
 rintro e w12 ⟨rfl, hb⟩
 refine ⟨_, rfl, ?_⟩
 have n0_ := Aside0.mk (blk_below (g := gb216) (o := .cells #[.int .i64 a0_0, .slice A0_1 l0_1.length c0_1] 29 (0, 0)) (by (with_reducible repeat (first | refine blk_drewN ?_ _ | refine blk_drew ?_ | refine blk_alloc ?_ _)); exact BK216.out) hb)
 have n1_ := Aside0.mk (below_step (by repeat (first | (with_reducible first | exact HB.out | apply below_alloc | apply pw_below_drewN | apply below_drew1 | refine below_set ?_ GE216.out) | exact HB.out)) hb)
 clear BK216
 clear HB
 have BK216 := n0_
 have HB := n1_
 clear n0_ n1_
 (try clear hb)
 (try clear hb2)
 (try clear hk)
 (try clear hi)
 refine hK.out _ _ ⟨(blk_cell BK216.out 0).trans rfl, (blk_cell BK216.out 1).trans rfl⟩ (fun hHeld => ?_)
 clear hK K
 refine norm_ (a' := ?_) ?_ ?_
 rotate_left
 ·show Act.put _ (some 16) _ = _
  simp only [Act.put, List.setIfInBounds_toArray, List.set_cons_zero, List.set_cons_succ, i64_w, i32_w]
  rfl
 refine pure_ (i := 7) (N := some 17) (v := ?_) (a' := ?_) #[true, true, true, true, true, true, true, true, false] rfl rfl (any_of HT_.out (by kernel_rfl)) (fun _ _ _ h => h) (Or.inl ⟨by rfl, ?_⟩) ?_ ?_
 rotate_left
 ·intro w'
  go_simp
  with_reducible rfl
 rotate_left
 ·simp only [Act.put, List.setIfInBounds_toArray, List.set_cons_zero, List.set_cons_succ, i64_w, i32_w]
  rfl
 refine pure_ (i := 8) (N := some 3) (v := ?_) (a' := ?_) #[true, true, true, true, true, true, true, true, true] rfl rfl (any_of HT_.out (by kernel_rfl)) (fun _ _ _ h => h) (Or.inl ⟨by rfl, ?_⟩) ?_ ?_
 rotate_left
 ·intro w'
  go_simp
  with_reducible rfl
 rotate_left
 ·simp only [Act.put, List.setIfInBounds_toArray, List.set_cons_zero, List.set_cons_succ, i64_w, i32_w]
  rfl
 refine done_ (done_of HT_.out (by kernel_rfl)) ?_
 try go_wp2
 go_loopg [3, 4] k (fun kq v3 v4 w' => ∃ (x3_1 : ByteArray) (x4_1 : Int), v3 = .string x3_1 ∧ v4 = .int .i64 x4_1 ∧ Aside0 (spec_ShowVol.l0 kq x3_1 x4_1 a0_0 l0_1 = some r) ∧ Aside0 (kq ≤ k) ∧ Aside0 (w'.heap[gb216]? = some (.cells #[.int .i64 a0_0, (.slice A0_1 l0_1.length c0_1)] 29 (0, 0))) ∧ Aside0 (Below w.heap.size w w'))
 case atStart => exact ⟨(t218 ++ t219), (0), (by first | rfl | (simp; done) | (simp [*]; done) | (simp; exact (fun (l : List UInt8) => (by cases l <;> rfl : l.isEmpty = !(l != []))) _)), (by first | rfl | (simp; done) | (simp [*]; done) | (simp; exact (fun (l : List UInt8) => (by cases l <;> rfl : l.isEmpty = !(l != []))) _)), H', ⟨Nat.le_refl _⟩, ⟨by (with_reducible repeat (first | refine blk_drewN ?_ _ | refine blk_drew ?_ | refine blk_alloc ?_ _)); exact BK216.out⟩, ⟨by repeat (first | (with_reducible first | exact HB.out | apply below_alloc | apply pw_below_drewN | apply below_drew1 | refine below_set ?_ GE216.out) | exact HB.out)⟩⟩
 case round =>
  clear H'
  try clear c1
  try clear c2
  try clear p2
  try clear c3
  try clear c5
  try clear c6
  try clear c6b0
  try clear c6b1
  try clear c6b2
  try clear c10
  try clear hcz8_0
  try clear hcz8_1
  try clear hfz8_0
  try clear hfz8_1
  obtain ⟨x3_1, x4_1, rfl, rfl, HA, HK1, BK216, HB⟩ := hrel
  cases gk with
  | zero => exact absurd HA.out (by simp [spec_ShowVol.l0])
  | succ k1 =>
   have H := HA.out
   clear HA
   simp only [spec_ShowVol.l0] at H
   by_cases c13 : x4_1 < (l0_1.length : Int)
   rotate_left
   ·rw [if_neg c13] at H
    have c13b0 : decide (x4_1 < (l0_1.length : Int)) = false := decide_eq_false c13
    clear c13
    obtain rfl := Option.some.inj H
    have hcz61_0 : wr.cell? ⟨gb216, 0, none⟩ = some (.int .i64 a0_0) := (blk_cell BK216.out 0).trans rfl
    have hcz61_1 : wr.cell? ⟨gb216, 1, none⟩ = some (.slice A0_1 l0_1.length c0_1) := (blk_cell BK216.out 1).trans rfl
    have hfz61_0 := blk_frozen BK216.out 0
    have hfz61_1 := blk_frozen BK216.out 1
    go_wp2
    go_ret
    exact ⟨by first | rfl | (simp [errW_none, errW_some] <;> rfl) | (simp [*, errW_none, errW_some] <;> rfl), by repeat (first | (with_reducible first | exact HB.out | apply below_alloc | apply pw_below_drewN | apply below_drew1 | refine below_set ?_ GE216.out) | exact HB.out)⟩
   rw [if_pos c13] at H
   have c13b0 : decide (x4_1 < (l0_1.length : Int)) = true := decide_eq_true c13
   clear c13
   by_cases c14 : 0 ≤ x4_1
   rotate_left
   ·rw [if_neg c14] at H
    exact absurd H (by simp)
   rw [if_pos c14] at H
   have c14b0 : decide (0 ≤ x4_1) = true := decide_eq_true c14
   clear c14
   replace H := Option.bind_eq_some_iff.mp H
   obtain ⟨t222, A150, H⟩ := H
   replace H : (if x3_1.size + t222.size ≤ 9223372036854775807 then ((spec_Var.f k1 ((rd_T45 l0_1 x4_1).f1)).bind fun t223 => (if (x3_1 ++ t222).size + t223.size ≤ 9223372036854775807 then ((spec_Var.f k1 ((rd_T45 l0_1 x4_1).f2)).bind fun t224 => (if ((x3_1 ++ t222) ++ t223).size + t224.size ≤ 9223372036854775807 then ((spec_Var.f k1 ((rd_T45 l0_1 x4_1).f3)).bind fun t225 => (if (((x3_1 ++ t222) ++ t223) ++ t224).size + t225.size ≤ 9223372036854775807 then ((spec_Var.f k1 ((rd_T45 l0_1 x4_1).f4)).bind fun t226 => (if ((((x3_1 ++ t222) ++ t223) ++ t224) ++ t225).size + t226.size ≤ 9223372036854775807 then ((spec_Var.f k1 ((rd_T45 l0_1 x4_1).f7)).bind fun t227 => (if (((((x3_1 ++ t222) ++ t223) ++ t224) ++ t225) ++ t226).size + t227.size ≤ 9223372036854775807 then ((spec_Var.f k1 ((rd_T45 l0_1 x4_1).f8)).bind fun t228 => (if ((((((x3_1 ++ t222) ++ t223) ++ t224) ++ t225) ++ t226) ++ t227).size + t228.size ≤ 9223372036854775807 then ((spec_l8Piece.f k1 ((rd_T45 l0_1 x4_1).f5)).bind fun t229 => (if (((((((x3_1 ++ t222) ++ t223) ++ t224) ++ t225) ++ t226) ++ t227) ++ t228).size + t229.size ≤ 9223372036854775807 then ((spec_Var.f k1 (((rd_T45 l0_1 x4_1).f6).length : Int)).bind fun t230 => (if ((((((((x3_1 ++ t222) ++ t223) ++ t224) ++ t225) ++ t226) ++ t227) ++ t228) ++ t229).size + t230.size ≤ 9223372036854775807 then (spec_ShowVol.l1 k1 (((((((((x3_1 ++ t222) ++ t223) ++ t224) ++ t225) ++ t226) ++ t227) ++ t228) ++ t229) ++ t230) x4_1 0 a0_0 l0_1 ((rd_T45 l0_1 x4_1).f0) ((rd_T45 l0_1 x4_1).f1) ((rd_T45 l0_1 x4_1).f2) ((rd_T45 l0_1 x4_1).f3) ((rd_T45 l0_1 x4_1).f4) ((rd_T45 l0_1 x4_1).f5) ((rd_T45 l0_1 x4_1).f6) ((rd_T45 l0_1 x4_1).f7) ((rd_T45 l0_1 x4_1).f8)) else (none))) else (none))) else (none))) else (none))) else (none))) else (none))) else (none))) else (none))) else (none)) = some r := H
   have A15 := Aside0.mk A150
   clear A150
   by_cases c16 : x3_1.size + t222.size ≤ 9223372036854775807
   rotate_left
   ·rw [if_neg c16] at H
    exact absurd H (by simp)
   rw [if_pos c16] at H
   have c16b0 := eq_true c16
   have c16b1 : decide (x3_1.size + t222.size ≤ 9223372036854775807) = true := decide_eq_true c16
   try have c16b2 : (9223372036854775807 < x3_1.size + t222.size) = False := eq_false (Nat.not_lt.2 c16)
   replace H := Option.bind_eq_some_iff.mp H
   obtain ⟨t223, A170, H⟩ := H
   replace H : (if (x3_1 ++ t222).size + t223.size ≤ 9223372036854775807 then ((spec_Var.f k1 ((rd_T45 l0_1 x4_1).f2)).bind fun t224 => (if ((x3_1 ++ t222) ++ t223).size + t224.size ≤ 9223372036854775807 then ((spec_Var.f k1 ((rd_T45 l0_1 x4_1).f3)).bind fun t225 => (if (((x3_1 ++ t222) ++ t223) ++ t224).size + t225.size ≤ 9223372036854775807 then ((spec_Var.f k1 ((rd_T45 l0_1 x4_1).f4)).bind fun t226 => (if ((((x3_1 ++ t222) ++ t223) ++ t224) ++ t225).size + t226.size ≤ 9223372036854775807 then ((spec_Var.f k1 ((rd_T45 l0_1 x4_1).f7)).bind fun t227 => (if (((((x3_1 ++ t222) ++ t223) ++ t224) ++ t225) ++ t226).size + t227.size ≤ 9223372036854775807 then ((spec_Var.f k1 ((rd_T45 l0_1 x4_1).f8)).bind fun t228 => (if ((((((x3_1 ++ t222) ++ t223) ++ t224) ++ t225) ++ t226) ++ t227).size + t228.size ≤ 9223372036854775807 then ((spec_l8Piece.f k1 ((rd_T45 l0_1 x4_1).f5)).bind fun t229 => (if (((((((x3_1 ++ t222) ++ t223) ++ t224) ++ t225) ++ t226) ++ t227) ++ t228).size + t229.size ≤ 9223372036854775807 then ((spec_Var.f k1 (((rd_T45 l0_1 x4_1).f6).length : Int)).bind fun t230 => (if ((((((((x3_1 ++ t222) ++ t223) ++ t224) ++ t225) ++ t226) ++ t227) ++ t228) ++ t229).size + t230.size ≤ 9223372036854775807 then (spec_ShowVol.l1 k1 (((((((((x3_1 ++ t222) ++ t223) ++ t224) ++ t225) ++ t226) ++ t227) ++ t228) ++ t229) ++ t230) x4_1 0 a0_0 l0_1 ((rd_T45 l0_1 x4_1).f0) ((rd_T45 l0_1 x4_1).f1) ((rd_T45 l0_1 x4_1).f2) ((rd_T45 l0_1 x4_1).f3) ((rd_T45 l0_1 x4_1).f4) ((rd_T45 l0_1 x4_1).f5) ((rd_T45 l0_1 x4_1).f6) ((rd_T45 l0_1 x4_1).f7) ((rd_T45 l0_1 x4_1).f8)) else (none))) else (none))) else (none))) else (none))) else (none))) else (none))) else (none))) else (none)) = some r := H
   have A17 := Aside0.mk A170
   clear A170
   by_cases c18 : (x3_1 ++ t222).size + t223.size ≤ 9223372036854775807
   rotate_left
   ·rw [if_neg c18] at H
    exact absurd H (by simp)
   rw [if_pos c18] at H
   have c18b0 := eq_true c18
   have c18b1 : decide ((x3_1 ++ t222).size + t223.size ≤ 9223372036854775807) = true := decide_eq_true c18
   try have c18b2 : (9223372036854775807 < (x3_1 ++ t222).size + t223.size) = False := eq_false (Nat.not_lt.2 c18)
   have c18q := c18
   simp only [ByteArray.size_append] at c18q
   have c18q0 := eq_true c18q
   have c18q1 := decide_eq_true c18q
   have c18q2 := eq_false (Nat.not_lt.2 c18q)
   replace H := Option.bind_eq_some_iff.mp H
   obtain ⟨t224, A190, H⟩ := H
   replace H : (if ((x3_1 ++ t222) ++ t223).size + t224.size ≤ 9223372036854775807 then ((spec_Var.f k1 ((rd_T45 l0_1 x4_1).f3)).bind fun t225 => (if (((x3_1 ++ t222) ++ t223) ++ t224).size + t225.size ≤ 9223372036854775807 then ((spec_Var.f k1 ((rd_T45 l0_1 x4_1).f4)).bind fun t226 => (if ((((x3_1 ++ t222) ++ t223) ++ t224) ++ t225).size + t226.size ≤ 9223372036854775807 then ((spec_Var.f k1 ((rd_T45 l0_1 x4_1).f7)).bind fun t227 => (if (((((x3_1 ++ t222) ++ t223) ++ t224) ++ t225) ++ t226).size + t227.size ≤ 9223372036854775807 then ((spec_Var.f k1 ((rd_T45 l0_1 x4_1).f8)).bind fun t228 => (if ((((((x3_1 ++ t222) ++ t223) ++ t224) ++ t225) ++ t226) ++ t227).size + t228.size ≤ 9223372036854775807 then ((spec_l8Piece.f k1 ((rd_T45 l0_1 x4_1).f5)).bind fun t229 => (if (((((((x3_1 ++ t222) ++ t223) ++ t224) ++ t225) ++ t226) ++ t227) ++ t228).size + t229.size ≤ 9223372036854775807 then ((spec_Var.f k1 (((rd_T45 l0_1 x4_1).f6).length : Int)).bind fun t230 => (if ((((((((x3_1 ++ t222) ++ t223) ++ t224) ++ t225) ++ t226) ++ t227) ++ t228) ++ t229).size + t230.size ≤ 9223372036854775807 then (spec_ShowVol.l1 k1 (((((((((x3_1 ++ t222) ++ t223) ++ t224) ++ t225) ++ t226) ++ t227) ++ t228) ++ t229) ++ t230) x4_1 0 a0_0 l0_1 ((rd_T45 l0_1 x4_1).f0) ((rd_T45 l0_1 x4_1).f1) ((rd_T45 l0_1 x4_1).f2) ((rd_T45 l0_1 x4_1).f3) ((rd_T45 l0_1 x4_1).f4) ((rd_T45 l0_1 x4_1).f5) ((rd_T45 l0_1 x4_1).f6) ((rd_T45 l0_1 x4_1).f7) ((rd_T45 l0_1 x4_1).f8)) else (none))) else (none))) else (none))) else (none))) else (none))) else (none))) else (none)) = some r := H
   have A19 := Aside0.mk A190
   clear A190
   by_cases c20 : ((x3_1 ++ t222) ++ t223).size + t224.size ≤ 9223372036854775807
   rotate_left
   ·rw [if_neg c20] at H
    exact absurd H (by simp)
   rw [if_pos c20] at H
   have c20b0 := eq_true c20
   have c20b1 : decide (((x3_1 ++ t222) ++ t223).size + t224.size ≤ 9223372036854775807) = true := decide_eq_true c20
   try have c20b2 : (9223372036854775807 < ((x3_1 ++ t222) ++ t223).size + t224.size) = False := eq_false (Nat.not_lt.2 c20)
   have c20q := c20
   simp only [ByteArray.size_append] at c20q
   have c20q0 := eq_true c20q
   have c20q1 := decide_eq_true c20q
   have c20q2 := eq_false (Nat.not_lt.2 c20q)
   replace H := Option.bind_eq_some_iff.mp H
   obtain ⟨t225, A210, H⟩ := H
   replace H : (if (((x3_1 ++ t222) ++ t223) ++ t224).size + t225.size ≤ 9223372036854775807 then ((spec_Var.f k1 ((rd_T45 l0_1 x4_1).f4)).bind fun t226 => (if ((((x3_1 ++ t222) ++ t223) ++ t224) ++ t225).size + t226.size ≤ 9223372036854775807 then ((spec_Var.f k1 ((rd_T45 l0_1 x4_1).f7)).bind fun t227 => (if (((((x3_1 ++ t222) ++ t223) ++ t224) ++ t225) ++ t226).size + t227.size ≤ 9223372036854775807 then ((spec_Var.f k1 ((rd_T45 l0_1 x4_1).f8)).bind fun t228 => (if ((((((x3_1 ++ t222) ++ t223) ++ t224) ++ t225) ++ t226) ++ t227).size + t228.size ≤ 9223372036854775807 then ((spec_l8Piece.f k1 ((rd_T45 l0_1 x4_1).f5)).bind fun t229 => (if (((((((x3_1 ++ t222) ++ t223) ++ t224) ++ t225) ++ t226) ++ t227) ++ t228).size + t229.size ≤ 9223372036854775807 then ((spec_Var.f k1 (((rd_T45 l0_1 x4_1).f6).length : Int)).bind fun t230 => (if ((((((((x3_1 ++ t222) ++ t223) ++ t224) ++ t225) ++ t226) ++ t227) ++ t228) ++ t229).size + t230.size ≤ 9223372036854775807 then (spec_ShowVol.l1 k1 (((((((((x3_1 ++ t222) ++ t223) ++ t224) ++ t225) ++ t226) ++ t227) ++ t228) ++ t229) ++ t230) x4_1 0 a0_0 l0_1 ((rd_T45 l0_1 x4_1).f0) ((rd_T45 l0_1 x4_1).f1) ((rd_T45 l0_1 x4_1).f2) ((rd_T45 l0_1 x4_1).f3) ((rd_T45 l0_1 x4_1).f4) ((rd_T45 l0_1 x4_1).f5) ((rd_T45 l0_1 x4_1).f6) ((rd_T45 l0_1 x4_1).f7) ((rd_T45 l0_1 x4_1).f8)) else (none))) else (none))) else (none))) else (none))) else (none))) else (none)) = some r := H
   have A21 := Aside0.mk A210
   clear A210
   by_cases c22 : (((x3_1 ++ t222) ++ t223) ++ t224).size + t225.size ≤ 9223372036854775807
   rotate_left
   ·rw [if_neg c22] at H
    exact absurd H (by simp)
   rw [if_pos c22] at H
   have c22b0 := eq_true c22
   have c22b1 : decide ((((x3_1 ++ t222) ++ t223) ++ t224).size + t225.size ≤ 9223372036854775807) = true := decide_eq_true c22
   try have c22b2 : (9223372036854775807 < (((x3_1 ++ t222) ++ t223) ++ t224).size + t225.size) = False := eq_false (Nat.not_lt.2 c22)
   have c22q := c22
   simp only [ByteArray.size_append] at c22q
   have c22q0 := eq_true c22q
   have c22q1 := decide_eq_true c22q
   have c22q2 := eq_false (Nat.not_lt.2 c22q)
   replace H := Option.bind_eq_some_iff.mp H
   obtain ⟨t226, A230, H⟩ := H
   replace H : (if ((((x3_1 ++ t222) ++ t223) ++ t224) ++ t225).size + t226.size ≤ 9223372036854775807 then ((spec_Var.f k1 ((rd_T45 l0_1 x4_1).f7)).bind fun t227 => (if (((((x3_1 ++ t222) ++ t223) ++ t224) ++ t225) ++ t226).size + t227.size ≤ 9223372036854775807 then ((spec_Var.f k1 ((rd_T45 l0_1 x4_1).f8)).bind fun t228 => (if ((((((x3_1 ++ t222) ++ t223) ++ t224) ++ t225) ++ t226) ++ t227).size + t228.size ≤ 9223372036854775807 then ((spec_l8Piece.f k1 ((rd_T45 l0_1 x4_1).f5)).bind fun t229 => (if (((((((x3_1 ++ t222) ++ t223) ++ t224) ++ t225) ++ t226) ++ t227) ++ t228).size + t229.size ≤ 9223372036854775807 then ((spec_Var.f k1 (((rd_T45 l0_1 x4_1).f6).length : Int)).bind fun t230 => (if ((((((((x3_1 ++ t222) ++ t223) ++ t224) ++ t225) ++ t226) ++ t227) ++ t228) ++ t229).size + t230.size ≤ 9223372036854775807 then (spec_ShowVol.l1 k1 (((((((((x3_1 ++ t222) ++ t223) ++ t224) ++ t225) ++ t226) ++ t227) ++ t228) ++ t229) ++ t230) x4_1 0 a0_0 l0_1 ((rd_T45 l0_1 x4_1).f0) ((rd_T45 l0_1 x4_1).f1) ((rd_T45 l0_1 x4_1).f2) ((rd_T45 l0_1 x4_1).f3) ((rd_T45 l0_1 x4_1).f4) ((rd_T45 l0_1 x4_1).f5) ((rd_T45 l0_1 x4_1).f6) ((rd_T45 l0_1 x4_1).f7) ((rd_T45 l0_1 x4_1).f8)) else (none))) else (none))) else (none))) else (none))) else (none)) = some r := H
   have A23 := Aside0.mk A230
   clear A230
   by_cases c24 : ((((x3_1 ++ t222) ++ t223) ++ t224) ++ t225).size + t226.size ≤ 9223372036854775807
   rotate_left
   ·rw [if_neg c24] at H
    exact absurd H (by simp)
   rw [if_pos c24] at H
   have c24b0 := eq_true c24
   have c24b1 : decide (((((x3_1 ++ t222) ++ t223) ++ t224) ++ t225).size + t226.size ≤ 9223372036854775807) = true := decide_eq_true c24
   try have c24b2 : (9223372036854775807 < ((((x3_1 ++ t222) ++ t223) ++ t224) ++ t225).size + t226.size) = False := eq_false (Nat.not_lt.2 c24)
   have c24q := c24
   simp only [ByteArray.size_append] at c24q
   have c24q0 := eq_true c24q
   have c24q1 := decide_eq_true c24q
   have c24q2 := eq_false (Nat.not_lt.2 c24q)
   replace H := Option.bind_eq_some_iff.mp H
   obtain ⟨t227, A250, H⟩ := H
   replace H : (if (((((x3_1 ++ t222) ++ t223) ++ t224) ++ t225) ++ t226).size + t227.size ≤ 9223372036854775807 then ((spec_Var.f k1 ((rd_T45 l0_1 x4_1).f8)).bind fun t228 => (if ((((((x3_1 ++ t222) ++ t223) ++ t224) ++ t225) ++ t226) ++ t227).size + t228.size ≤ 9223372036854775807 then ((spec_l8Piece.f k1 ((rd_T45 l0_1 x4_1).f5)).bind fun t229 => (if (((((((x3_1 ++ t222) ++ t223) ++ t224) ++ t225) ++ t226) ++ t227) ++ t228).size + t229.size ≤ 9223372036854775807 then ((spec_Var.f k1 (((rd_T45 l0_1 x4_1).f6).length : Int)).bind fun t230 => (if ((((((((x3_1 ++ t222) ++ t223) ++ t224) ++ t225) ++ t226) ++ t227) ++ t228) ++ t229).size + t230.size ≤ 9223372036854775807 then (spec_ShowVol.l1 k1 (((((((((x3_1 ++ t222) ++ t223) ++ t224) ++ t225) ++ t226) ++ t227) ++ t228) ++ t229) ++ t230) x4_1 0 a0_0 l0_1 ((rd_T45 l0_1 x4_1).f0) ((rd_T45 l0_1 x4_1).f1) ((rd_T45 l0_1 x4_1).f2) ((rd_T45 l0_1 x4_1).f3) ((rd_T45 l0_1 x4_1).f4) ((rd_T45 l0_1 x4_1).f5) ((rd_T45 l0_1 x4_1).f6) ((rd_T45 l0_1 x4_1).f7) ((rd_T45 l0_1 x4_1).f8)) else (none))) else (none))) else (none))) else (none)) = some r := H
   have A25 := Aside0.mk A250
   clear A250
   by_cases c26 : (((((x3_1 ++ t222) ++ t223) ++ t224) ++ t225) ++ t226).size + t227.size ≤ 9223372036854775807
   rotate_left
   ·rw [if_neg c26] at H
    exact absurd H (by simp)
   rw [if_pos c26] at H
   have c26b0 := eq_true c26
   have c26b1 : decide ((((((x3_1 ++ t222) ++ t223) ++ t224) ++ t225) ++ t226).size + t227.size ≤ 9223372036854775807) = true := decide_eq_true c26
   try have c26b2 : (9223372036854775807 < (((((x3_1 ++ t222) ++ t223) ++ t224) ++ t225) ++ t226).size + t227.size) = False := eq_false (Nat.not_lt.2 c26)
   have c26q := c26
   simp only [ByteArray.size_append] at c26q
   have c26q0 := eq_true c26q
   have c26q1 := decide_eq_true c26q
   have c26q2 := eq_false (Nat.not_lt.2 c26q)
   replace H := Option.bind_eq_some_iff.mp H
   obtain ⟨t228, A270, H⟩ := H
   replace H : (if ((((((x3_1 ++ t222) ++ t223) ++ t224) ++ t225) ++ t226) ++ t227).size + t228.size ≤ 9223372036854775807 then ((spec_l8Piece.f k1 ((rd_T45 l0_1 x4_1).f5)).bind fun t229 => (if (((((((x3_1 ++ t222) ++ t223) ++ t224) ++ t225) ++ t226) ++ t227) ++ t228).size + t229.size ≤ 9223372036854775807 then ((spec_Var.f k1 (((rd_T45 l0_1 x4_1).f6).length : Int)).bind fun t230 => (if ((((((((x3_1 ++ t222) ++ t223) ++ t224) ++ t225) ++ t226) ++ t227) ++ t228) ++ t229).size + t230.size ≤ 9223372036854775807 then (spec_ShowVol.l1 k1 (((((((((x3_1 ++ t222) ++ t223) ++ t224) ++ t225) ++ t226) ++ t227) ++ t228) ++ t229) ++ t230) x4_1 0 a0_0 l0_1 ((rd_T45 l0_1 x4_1).f0) ((rd_T45 l0_1 x4_1).f1) ((rd_T45 l0_1 x4_1).f2) ((rd_T45 l0_1 x4_1).f3) ((rd_T45 l0_1 x4_1).f4) ((rd_T45 l0_1 x4_1).f5) ((rd_T45 l0_1 x4_1).f6) ((rd_T45 l0_1 x4_1).f7) ((rd_T45 l0_1 x4_1).f8)) else (none))) else (none))) else (none)) = some r := H
   have A27 := Aside0.mk A270
   clear A270
   by_cases c28 : ((((((x3_1 ++ t222) ++ t223) ++ t224) ++ t225) ++ t226) ++ t227).size + t228.size ≤ 9223372036854775807
   rotate_left
   ·rw [if_neg c28] at H
    exact absurd H (by simp)
   rw [if_pos c28] at H
   have c28b0 := eq_true c28
   have c28b1 : decide (((((((x3_1 ++ t222) ++ t223) ++ t224) ++ t225) ++ t226) ++ t227).size + t228.size ≤ 9223372036854775807) = true := decide_eq_true c28
   try have c28b2 : (9223372036854775807 < ((((((x3_1 ++ t222) ++ t223) ++ t224) ++ t225) ++ t226) ++ t227).size + t228.size) = False := eq_false (Nat.not_lt.2 c28)
   have c28q := c28
   simp only [ByteArray.size_append] at c28q
   have c28q0 := eq_true c28q
   have c28q1 := decide_eq_true c28q
   have c28q2 := eq_false (Nat.not_lt.2 c28q)
   replace H := Option.bind_eq_some_iff.mp H
   obtain ⟨t229, A290, H⟩ := H
   replace H : (if (((((((x3_1 ++ t222) ++ t223) ++ t224) ++ t225) ++ t226) ++ t227) ++ t228).size + t229.size ≤ 9223372036854775807 then ((spec_Var.f k1 (((rd_T45 l0_1 x4_1).f6).length : Int)).bind fun t230 => (if ((((((((x3_1 ++ t222) ++ t223) ++ t224) ++ t225) ++ t226) ++ t227) ++ t228) ++ t229).size + t230.size ≤ 9223372036854775807 then (spec_ShowVol.l1 k1 (((((((((x3_1 ++ t222) ++ t223) ++ t224) ++ t225) ++ t226) ++ t227) ++ t228) ++ t229) ++ t230) x4_1 0 a0_0 l0_1 ((rd_T45 l0_1 x4_1).f0) ((rd_T45 l0_1 x4_1).f1) ((rd_T45 l0_1 x4_1).f2) ((rd_T45 l0_1 x4_1).f3) ((rd_T45 l0_1 x4_1).f4) ((rd_T45 l0_1 x4_1).f5) ((rd_T45 l0_1 x4_1).f6) ((rd_T45 l0_1 x4_1).f7) ((rd_T45 l0_1 x4_1).f8)) else (none))) else (none)) = some r := H
   have A29 := Aside0.mk A290
   clear A290
   by_cases c30 : (((((((x3_1 ++ t222) ++ t223) ++ t224) ++ t225) ++ t226) ++ t227) ++ t228).size + t229.size ≤ 9223372036854775807
   rotate_left
   ·rw [if_neg c30] at H
    exact absurd H (by simp)
   rw [if_pos c30] at H
   have c30b0 := eq_true c30
   have c30b1 : decide ((((((((x3_1 ++ t222) ++ t223) ++ t224) ++ t225) ++ t226) ++ t227) ++ t228).size + t229.size ≤ 9223372036854775807) = true := decide_eq_true c30
   try have c30b2 : (9223372036854775807 < (((((((x3_1 ++ t222) ++ t223) ++ t224) ++ t225) ++ t226) ++ t227) ++ t228).size + t229.size) = False := eq_false (Nat.not_lt.2 c30)
   have c30q := c30
   simp only [ByteArray.size_append] at c30q
   have c30q0 := eq_true c30q
   have c30q1 := decide_eq_true c30q
   have c30q2 := eq_false (Nat.not_lt.2 c30q)
   replace H := Option.bind_eq_some_iff.mp H
   obtain ⟨t230, A310, H⟩ := H
   replace H : (if ((((((((x3_1 ++ t222) ++ t223) ++ t224) ++ t225) ++ t226) ++ t227) ++ t228) ++ t229).size + t230.size ≤ 9223372036854775807 then (spec_ShowVol.l1 k1 (((((((((x3_1 ++ t222) ++ t223) ++ t224) ++ t225) ++ t226) ++ t227) ++ t228) ++ t229) ++ t230) x4_1 0 a0_0 l0_1 ((rd_T45 l0_1 x4_1).f0) ((rd_T45 l0_1 x4_1).f1) ((rd_T45 l0_1 x4_1).f2) ((rd_T45 l0_1 x4_1).f3) ((rd_T45 l0_1 x4_1).f4) ((rd_T45 l0_1 x4_1).f5) ((rd_T45 l0_1 x4_1).f6) ((rd_T45 l0_1 x4_1).f7) ((rd_T45 l0_1 x4_1).f8)) else (none)) = some r := H
   have A31 := Aside0.mk A310
   clear A310
   by_cases c32 : ((((((((x3_1 ++ t222) ++ t223) ++ t224) ++ t225) ++ t226) ++ t227) ++ t228) ++ t229).size + t230.size ≤ 9223372036854775807
   rotate_left
   ·rw [if_neg c32] at H
    exact absurd H (by simp)
   rw [if_pos c32] at H
   have c32b0 := eq_true c32
   have c32b1 : decide (((((((((x3_1 ++ t222) ++ t223) ++ t224) ++ t225) ++ t226) ++ t227) ++ t228) ++ t229).size + t230.size ≤ 9223372036854775807) = true := decide_eq_true c32
   try have c32b2 : (9223372036854775807 < ((((((((x3_1 ++ t222) ++ t223) ++ t224) ++ t225) ++ t226) ++ t227) ++ t228) ++ t229).size + t230.size) = False := eq_false (Nat.not_lt.2 c32)
   have c32q := c32
   simp only [ByteArray.size_append] at c32q
   have c32q0 := eq_true c32q
   have c32q1 := decide_eq_true c32q
   have c32q2 := eq_false (Nat.not_lt.2 c32q)
   have H' := Aside0.mk H
   clear H
   have hcz33_0 : wr.cell? ⟨gb216, 0, none⟩ = some (.int .i64 a0_0) := (blk_cell BK216.out 0).trans rfl
   have hcz33_1 : wr.cell? ⟨gb216, 1, none⟩ = some (.slice A0_1 l0_1.length c0_1) := (blk_cell BK216.out 1).trans rfl
   have hfz33_0 := blk_frozen BK216.out 0
   have hfz33_1 := blk_frozen BK216.out 1
   have p220 : 0 ≤ (x4_1 : Int) := of_decide_eq_true (by first | (with_reducible assumption) | assumption)
   have q220 : x4_1 < (l0_1.length : Int) := of_decide_eq_true (by first | (with_reducible assumption) | assumption)
   obtain ⟨ad220, A220_6, c220_6, e220, hx220_0, hx220_1, hx220_2, hx220_3, hx220_4, hx220_5, hx220_6, hx220_7, hx220_8, hl220_6, hi220_6⟩ := at_T45 HR0_1.out x4_1 p220 q220
   cases e220
   replace hx220_0 := (HB.out.cell (World.block_lt_of_cell? w _ hx220_0)).trans hx220_0
   replace hx220_1 := (HB.out.cell (World.block_lt_of_cell? w _ hx220_1)).trans hx220_1
   replace hx220_2 := (HB.out.cell (World.block_lt_of_cell? w _ hx220_2)).trans hx220_2
   replace hx220_3 := (HB.out.cell (World.block_lt_of_cell? w _ hx220_3)).trans hx220_3
   replace hx220_4 := (HB.out.cell (World.block_lt_of_cell? w _ hx220_4)).trans hx220_4
   replace hx220_5 := (HB.out.cell (World.block_lt_of_cell? w _ hx220_5)).trans hx220_5
   replace hx220_6 := (HB.out.cell (World.block_lt_of_cell? w _ hx220_6)).trans hx220_6
   replace hx220_7 := (HB.out.cell (World.block_lt_of_cell? w _ hx220_7)).trans hx220_7
   replace hx220_8 := (HB.out.cell (World.block_lt_of_cell? w _ hx220_8)).trans hx220_8
   have HR220_6 := Aside0.mk hi220_6
   have HC220_6 := Aside0.mk hl220_6
   clear hi220_6 hl220_6
   replace p220 := eq_true p220
   replace q220 := eq_true q220
   try go_wp2_with (first | ((with_reducible refine gate_dst (N := 5) rfl ?_); refine box_event ?hg (N := 5) ?hd (cs := #[.int .i64 0, .int .i64 0, .int .i64 0, .int .i64 0, .int .i64 0, .string (⟨#[]⟩ : ByteArray), .slice none 0 0, .int .i64 0, .int .i64 0]) (t := 45) ?hr ?_; (case hd => rfl); (case hg => rfl); (case hr => first | (go_simp; done) | (go_simp; rfl)); intro gb221 hg w34 hbox hb; have n0_ := Aside0.mk (blk_below (g := gb216) (o := .cells #[.int .i64 a0_0, .slice (some ad220) l0_1.length c0_1] 29 (0, 0)) (by (with_reducible repeat (first | refine blk_drewN ?_ _ | refine blk_drew ?_ | refine blk_alloc ?_ _)); exact BK216.out) hb); have n1_ := Aside0.mk (below_step (by repeat (first | (with_reducible first | exact HB.out | apply below_alloc | apply pw_below_drewN | apply below_drew1 | refine below_set ?_ GE216.out) | exact HB.out)) hb); have n2_ := Aside0.mk (hbox); have n3_ := Aside0.mk ((by rw [hg]; exact (below_size (by repeat (first | (with_reducible first | exact HB.out | apply below_alloc | apply pw_below_drewN | apply below_drew1 | refine below_set ?_ GE216.out) | exact HB.out))) : w.heap.size ≤ gb221)); have n4_ := Aside0.mk ((by rw [hg]; exact (below_size (by repeat (first | (with_reducible first | exact HB.out | apply below_alloc | apply pw_below_drewN | apply below_drew1 | refine below_set ?_ GE216.out) | exact HB.out))) : w.heap.size ≤ gb221)); have n5_ := Aside0.mk ((by rw [hg]; exact Nat.ne_of_lt (blk_lt (g := gb216) (o := .cells #[.int .i64 a0_0, .slice (some ad220) l0_1.length c0_1] 29 (0, 0)) (by (with_reducible repeat (first | refine blk_drewN ?_ _ | refine blk_drew ?_ | refine blk_alloc ?_ _)); exact BK216.out)) : gb216 ≠ gb221)); have n6_ := Aside0.mk ((by rw [hg]; exact Nat.ne_of_gt (blk_lt (g := gb216) (o := .cells #[.int .i64 a0_0, .slice (some ad220) l0_1.length c0_1] 29 (0, 0)) (by (with_reducible repeat (first | refine blk_drewN ?_ _ | refine blk_drew ?_ | refine blk_alloc ?_ _)); exact BK216.out)) : gb221 ≠ gb216)); clear BK216; clear HB; have BK216 := n0_; have HB := n1_; have BK221 := n2_; have GW221 := n3_; have GE221 := n4_; have NB216_221 := n5_; have NB221_216 := n6_; clear n0_ n1_ n2_ n3_ n4_ n5_ n6_; clear hb hbox hg; have hnb35 := NB221_216.out; have hnc35 := NB216_221.out; have hcz36_0 : w34.cell? ⟨gb221, 0, none⟩ = some (.int .i64 0) := (blk_cell BK221.out 0).trans rfl; have hcz36_1 : w34.cell? ⟨gb221, 1, none⟩ = some (.int .i64 0) := (blk_cell BK221.out 1).trans rfl; have hcz36_2 : w34.cell? ⟨gb221, 2, none⟩ = some (.int .i64 0) := (blk_cell BK221.out 2).trans rfl; have hcz36_3 : w34.cell? ⟨gb221, 3, none⟩ = some (.int .i64 0) := (blk_cell BK221.out 3).trans rfl; have hcz36_4 : w34.cell? ⟨gb221, 4, none⟩ = some (.int .i64 0) := (blk_cell BK221.out 4).trans rfl; have hcz36_5 : w34.cell? ⟨gb221, 5, none⟩ = some (.string (⟨#[]⟩ : ByteArray)) := (blk_cell BK221.out 5).trans rfl; have hcz36_6 : w34.cell? ⟨gb221, 6, none⟩ = some (.slice none 0 0) := (blk_cell BK221.out 6).trans rfl; have hcz36_7 : w34.cell? ⟨gb221, 7, none⟩ = some (.int .i64 0) := (blk_cell BK221.out 7).trans rfl; have hcz36_8 : w34.cell? ⟨gb221, 8, none⟩ = some (.int .i64 0) := (blk_cell BK221.out 8).trans rfl; have hfz36_0 := blk_frozen BK221.out 0; have hfz36_1 := blk_frozen BK221.out 1; have hfz36_2 := blk_frozen BK221.out 2; have hfz36_3 := blk_frozen BK221.out 3; have hfz36_4 := blk_frozen BK221.out 4; have hfz36_5 := blk_frozen BK221.out 5; have hfz36_6 := blk_frozen BK221.out 6; have hfz36_7 := blk_frozen BK221.out 7; have hfz36_8 := blk_frozen BK221.out 8))
   have n0_ : Aside0 ((((((((((w34.setCell ⟨gb221, 0, none⟩ (.int .i64 ((rd_T45 l0_1 x4_1).f0))).setCell ⟨gb221, 1, none⟩ (.int .i64 ((rd_T45 l0_1 x4_1).f1))).setCell ⟨gb221, 2, none⟩ (.int .i64 ((rd_T45 l0_1 x4_1).f2))).setCell ⟨gb221, 3, none⟩ (.int .i64 ((rd_T45 l0_1 x4_1).f3))).setCell ⟨gb221, 4, none⟩ (.int .i64 ((rd_T45 l0_1 x4_1).f4))).setCell ⟨gb221, 5, none⟩ (.string ((rd_T45 l0_1 x4_1).f5))).setCell ⟨gb221, 6, none⟩ (.slice A220_6 ((rd_T45 l0_1 x4_1).f6).length c220_6)).setCell ⟨gb221, 7, none⟩ (.int .i64 ((rd_T45 l0_1 x4_1).f7))).setCell ⟨gb221, 8, none⟩ (.int .i64 ((rd_T45 l0_1 x4_1).f8))).heap[gb216]? = some (.cells #[.int .i64 a0_0, .slice (some ad220) l0_1.length c0_1] 29 (0, 0))) := ⟨by (with_reducible repeat (first | refine blk_drewN ?_ _ | refine blk_drew ?_ | refine blk_alloc ?_ _)); refine blk_far ?_ NB216_221.out _; (with_reducible repeat (first | refine blk_drewN ?_ _ | refine blk_drew ?_ | refine blk_alloc ?_ _)); refine blk_far ?_ NB216_221.out _; (with_reducible repeat (first | refine blk_drewN ?_ _ | refine blk_drew ?_ | refine blk_alloc ?_ _)); refine blk_far ?_ NB216_221.out _; (with_reducible repeat (first | refine blk_drewN ?_ _ | refine blk_drew ?_ | refine blk_alloc ?_ _)); refine blk_far ?_ NB216_221.out _; (with_reducible repeat (first | refine blk_drewN ?_ _ | refine blk_drew ?_ | refine blk_alloc ?_ _)); refine blk_far ?_ NB216_221.out _; (with_reducible repeat (first | refine blk_drewN ?_ _ | refine blk_drew ?_ | refine blk_alloc ?_ _)); refine blk_far ?_ NB216_221.out _; (with_reducible repeat (first | refine blk_drewN ?_ _ | refine blk_drew ?_ | refine blk_alloc ?_ _)); refine blk_far ?_ NB216_221.out _; (with_reducible repeat (first | refine blk_drewN ?_ _ | refine blk_drew ?_ | refine blk_alloc ?_ _)); refine blk_far ?_ NB216_221.out _; (with_reducible repeat (first | refine blk_drewN ?_ _ | refine blk_drew ?_ | refine blk_alloc ?_ _)); refine blk_far ?_ NB216_221.out _; (with_reducible repeat (first | refine blk_drewN ?_ _ | refine blk_drew ?_ | refine blk_alloc ?_ _)); exact BK216.out⟩
   have n1_ : Aside0 ((((((((((w34.setCell ⟨gb221, 0, none⟩ (.int .i64 ((rd_T45 l0_1 x4_1).f0))).setCell ⟨gb221, 1, none⟩ (.int .i64 ((rd_T45 l0_1 x4_1).f1))).setCell ⟨gb221, 2, none⟩ (.int .i64 ((rd_T45 l0_1 x4_1).f2))).setCell ⟨gb221, 3, none⟩ (.int .i64 ((rd_T45 l0_1 x4_1).f3))).setCell ⟨gb221, 4, none⟩ (.int .i64 ((rd_T45 l0_1 x4_1).f4))).setCell ⟨gb221, 5, none⟩ (.string ((rd_T45 l0_1 x4_1).f5))).setCell ⟨gb221, 6, none⟩ (.slice A220_6 ((rd_T45 l0_1 x4_1).f6).length c220_6)).setCell ⟨gb221, 7, none⟩ (.int .i64 ((rd_T45 l0_1 x4_1).f7))).setCell ⟨gb221, 8, none⟩ (.int .i64 ((rd_T45 l0_1 x4_1).f8))).heap[gb221]? = some (.cells #[.int .i64 ((rd_T45 l0_1 x4_1).f0), .int .i64 ((rd_T45 l0_1 x4_1).f1), .int .i64 ((rd_T45 l0_1 x4_1).f2), .int .i64 ((rd_T45 l0_1 x4_1).f3), .int .i64 ((rd_T45 l0_1 x4_1).f4), .string ((rd_T45 l0_1 x4_1).f5), .slice A220_6 ((rd_T45 l0_1 x4_1).f6).length c220_6, .int .i64 ((rd_T45 l0_1 x4_1).f7), .int .i64 ((rd_T45 l0_1 x4_1).f8)] 45 (0, 0))) := ⟨by (with_reducible repeat (first | refine blk_drewN ?_ _ | refine blk_drew ?_ | refine blk_alloc ?_ _)); refine blk_put (cs := #[.int .i64 ((rd_T45 l0_1 x4_1).f0), .int .i64 ((rd_T45 l0_1 x4_1).f1), .int .i64 ((rd_T45 l0_1 x4_1).f2), .int .i64 ((rd_T45 l0_1 x4_1).f3), .int .i64 ((rd_T45 l0_1 x4_1).f4), .string ((rd_T45 l0_1 x4_1).f5), .slice A220_6 ((rd_T45 l0_1 x4_1).f6).length c220_6, .int .i64 ((rd_T45 l0_1 x4_1).f7), .int .i64 0]) ?_ 8 _ rfl; (with_reducible repeat (first | refine blk_drewN ?_ _ | refine blk_drew ?_ | refine blk_alloc ?_ _)); refine blk_put (cs := #[.int .i64 ((rd_T45 l0_1 x4_1).f0), .int .i64 ((rd_T45 l0_1 x4_1).f1), .int .i64 ((rd_T45 l0_1 x4_1).f2), .int .i64 ((rd_T45 l0_1 x4_1).f3), .int .i64 ((rd_T45 l0_1 x4_1).f4), .string ((rd_T45 l0_1 x4_1).f5), .slice A220_6 ((rd_T45 l0_1 x4_1).f6).length c220_6, .int .i64 0, .int .i64 0]) ?_ 7 _ rfl; (with_reducible repeat (first | refine blk_drewN ?_ _ | refine blk_drew ?_ | refine blk_alloc ?_ _)); refine blk_put (cs := #[.int .i64 ((rd_T45 l0_1 x4_1).f0), .int .i64 ((rd_T45 l0_1 x4_1).f1), .int .i64 ((rd_T45 l0_1 x4_1).f2), .int .i64 ((rd_T45 l0_1 x4_1).f3), .int .i64 ((rd_T45 l0_1 x4_1).f4), .string ((rd_T45 l0_1 x4_1).f5), .slice none 0 0, .int .i64 0, .int .i64 0]) ?_ 6 _ rfl; (with_reducible repeat (first | refine blk_drewN ?_ _ | refine blk_drew ?_ | refine blk_alloc ?_ _)); refine blk_put (cs := #[.int .i64 ((rd_T45 l0_1 x4_1).f0), .int .i64 ((rd_T45 l0_1 x4_1).f1), .int .i64 ((rd_T45 l0_1 x4_1).f2), .int .i64 ((rd_T45 l0_1 x4_1).f3), .int .i64 ((rd_T45 l0_1 x4_1).f4), .string (⟨#[]⟩ : ByteArray), .slice none 0 0, .int .i64 0, .int .i64 0]) ?_ 5 _ rfl; (with_reducible repeat (first | refine blk_drewN ?_ _ | refine blk_drew ?_ | refine blk_alloc ?_ _)); refine blk_put (cs := #[.int .i64 ((rd_T45 l0_1 x4_1).f0), .int .i64 ((rd_T45 l0_1 x4_1).f1), .int .i64 ((rd_T45 l0_1 x4_1).f2), .int .i64 ((rd_T45 l0_1 x4_1).f3), .int .i64 0, .string (⟨#[]⟩ : ByteArray), .slice none 0 0, .int .i64 0, .int .i64 0]) ?_ 4 _ rfl; (with_reducible repeat (first | refine blk_drewN ?_ _ | refine blk_drew ?_ | refine blk_alloc ?_ _)); refine blk_put (cs := #[.int .i64 ((rd_T45 l0_1 x4_1).f0), .int .i64 ((rd_T45 l0_1 x4_1).f1), .int .i64 ((rd_T45 l0_1 x4_1).f2), .int .i64 0, .int .i64 0, .string (⟨#[]⟩ : ByteArray), .slice none 0 0, .int .i64 0, .int .i64 0]) ?_ 3 _ rfl; (with_reducible repeat (first | refine blk_drewN ?_ _ | refine blk_drew ?_ | refine blk_alloc ?_ _)); refine blk_put (cs := #[.int .i64 ((rd_T45 l0_1 x4_1).f0), .int .i64 ((rd_T45 l0_1 x4_1).f1), .int .i64 0, .int .i64 0, .int .i64 0, .string (⟨#[]⟩ : ByteArray), .slice none 0 0, .int .i64 0, .int .i64 0]) ?_ 2 _ rfl; (with_reducible repeat (first | refine blk_drewN ?_ _ | refine blk_drew ?_ | refine blk_alloc ?_ _)); refine blk_put (cs := #[.int .i64 ((rd_T45 l0_1 x4_1).f0), .int .i64 0, .int .i64 0, .int .i64 0, .int .i64 0, .string (⟨#[]⟩ : ByteArray), .slice none 0 0, .int .i64 0, .int .i64 0]) ?_ 1 _ rfl; (with_reducible repeat (first | refine blk_drewN ?_ _ | refine blk_drew ?_ | refine blk_alloc ?_ _)); refine blk_put (cs := #[.int .i64 0, .int .i64 0, .int .i64 0, .int .i64 0, .int .i64 0, .string (⟨#[]⟩ : ByteArray), .slice none 0 0, .int .i64 0, .int .i64 0]) ?_ 0 _ rfl; (with_reducible repeat (first | refine blk_drewN ?_ _ | refine blk_drew ?_ | refine blk_alloc ?_ _)); exact BK221.out⟩
   have n2_ : Aside0 (Below w.heap.size w (((((((((w34.setCell ⟨gb221, 0, none⟩ (.int .i64 ((rd_T45 l0_1 x4_1).f0))).setCell ⟨gb221, 1, none⟩ (.int .i64 ((rd_T45 l0_1 x4_1).f1))).setCell ⟨gb221, 2, none⟩ (.int .i64 ((rd_T45 l0_1 x4_1).f2))).setCell ⟨gb221, 3, none⟩ (.int .i64 ((rd_T45 l0_1 x4_1).f3))).setCell ⟨gb221, 4, none⟩ (.int .i64 ((rd_T45 l0_1 x4_1).f4))).setCell ⟨gb221, 5, none⟩ (.string ((rd_T45 l0_1 x4_1).f5))).setCell ⟨gb221, 6, none⟩ (.slice A220_6 ((rd_T45 l0_1 x4_1).f6).length c220_6)).setCell ⟨gb221, 7, none⟩ (.int .i64 ((rd_T45 l0_1 x4_1).f7))).setCell ⟨gb221, 8, none⟩ (.int .i64 ((rd_T45 l0_1 x4_1).f8)))) := ⟨by repeat (first | (with_reducible first | exact HB.out | apply below_alloc | apply pw_below_drewN | apply below_drew1 | refine below_set ?_ GE216.out | refine below_set ?_ GE221.out) | exact HB.out)⟩
   (try clear BK216)
   (try clear BK221)
   (try clear HB)
   generalize (((((((((w34.setCell ⟨gb221, 0, none⟩ (.int .i64 ((rd_T45 l0_1 x4_1).f0))).setCell ⟨gb221, 1, none⟩ (.int .i64 ((rd_T45 l0_1 x4_1).f1))).setCell ⟨gb221, 2, none⟩ (.int .i64 ((rd_T45 l0_1 x4_1).f2))).setCell ⟨gb221, 3, none⟩ (.int .i64 ((rd_T45 l0_1 x4_1).f3))).setCell ⟨gb221, 4, none⟩ (.int .i64 ((rd_T45 l0_1 x4_1).f4))).setCell ⟨gb221, 5, none⟩ (.string ((rd_T45 l0_1 x4_1).f5))).setCell ⟨gb221, 6, none⟩ (.slice A220_6 ((rd_T45 l0_1 x4_1).f6).length c220_6)).setCell ⟨gb221, 7, none⟩ (.int .i64 ((rd_T45 l0_1 x4_1).f7))).setCell ⟨gb221, 8, none⟩ (.int .i64 ((rd_T45 l0_1 x4_1).f8))) = w37 at n0_ n1_ n2_ ⊢
   have BK216 := n0_
   have BK221 := n1_
   have HB := n2_
   clear n0_ n1_ n2_
   have n0_ := Aside0.mk (blk_drew BK216.out)
   have n1_ := Aside0.mk (blk_drew BK221.out)
   have n2_ := Aside0.mk (below_drew1 HB.out)
   clear BK216
   clear BK221
   clear HB
   have BK216 := n0_
   have BK221 := n1_
   have HB := n2_
   clear n0_ n1_ n2_
   refine start_ (n := 39) (S := fun w' => w'.cell? ⟨gb221, 0, none⟩ = some (.int .i64 ((rd_T45 l0_1 x4_1).f0)) ∧ w'.cell? ⟨gb221, 1, none⟩ = some (.int .i64 ((rd_T45 l0_1 x4_1).f1)) ∧ w'.cell? ⟨gb221, 2, none⟩ = some (.int .i64 ((rd_T45 l0_1 x4_1).f2)) ∧ w'.cell? ⟨gb221, 3, none⟩ = some (.int .i64 ((rd_T45 l0_1 x4_1).f3)) ∧ w'.cell? ⟨gb221, 4, none⟩ = some (.int .i64 ((rd_T45 l0_1 x4_1).f4)) ∧ w'.cell? ⟨gb221, 5, none⟩ = some (.string ((rd_T45 l0_1 x4_1).f5)) ∧ w'.cell? ⟨gb221, 6, none⟩ = some (.slice A220_6 ((rd_T45 l0_1 x4_1).f6).length c220_6) ∧ w'.cell? ⟨gb221, 7, none⟩ = some (.int .i64 ((rd_T45 l0_1 x4_1).f7)) ∧ w'.cell? ⟨gb221, 8, none⟩ = some (.int .i64 ((rd_T45 l0_1 x4_1).f8))) (ds := []) #[false, false, false, false, false, false, false, false, false, false, false, false, false, false, false, false, false, false, false, false, false, false, false, false, false, false, false, false, false, false, false, false, false, false, false, false, false, false, false] (by kernel_rfl) rfl rfl ⟨(blk_cell BK221.out 0).trans rfl, (blk_cell BK221.out 1).trans rfl, (blk_cell BK221.out 2).trans rfl, (blk_cell BK221.out 3).trans rfl, (blk_cell BK221.out 4).trans rfl, (blk_cell BK221.out 5).trans rfl, (blk_cell BK221.out 6).trans rfl, (blk_cell BK221.out 7).trans rfl, (blk_cell BK221.out 8).trans rfl⟩ (fun hHeld => ?_); refine with_tabW spec_ShowVol.tab8 spec_ShowVol.bits8 (fun HT_ HW_ => ?_)
   generalize w37.drew = w38 at BK216 BK221 HB hHeld ⊢
   refine pure_ (i := 0) (N := some 30) (v := ?_) (a' := ?_) #[true, false, false, false, false, false, false, false, false, false, false, false, false, false, false, false, false, false, false, false, false, false, false, false, false, false, false, false, false, false, false, false, false, false, false, false, false, false, false] rfl rfl (any_of HT_.out (by kernel_rfl)) (fun _ _ _ h => h) (Or.inl ⟨by rfl, ?_⟩) ?_ ?_
   rotate_left
   ·intro w'
    go_simp
    with_reducible rfl
   rotate_left
   ·simp only [Act.put, List.setIfInBounds_toArray, List.set_cons_zero, List.set_cons_succ, i64_w, i32_w]
    rfl
   refine pure_ (i := 1) (N := some 31) (v := ?_) (a' := ?_) #[true, true, false, false, false, false, false, false, false, false, false, false, false, false, false, false, false, false, false, false, false, false, false, false, false, false, false, false, false, false, false, false, false, false, false, false, false, false, false] rfl rfl (any_of HT_.out (by kernel_rfl)) (fun _ _ _ h => h) (Or.inl ⟨by rfl, ?_⟩) ?_ ?_
   rotate_left
   ·intro w'
    go_simp
    with_reducible rfl
   rotate_left
   ·simp only [Act.put, List.setIfInBounds_toArray, List.set_cons_zero, List.set_cons_succ, i64_w, i32_w]
    rfl
   refine pure_ (i := 5) (N := some 35) (v := ?_) (a' := ?_) #[true, true, false, false, false, true, false, false, false, false, false, false, false, false, false, false, false, false, false, false, false, false, false, false, false, false, false, false, false, false, false, false, false, false, false, false, false, false, false] rfl rfl (any_of HT_.out (by kernel_rfl)) (fun _ _ _ h => h) (Or.inl ⟨by rfl, ?_⟩) ?_ ?_
   rotate_left
   ·intro w'
    go_simp
    with_reducible rfl
   rotate_left
   ·simp only [Act.put, List.setIfInBounds_toArray, List.set_cons_zero, List.set_cons_succ, i64_w, i32_w]
    rfl
   refine pure_ (i := 9) (N := some 39) (v := ?_) (a' := ?_) #[true, true, false, false, false, true, false, false, false, true, false, false, false, false, false, false, false, false, false, false, false, false, false, false, false, false, false, false, false, false, false, false, false, false, false, false, false, false, false] rfl rfl (any_of HT_.out (by kernel_rfl)) (fun _ _ _ h => h) (Or.inl ⟨by rfl, ?_⟩) ?_ ?_
   rotate_left
   ·intro w'
    go_simp
    with_reducible rfl
   rotate_left
   ·simp only [Act.put, List.setIfInBounds_toArray, List.set_cons_zero, List.set_cons_succ, i64_w, i32_w]
    rfl
   refine pure_ (i := 13) (N := some 43) (v := ?_) (a' := ?_) #[true, true, false, false, false, true, false, false, false, true, false, false, false, true, false, false, false, false, false, false, false, false, false, false, false, false, false, false, false, false, false, false, false, false, false, false, false, false, false] rfl rfl (any_of HT_.out (by kernel_rfl)) (fun _ _ _ h => h) (Or.inl ⟨by rfl, ?_⟩) ?_ ?_
   rotate_left
   ·intro w'
    go_simp
    with_reducible rfl
   rotate_left
   ·simp only [Act.put, List.setIfInBounds_toArray, List.set_cons_zero, List.set_cons_succ, i64_w, i32_w]
    rfl
   refine pure_ (i := 17) (N := some 47) (v := ?_) (a' := ?_) #[true, true, false, false, false, true, false, false, false, true, false, false, false, true, false, false, false, true, false, false, false, false, false, false, false, false, false, false, false, false, false, false, false, false, false, false, false, false, false] rfl rfl (any_of HT_.out (by kernel_rfl)) (fun _ _ _ h => h) (Or.inl ⟨by rfl, ?_⟩) ?_ ?_
   rotate_left
   ·intro w'
    go_simp
    with_reducible rfl
   rotate_left
   ·simp only [Act.put, List.setIfInBounds_toArray, List.set_cons_zero, List.set_cons_succ, i64_w, i32_w]
    rfl
   refine pure_ (i := 21) (N := some 51) (v := ?_) (a' := ?_) #[true, true, false, false, false, true, false, false, false, true, false, false, false, true, false, false, false, true, false, false, false, true, false, false, false, false, false, false, false, false, false, false, false, false, false, false, false, false, false] rfl rfl (any_of HT_.out (by kernel_rfl)) (fun _ _ _ h => h) (Or.inl ⟨by rfl, ?_⟩) ?_ ?_
   rotate_left
   ·intro w'
    go_simp
    with_reducible rfl
   rotate_left
   ·simp only [Act.put, List.setIfInBounds_toArray, List.set_cons_zero, List.set_cons_succ, i64_w, i32_w]
    rfl
   refine pure_ (i := 25) (N := some 55) (v := ?_) (a' := ?_) #[true, true, false, false, false, true, false, false, false, true, false, false, false, true, false, false, false, true, false, false, false, true, false, false, false, true, false, false, false, false, false, false, false, false, false, false, false, false, false] rfl rfl (any_of HT_.out (by kernel_rfl)) (fun _ _ _ h => h) (Or.inl ⟨by rfl, ?_⟩) ?_ ?_
   rotate_left
   ·intro w'
    go_simp
    with_reducible rfl
   rotate_left
   ·simp only [Act.put, List.setIfInBounds_toArray, List.set_cons_zero, List.set_cons_succ, i64_w, i32_w]
    rfl
   refine pure_ (i := 29) (N := some 59) (v := ?_) (a' := ?_) #[true, true, false, false, false, true, false, false, false, true, false, false, false, true, false, false, false, true, false, false, false, true, false, false, false, true, false, false, false, true, false, false, false, false, false, false, false, false, false] rfl rfl (any_of HT_.out (by kernel_rfl)) (fun _ _ _ h => h) (Or.inl ⟨by rfl, ?_⟩) ?_ ?_
   rotate_left
   ·intro w'
    go_simp
    with_reducible rfl
   rotate_left
   ·simp only [Act.put, List.setIfInBounds_toArray, List.set_cons_zero, List.set_cons_succ, i64_w, i32_w]
    rfl
   refine pure_ (i := 33) (N := some 63) (v := ?_) (a' := ?_) #[true, true, false, false, false, true, false, false, false, true, false, false, false, true, false, false, false, true, false, false, false, true, false, false, false, true, false, false, false, true, false, false, false, true, false, false, false, false, false] rfl rfl (any_of HT_.out (by kernel_rfl)) (fun _ _ _ h => h) (Or.inl ⟨by rfl, ?_⟩) ?_ ?_
   rotate_left
   ·intro w'
    go_simp
    with_reducible rfl
   rotate_left
   ·simp only [Act.put, List.setIfInBounds_toArray, List.set_cons_zero, List.set_cons_succ, i64_w, i32_w]
    rfl
   refine take_ (i := 2) (N := some 32) (v := ?_) (a' := ?_) #[true, true, true, false, false, true, false, false, false, true, false, false, false, true, false, false, false, true, false, false, false, true, false, false, false, true, false, false, false, true, false, false, false, true, false, false, false, false, false] rfl rfl (take_ofW HT_.out HW_.out (by kernel_rfl)) (fun _ _ _ h => h) (Or.inl ⟨by rfl, ?_⟩) hHeld ?_ ?_
   rotate_left
   ·rintro w' ⟨s0, s1, s2, s3, s4, s5, s6, s7, s8⟩
    go_simp
    with_reducible rfl
   rotate_left
   ·simp only [Act.put, List.setIfInBounds_toArray, List.set_cons_zero, List.set_cons_succ, i64_w, i32_w]
    rfl
   refine take_ (i := 6) (N := some 36) (v := ?_) (a' := ?_) #[true, true, true, false, false, true, true, false, false, true, false, false, false, true, false, false, false, true, false, false, false, true, false, false, false, true, false, false, false, true, false, false, false, true, false, false, false, false, false] rfl rfl (take_ofW HT_.out HW_.out (by kernel_rfl)) (fun _ _ _ h => h) (Or.inl ⟨by rfl, ?_⟩) hHeld ?_ ?_
   rotate_left
   ·rintro w' ⟨s0, s1, s2, s3, s4, s5, s6, s7, s8⟩
    go_simp
    with_reducible rfl
   rotate_left
   ·simp only [Act.put, List.setIfInBounds_toArray, List.set_cons_zero, List.set_cons_succ, i64_w, i32_w]
    rfl
   refine take_ (i := 10) (N := some 40) (v := ?_) (a' := ?_) #[true, true, true, false, false, true, true, false, false, true, true, false, false, true, false, false, false, true, false, false, false, true, false, false, false, true, false, false, false, true, false, false, false, true, false, false, false, false, false] rfl rfl (take_ofW HT_.out HW_.out (by kernel_rfl)) (fun _ _ _ h => h) (Or.inl ⟨by rfl, ?_⟩) hHeld ?_ ?_
   rotate_left
   ·rintro w' ⟨s0, s1, s2, s3, s4, s5, s6, s7, s8⟩
    go_simp
    with_reducible rfl
   rotate_left
   ·simp only [Act.put, List.setIfInBounds_toArray, List.set_cons_zero, List.set_cons_succ, i64_w, i32_w]
    rfl
   refine take_ (i := 14) (N := some 44) (v := ?_) (a' := ?_) #[true, true, true, false, false, true, true, false, false, true, true, false, false, true, true, false, false, true, false, false, false, true, false, false, false, true, false, false, false, true, false, false, false, true, false, false, false, false, false] rfl rfl (take_ofW HT_.out HW_.out (by kernel_rfl)) (fun _ _ _ h => h) (Or.inl ⟨by rfl, ?_⟩) hHeld ?_ ?_
   rotate_left
   ·rintro w' ⟨s0, s1, s2, s3, s4, s5, s6, s7, s8⟩
    go_simp
    with_reducible rfl
   rotate_left
   ·simp only [Act.put, List.setIfInBounds_toArray, List.set_cons_zero, List.set_cons_succ, i64_w, i32_w]
    rfl
   refine take_ (i := 18) (N := some 48) (v := ?_) (a' := ?_) #[true, true, true, false, false, true, true, false, false, true, true, false, false, true, true, false, false, true, true, false, false, true, false, false, false, true, false, false, false, true, false, false, false, true, false, false, false, false, false] rfl rfl (take_ofW HT_.out HW_.out (by kernel_rfl)) (fun _ _ _ h => h) (Or.inl ⟨by rfl, ?_⟩) hHeld ?_ ?_
   rotate_left
   ·rintro w' ⟨s0, s1, s2, s3, s4, s5, s6, s7, s8⟩
    go_simp
    with_reducible rfl
   rotate_left
   ·simp only [Act.put, List.setIfInBounds_toArray, List.set_cons_zero, List.set_cons_succ, i64_w, i32_w]
    rfl
   refine take_ (i := 22) (N := some 52) (v := ?_) (a' := ?_) #[true, true, true, false, false, true, true, false, false, true, true, false, false, true, true, false, false, true, true, false, false, true, true, false, false, true, false, false, false, true, false, false, false, true, false, false, false, false, false] rfl rfl (take_ofW HT_.out HW_.out (by kernel_rfl)) (fun _ _ _ h => h) (Or.inl ⟨by rfl, ?_⟩) hHeld ?_ ?_
   rotate_left
   ·rintro w' ⟨s0, s1, s2, s3, s4, s5, s6, s7, s8⟩
    go_simp
    with_reducible rfl
   rotate_left
   ·simp only [Act.put, List.setIfInBounds_toArray, List.set_cons_zero, List.set_cons_succ, i64_w, i32_w]
    rfl
   refine take_ (i := 26) (N := some 56) (v := ?_) (a' := ?_) #[true, true, true, false, false, true, true, false, false, true, true, false, false, true, true, false, false, true, true, false, false, true, true, false, false, true, true, false, false, true, false, false, false, true, false, false, false, false, false] rfl rfl (take_ofW HT_.out HW_.out (by kernel_rfl)) (fun _ _ _ h => h) (Or.inl ⟨by rfl, ?_⟩) hHeld ?_ ?_
   rotate_left
   ·rintro w' ⟨s0, s1, s2, s3, s4, s5, s6, s7, s8⟩
    go_simp
    with_reducible rfl
   rotate_left
   ·simp only [Act.put, List.setIfInBounds_toArray, List.set_cons_zero, List.set_cons_succ, i64_w, i32_w]
    rfl
   refine take_ (i := 30) (N := some 60) (v := ?_) (a' := ?_) #[true, true, true, false, false, true, true, false, false, true, true, false, false, true, true, false, false, true, true, false, false, true, true, false, false, true, true, false, false, true, true, false, false, true, false, false, false, false, false] rfl rfl (take_ofW HT_.out HW_.out (by kernel_rfl)) (fun _ _ _ h => h) (Or.inl ⟨by rfl, ?_⟩) hHeld ?_ ?_
   rotate_left
   ·rintro w' ⟨s0, s1, s2, s3, s4, s5, s6, s7, s8⟩
    go_simp
    with_reducible rfl
   rotate_left
   ·simp only [Act.put, List.setIfInBounds_toArray, List.set_cons_zero, List.set_cons_succ, i64_w, i32_w]
    rfl
   refine take_ (i := 34) (N := some 64) (v := ?_) (a' := ?_) #[true, true, true, false, false, true, true, false, false, true, true, false, false, true, true, false, false, true, true, false, false, true, true, false, false, true, true, false, false, true, true, false, false, true, true, false, false, false, false] rfl rfl (take_ofW HT_.out HW_.out (by kernel_rfl)) (fun _ _ _ h => h) (Or.inl ⟨by rfl, ?_⟩) hHeld ?_ ?_
   rotate_left
   ·rintro w' ⟨s0, s1, s2, s3, s4, s5, s6, s7, s8⟩
    go_simp
    with_reducible rfl
   rotate_left
   ·simp only [Act.put, List.setIfInBounds_toArray, List.set_cons_zero, List.set_cons_succ, i64_w, i32_w]
    rfl
   refine pure_ (i := 35) (N := some 65) (v := ?_) (a' := ?_) #[true, true, true, false, false, true, true, false, false, true, true, false, false, true, true, false, false, true, true, false, false, true, true, false, false, true, true, false, false, true, true, false, false, true, true, true, false, false, false] rfl rfl (any_of HT_.out (by kernel_rfl)) (fun _ _ _ h => h) (Or.inl ⟨by rfl, ?_⟩) ?_ ?_
   rotate_left
   ·intro w'
    go_simp
    with_reducible rfl
   rotate_left
   ·simp only [Act.put, List.setIfInBounds_toArray, List.set_cons_zero, List.set_cons_succ, i64_w, i32_w]
    rfl
   refine one_ (i := 3) (N := some 33) #[true, true, true, true, false, true, true, false, false, true, true, false, false, true, true, false, false, true, true, false, false, true, true, false, false, true, true, false, false, true, true, false, false, true, true, true, false, false, false] rfl rfl (one_of HT_.out (by kernel_rfl)) (by decide) (fun K hK => ?_)
   refine goes_ Try.func52 (by kernel_rfl) rfl #[.int .i64 ((rd_T45 l0_1 x4_1).f0)] (by rfl) rfl rfl (by (try simp only [List.map_toArray, List.map_cons, List.map_nil]); first | done | rfl | (simp only [List.length_drop, List.length_take]; rfl)) ?_
   with_reducible refine (spec_Var.calls k1 ((rd_T45 l0_1 x4_1).f0) t222 _ A15.out).mono ?_
   rintro e w39 ⟨rfl, hb⟩
   refine ⟨_, rfl, ?_⟩
   have n0_ := Aside0.mk (blk_below (g := gb216) (o := .cells #[.int .i64 a0_0, .slice (some ad220) l0_1.length c0_1] 29 (0, 0)) (by (with_reducible repeat (first | refine blk_drewN ?_ _ | refine blk_drew ?_ | refine blk_alloc ?_ _)); exact BK216.out) hb)
   have n1_ := Aside0.mk (blk_below (g := gb221) (o := .cells #[.int .i64 ((rd_T45 l0_1 x4_1).f0), .int .i64 ((rd_T45 l0_1 x4_1).f1), .int .i64 ((rd_T45 l0_1 x4_1).f2), .int .i64 ((rd_T45 l0_1 x4_1).f3), .int .i64 ((rd_T45 l0_1 x4_1).f4), .string ((rd_T45 l0_1 x4_1).f5), .slice A220_6 ((rd_T45 l0_1 x4_1).f6).length c220_6, .int .i64 ((rd_T45 l0_1 x4_1).f7), .int .i64 ((rd_T45 l0_1 x4_1).f8)] 45 (0, 0)) (by (with_reducible repeat (first | refine blk_drewN ?_ _ | refine blk_drew ?_ | refine blk_alloc ?_ _)); exact BK221.out) hb)
   have n2_ := Aside0.mk (below_step (by repeat (first | (with_reducible first | exact HB.out | apply below_alloc | apply pw_below_drewN | apply below_drew1 | refine below_set ?_ GE216.out | refine below_set ?_ GE221.out) | exact HB.out)) hb)
   clear BK216
   clear BK221
   clear HB
   have BK216 := n0_
   have BK221 := n1_
   have HB := n2_
   clear n0_ n1_ n2_
   (try clear hb)
   (try clear hb2)
   (try clear hk)
   (try clear hi)
   refine hK.out _ _ ⟨(blk_cell BK221.out 0).trans rfl, (blk_cell BK221.out 1).trans rfl, (blk_cell BK221.out 2).trans rfl, (blk_cell BK221.out 3).trans rfl, (blk_cell BK221.out 4).trans rfl, (blk_cell BK221.out 5).trans rfl, (blk_cell BK221.out 6).trans rfl, (blk_cell BK221.out 7).trans rfl, (blk_cell BK221.out 8).trans rfl⟩ (fun hHeld => ?_)
   clear hK K
   refine norm_ (a' := ?_) ?_ ?_
   rotate_left
   ·show Act.put _ (some 33) _ = _
    simp only [Act.put, List.setIfInBounds_toArray, List.set_cons_zero, List.set_cons_succ, i64_w, i32_w]
    rfl
   refine pure_ (i := 4) (N := some 34) (v := ?_) (a' := ?_) #[true, true, true, true, true, true, true, false, false, true, true, false, false, true, true, false, false, true, true, false, false, true, true, false, false, true, true, false, false, true, true, false, false, true, true, true, false, false, false] rfl rfl (any_of HT_.out (by kernel_rfl)) (fun _ _ _ h => h) (Or.inl ⟨by rfl, ?_⟩) ?_ ?_
   rotate_left
   ·intro w'
    go_simp
    with_reducible rfl
   rotate_left
   ·simp only [Act.put, List.setIfInBounds_toArray, List.set_cons_zero, List.set_cons_succ, i64_w, i32_w]
    rfl
   refine one_ (i := 7) (N := some 37) #[true, true, true, true, true, true, true, true, false, true, true, false, false, true, true, false, false, true, true, false, false, true, true, false, false, true, true, false, false, true, true, false, false, true, true, true, false, false, false] rfl rfl (one_of HT_.out (by kernel_rfl)) (by decide) (fun K hK => ?_)
   refine goes_ Try.func52 (by kernel_rfl) rfl #[.int .i64 ((rd_T45 l0_1 x4_1).f1)] (by rfl) rfl rfl (by (try simp only [List.map_toArray, List.map_cons, List.map_nil]); first | done | rfl | (simp only [List.length_drop, List.length_take]; rfl)) ?_
   with_reducible refine (spec_Var.calls k1 ((rd_T45 l0_1 x4_1).f1) t223 _ A17.out).mono ?_
   rintro e w40 ⟨rfl, hb⟩
   refine ⟨_, rfl, ?_⟩
   have n0_ := Aside0.mk (blk_below (g := gb216) (o := .cells #[.int .i64 a0_0, .slice (some ad220) l0_1.length c0_1] 29 (0, 0)) (by (with_reducible repeat (first | refine blk_drewN ?_ _ | refine blk_drew ?_ | refine blk_alloc ?_ _)); exact BK216.out) hb)
   have n1_ := Aside0.mk (blk_below (g := gb221) (o := .cells #[.int .i64 ((rd_T45 l0_1 x4_1).f0), .int .i64 ((rd_T45 l0_1 x4_1).f1), .int .i64 ((rd_T45 l0_1 x4_1).f2), .int .i64 ((rd_T45 l0_1 x4_1).f3), .int .i64 ((rd_T45 l0_1 x4_1).f4), .string ((rd_T45 l0_1 x4_1).f5), .slice A220_6 ((rd_T45 l0_1 x4_1).f6).length c220_6, .int .i64 ((rd_T45 l0_1 x4_1).f7), .int .i64 ((rd_T45 l0_1 x4_1).f8)] 45 (0, 0)) (by (with_reducible repeat (first | refine blk_drewN ?_ _ | refine blk_drew ?_ | refine blk_alloc ?_ _)); exact BK221.out) hb)
   have n2_ := Aside0.mk (below_step (by repeat (first | (with_reducible first | exact HB.out | apply below_alloc | apply pw_below_drewN | apply below_drew1 | refine below_set ?_ GE216.out | refine below_set ?_ GE221.out) | exact HB.out)) hb)
   clear BK216
   clear BK221
   clear HB
   have BK216 := n0_
   have BK221 := n1_
   have HB := n2_
   clear n0_ n1_ n2_
   (try clear hb)
   (try clear hb2)
   (try clear hk)
   (try clear hi)
   refine hK.out _ _ ⟨(blk_cell BK221.out 0).trans rfl, (blk_cell BK221.out 1).trans rfl, (blk_cell BK221.out 2).trans rfl, (blk_cell BK221.out 3).trans rfl, (blk_cell BK221.out 4).trans rfl, (blk_cell BK221.out 5).trans rfl, (blk_cell BK221.out 6).trans rfl, (blk_cell BK221.out 7).trans rfl, (blk_cell BK221.out 8).trans rfl⟩ (fun hHeld => ?_)
   clear hK K
   refine norm_ (a' := ?_) ?_ ?_
   rotate_left
   ·show Act.put _ (some 37) _ = _
    simp only [Act.put, List.setIfInBounds_toArray, List.set_cons_zero, List.set_cons_succ, i64_w, i32_w]
    rfl
   refine pure_ (i := 8) (N := some 38) (v := ?_) (a' := ?_) #[true, true, true, true, true, true, true, true, true, true, true, false, false, true, true, false, false, true, true, false, false, true, true, false, false, true, true, false, false, true, true, false, false, true, true, true, false, false, false] rfl rfl (any_of HT_.out (by kernel_rfl)) (fun _ _ _ h => h) (Or.inl ⟨by rfl, ?_⟩) ?_ ?_
   rotate_left
   ·intro w'
    go_simp
    with_reducible rfl
   rotate_left
   ·simp only [Act.put, List.setIfInBounds_toArray, List.set_cons_zero, List.set_cons_succ, i64_w, i32_w]
    rfl
   refine one_ (i := 11) (N := some 41) #[true, true, true, true, true, true, true, true, true, true, true, true, false, true, true, false, false, true, true, false, false, true, true, false, false, true, true, false, false, true, true, false, false, true, true, true, false, false, false] rfl rfl (one_of HT_.out (by kernel_rfl)) (by decide) (fun K hK => ?_)
   refine goes_ Try.func52 (by kernel_rfl) rfl #[.int .i64 ((rd_T45 l0_1 x4_1).f2)] (by rfl) rfl rfl (by (try simp only [List.map_toArray, List.map_cons, List.map_nil]); first | done | rfl | (simp only [List.length_drop, List.length_take]; rfl)) ?_
   with_reducible refine (spec_Var.calls k1 ((rd_T45 l0_1 x4_1).f2) t224 _ A19.out).mono ?_
   rintro e w41 ⟨rfl, hb⟩
   refine ⟨_, rfl, ?_⟩
   have n0_ := Aside0.mk (blk_below (g := gb216) (o := .cells #[.int .i64 a0_0, .slice (some ad220) l0_1.length c0_1] 29 (0, 0)) (by (with_reducible repeat (first | refine blk_drewN ?_ _ | refine blk_drew ?_ | refine blk_alloc ?_ _)); exact BK216.out) hb)
   have n1_ := Aside0.mk (blk_below (g := gb221) (o := .cells #[.int .i64 ((rd_T45 l0_1 x4_1).f0), .int .i64 ((rd_T45 l0_1 x4_1).f1), .int .i64 ((rd_T45 l0_1 x4_1).f2), .int .i64 ((rd_T45 l0_1 x4_1).f3), .int .i64 ((rd_T45 l0_1 x4_1).f4), .string ((rd_T45 l0_1 x4_1).f5), .slice A220_6 ((rd_T45 l0_1 x4_1).f6).length c220_6, .int .i64 ((rd_T45 l0_1 x4_1).f7), .int .i64 ((rd_T45 l0_1 x4_1).f8)] 45 (0, 0)) (by (with_reducible repeat (first | refine blk_drewN ?_ _ | refine blk_drew ?_ | refine blk_alloc ?_ _)); exact BK221.out) hb)
   have n2_ := Aside0.mk (below_step (by repeat (first | (with_reducible first | exact HB.out | apply below_alloc | apply pw_below_drewN | apply below_drew1 | refine below_set ?_ GE216.out | refine below_set ?_ GE221.out) | exact HB.out)) hb)
   clear BK216
   clear BK221
   clear HB
   have BK216 := n0_
   have BK221 := n1_
   have HB := n2_
   clear n0_ n1_ n2_
   (try clear hb)
   (try clear hb2)
   (try clear hk)
   (try clear hi)
   refine hK.out _ _ ⟨(blk_cell BK221.out 0).trans rfl, (blk_cell BK221.out 1).trans rfl, (blk_cell BK221.out 2).trans rfl, (blk_cell BK221.out 3).trans rfl, (blk_cell BK221.out 4).trans rfl, (blk_cell BK221.out 5).trans rfl, (blk_cell BK221.out 6).trans rfl, (blk_cell BK221.out 7).trans rfl, (blk_cell BK221.out 8).trans rfl⟩ (fun hHeld => ?_)
   clear hK K
   refine norm_ (a' := ?_) ?_ ?_
   rotate_left
   ·show Act.put _ (some 41) _ = _
    simp only [Act.put, List.setIfInBounds_toArray, List.set_cons_zero, List.set_cons_succ, i64_w, i32_w]
    rfl
   refine pure_ (i := 12) (N := some 42) (v := ?_) (a' := ?_) #[true, true, true, true, true, true, true, true, true, true, true, true, true, true, true, false, false, true, true, false, false, true, true, false, false, true, true, false, false, true, true, false, false, true, true, true, false, false, false] rfl rfl (any_of HT_.out (by kernel_rfl)) (fun _ _ _ h => h) (Or.inl ⟨by rfl, ?_⟩) ?_ ?_
   rotate_left
   ·intro w'
    go_simp
    with_reducible rfl
   rotate_left
   ·simp only [Act.put, List.setIfInBounds_toArray, List.set_cons_zero, List.set_cons_succ, i64_w, i32_w]
    rfl
   refine one_ (i := 15) (N := some 45) #[true, true, true, true, true, true, true, true, true, true, true, true, true, true, true, true, false, true, true, false, false, true, true, false, false, true, true, false, false, true, true, false, false, true, true, true, false, false, false] rfl rfl (one_of HT_.out (by kernel_rfl)) (by decide) (fun K hK => ?_)
   refine goes_ Try.func52 (by kernel_rfl) rfl #[.int .i64 ((rd_T45 l0_1 x4_1).f3)] (by rfl) rfl rfl (by (try simp only [List.map_toArray, List.map_cons, List.map_nil]); first | done | rfl | (simp only [List.length_drop, List.length_take]; rfl)) ?_
   with_reducible refine (spec_Var.calls k1 ((rd_T45 l0_1 x4_1).f3) t225 _ A21.out).mono ?_
   rintro e w42 ⟨rfl, hb⟩
   refine ⟨_, rfl, ?_⟩
   have n0_ := Aside0.mk (blk_below (g := gb216) (o := .cells #[.int .i64 a0_0, .slice (some ad220) l0_1.length c0_1] 29 (0, 0)) (by (with_reducible repeat (first | refine blk_drewN ?_ _ | refine blk_drew ?_ | refine blk_alloc ?_ _)); exact BK216.out) hb)
   have n1_ := Aside0.mk (blk_below (g := gb221) (o := .cells #[.int .i64 ((rd_T45 l0_1 x4_1).f0), .int .i64 ((rd_T45 l0_1 x4_1).f1), .int .i64 ((rd_T45 l0_1 x4_1).f2), .int .i64 ((rd_T45 l0_1 x4_1).f3), .int .i64 ((rd_T45 l0_1 x4_1).f4), .string ((rd_T45 l0_1 x4_1).f5), .slice A220_6 ((rd_T45 l0_1 x4_1).f6).length c220_6, .int .i64 ((rd_T45 l0_1 x4_1).f7), .int .i64 ((rd_T45 l0_1 x4_1).f8)] 45 (0, 0)) (by (with_reducible repeat (first | refine blk_drewN ?_ _ | refine blk_drew ?_ | refine blk_alloc ?_ _)); exact BK221.out) hb)
   have n2_ := Aside0.mk (below_step (by repeat (first | (with_reducible first | exact HB.out | apply below_alloc | apply pw_below_drewN | apply below_drew1 | refine below_set ?_ GE216.out | refine below_set ?_ GE221.out) | exact HB.out)) hb)
   clear BK216
   clear BK221
   clear HB
   have BK216 := n0_
   have BK221 := n1_
   have HB := n2_
   clear n0_ n1_ n2_
   (try clear hb)
   (try clear hb2)
   (try clear hk)
   (try clear hi)
   refine hK.out _ _ ⟨(blk_cell BK221.out 0).trans rfl, (blk_cell BK221.out 1).trans rfl, (blk_cell BK221.out 2).trans rfl, (blk_cell BK221.out 3).trans rfl, (blk_cell BK221.out 4).trans rfl, (blk_cell BK221.out 5).trans rfl, (blk_cell BK221.out 6).trans rfl, (blk_cell BK221.out 7).trans rfl, (blk_cell BK221.out 8).trans rfl⟩ (fun hHeld => ?_)
   clear hK K
   refine norm_ (a' := ?_) ?_ ?_
   rotate_left
   ·show Act.put _ (some 45) _ = _
    simp only [Act.put, List.setIfInBounds_toArray, List.set_cons_zero, List.set_cons_succ, i64_w, i32_w]
    rfl
   refine pure_ (i := 16) (N := some 46) (v := ?_) (a' := ?_) #[true, true, true, true, true, true, true, true, true, true, true, true, true, true, true, true, true, true, true, false, false, true, true, false, false, true, true, false, false, true, true, false, false, true, true, true, false, false, false] rfl rfl (any_of HT_.out (by kernel_rfl)) (fun _ _ _ h => h) (Or.inl ⟨by rfl, ?_⟩) ?_ ?_
   rotate_left
   ·intro w'
    go_simp
    with_reducible rfl
   rotate_left
   ·simp only [Act.put, List.setIfInBounds_toArray, List.set_cons_zero, List.set_cons_succ, i64_w, i32_w]
    rfl
   refine one_ (i := 19) (N := some 49) #[true, true, true, true, true, true, true, true, true, true, true, true, true, true, true, true, true, true, true, true, false, true, true, false, false, true, true, false, false, true, true, false, false, true, true, true, false, false, false] rfl rfl (one_of HT_.out (by kernel_rfl)) (by decide) (fun K hK => ?_)
   refine goes_ Try.func52 (by kernel_rfl) rfl #[.int .i64 ((rd_T45 l0_1 x4_1).f4)] (by rfl) rfl rfl (by (try simp only [List.map_toArray, List.map_cons, List.map_nil]); first | done | rfl | (simp only [List.length_drop, List.length_take]; rfl)) ?_
   with_reducible refine (spec_Var.calls k1 ((rd_T45 l0_1 x4_1).f4) t226 _ A23.out).mono ?_
   rintro e w43 ⟨rfl, hb⟩
   refine ⟨_, rfl, ?_⟩
   have n0_ := Aside0.mk (blk_below (g := gb216) (o := .cells #[.int .i64 a0_0, .slice (some ad220) l0_1.length c0_1] 29 (0, 0)) (by (with_reducible repeat (first | refine blk_drewN ?_ _ | refine blk_drew ?_ | refine blk_alloc ?_ _)); exact BK216.out) hb)
   have n1_ := Aside0.mk (blk_below (g := gb221) (o := .cells #[.int .i64 ((rd_T45 l0_1 x4_1).f0), .int .i64 ((rd_T45 l0_1 x4_1).f1), .int .i64 ((rd_T45 l0_1 x4_1).f2), .int .i64 ((rd_T45 l0_1 x4_1).f3), .int .i64 ((rd_T45 l0_1 x4_1).f4), .string ((rd_T45 l0_1 x4_1).f5), .slice A220_6 ((rd_T45 l0_1 x4_1).f6).length c220_6, .int .i64 ((rd_T45 l0_1 x4_1).f7), .int .i64 ((rd_T45 l0_1 x4_1).f8)] 45 (0, 0)) (by (with_reducible repeat (first | refine blk_drewN ?_ _ | refine blk_drew ?_ | refine blk_alloc ?_ _)); exact BK221.out) hb)
   have n2_ := Aside0.mk (below_step (by repeat (first | (with_reducible first | exact HB.out | apply below_alloc | apply pw_below_drewN | apply below_drew1 | refine below_set ?_ GE216.out | refine below_set ?_ GE221.out) | exact HB.out)) hb)
   clear BK216
   clear BK221
   clear HB
   have BK216 := n0_
   have BK221 := n1_
   have HB := n2_
   clear n0_ n1_ n2_
   (try clear hb)
   (try clear hb2)
   (try clear hk)
   (try clear hi)
   refine hK.out _ _ ⟨(blk_cell BK221.out 0).trans rfl, (blk_cell BK221.out 1).trans rfl, (blk_cell BK221.out 2).trans rfl, (blk_cell BK221.out 3).trans rfl, (blk_cell BK221.out 4).trans rfl, (blk_cell BK221.out 5).trans rfl, (blk_cell BK221.out 6).trans rfl, (blk_cell BK221.out 7).trans rfl, (blk_cell BK221.out 8).trans rfl⟩ (fun hHeld => ?_)
   clear hK K
   refine norm_ (a' := ?_) ?_ ?_
   rotate_left
   ·show Act.put _ (some 49) _ = _
    simp only [Act.put, List.setIfInBounds_toArray, List.set_cons_zero, List.set_cons_succ, i64_w, i32_w]
    rfl
   refine pure_ (i := 20) (N := some 50) (v := ?_) (a' := ?_) #[true, true, true, true, true, true, true, true, true, true, true, true, true, true, true, true, true, true, true, true, true, true, true, false, false, true, true, false, false, true, true, false, false, true, true, true, false, false, false] rfl rfl (any_of HT_.out (by kernel_rfl)) (fun _ _ _ h => h) (Or.inl ⟨by rfl, ?_⟩) ?_ ?_
   rotate_left
   ·intro w'
    go_simp
    with_reducible rfl
   rotate_left
   ·simp only [Act.put, List.setIfInBounds_toArray, List.set_cons_zero, List.set_cons_succ, i64_w, i32_w]
    rfl
   refine one_ (i := 23) (N := some 53) #[true, true, true, true, true, true, true, true, true, true, true, true, true, true, true, true, true, true, true, true, true, true, true, true, false, true, true, false, false, true, true, false, false, true, true, true, false, false, false] rfl rfl (one_of HT_.out (by kernel_rfl)) (by decide) (fun K hK => ?_)
   refine goes_ Try.func52 (by kernel_rfl) rfl #[.int .i64 ((rd_T45 l0_1 x4_1).f7)] (by rfl) rfl rfl (by (try simp only [List.map_toArray, List.map_cons, List.map_nil]); first | done | rfl | (simp only [List.length_drop, List.length_take]; rfl)) ?_
   with_reducible refine (spec_Var.calls k1 ((rd_T45 l0_1 x4_1).f7) t227 _ A25.out).mono ?_
   rintro e w44 ⟨rfl, hb⟩
   refine ⟨_, rfl, ?_⟩
   have n0_ := Aside0.mk (blk_below (g := gb216) (o := .cells #[.int .i64 a0_0, .slice (some ad220) l0_1.length c0_1] 29 (0, 0)) (by (with_reducible repeat (first | refine blk_drewN ?_ _ | refine blk_drew ?_ | refine blk_alloc ?_ _)); exact BK216.out) hb)
   have n1_ := Aside0.mk (blk_below (g := gb221) (o := .cells #[.int .i64 ((rd_T45 l0_1 x4_1).f0), .int .i64 ((rd_T45 l0_1 x4_1).f1), .int .i64 ((rd_T45 l0_1 x4_1).f2), .int .i64 ((rd_T45 l0_1 x4_1).f3), .int .i64 ((rd_T45 l0_1 x4_1).f4), .string ((rd_T45 l0_1 x4_1).f5), .slice A220_6 ((rd_T45 l0_1 x4_1).f6).length c220_6, .int .i64 ((rd_T45 l0_1 x4_1).f7), .int .i64 ((rd_T45 l0_1 x4_1).f8)] 45 (0, 0)) (by (with_reducible repeat (first | refine blk_drewN ?_ _ | refine blk_drew ?_ | refine blk_alloc ?_ _)); exact BK221.out) hb)
   have n2_ := Aside0.mk (below_step (by repeat (first | (with_reducible first | exact HB.out | apply below_alloc | apply pw_below_drewN | apply below_drew1 | refine below_set ?_ GE216.out | refine below_set ?_ GE221.out) | exact HB.out)) hb)
   clear BK216
   clear BK221
   clear HB
   have BK216 := n0_
   have BK221 := n1_
   have HB := n2_
   clear n0_ n1_ n2_
   (try clear hb)
   (try clear hb2)
   (try clear hk)
   (try clear hi)
   refine hK.out _ _ ⟨(blk_cell BK221.out 0).trans rfl, (blk_cell BK221.out 1).trans rfl, (blk_cell BK221.out 2).trans rfl, (blk_cell BK221.out 3).trans rfl, (blk_cell BK221.out 4).trans rfl, (blk_cell BK221.out 5).trans rfl, (blk_cell BK221.out 6).trans rfl, (blk_cell BK221.out 7).trans rfl, (blk_cell BK221.out 8).trans rfl⟩ (fun hHeld => ?_)
   clear hK K
   refine norm_ (a' := ?_) ?_ ?_
   rotate_left
   ·show Act.put _ (some 53) _ = _
    simp only [Act.put, List.setIfInBounds_toArray, List.set_cons_zero, List.set_cons_succ, i64_w, i32_w]
    rfl
   refine pure_ (i := 24) (N := some 54) (v := ?_) (a' := ?_) #[true, true, true, true, true, true, true, true, true, true, true, true, true, true, true, true, true, true, true, true, true, true, true, true, true, true, true, false, false, true, true, false, false, true, true, true, false, false, false] rfl rfl (any_of HT_.out (by kernel_rfl)) (fun _ _ _ h => h) (Or.inl ⟨by rfl, ?_⟩) ?_ ?_
   rotate_left
   ·intro w'
    go_simp
    with_reducible rfl
   rotate_left
   ·simp only [Act.put, List.setIfInBounds_toArray, List.set_cons_zero, List.set_cons_succ, i64_w, i32_w]
    rfl
   refine one_ (i := 27) (N := some 57) #[true, true, true, true, true, true, true, true, true, true, true, true, true, true, true, true, true, true, true, true, true, true, true, true, true, true, true, true, false, true, true, false, false, true, true, true, false, false, false] rfl rfl (one_of HT_.out (by kernel_rfl)) (by decide) (fun K hK => ?_)
   refine goes_ Try.func52 (by kernel_rfl) rfl #[.int .i64 ((rd_T45 l0_1 x4_1).f8)] (by rfl) rfl rfl (by (try simp only [List.map_toArray, List.map_cons, List.map_nil]); first | done | rfl | (simp only [List.length_drop, List.length_take]; rfl)) ?_
   with_reducible refine (spec_Var.calls k1 ((rd_T45 l0_1 x4_1).f8) t228 _ A27.out).mono ?_
   rintro e w45 ⟨rfl, hb⟩
   refine ⟨_, rfl, ?_⟩
   have n0_ := Aside0.mk (blk_below (g := gb216) (o := .cells #[.int .i64 a0_0, .slice (some ad220) l0_1.length c0_1] 29 (0, 0)) (by (with_reducible repeat (first | refine blk_drewN ?_ _ | refine blk_drew ?_ | refine blk_alloc ?_ _)); exact BK216.out) hb)
   have n1_ := Aside0.mk (blk_below (g := gb221) (o := .cells #[.int .i64 ((rd_T45 l0_1 x4_1).f0), .int .i64 ((rd_T45 l0_1 x4_1).f1), .int .i64 ((rd_T45 l0_1 x4_1).f2), .int .i64 ((rd_T45 l0_1 x4_1).f3), .int .i64 ((rd_T45 l0_1 x4_1).f4), .string ((rd_T45 l0_1 x4_1).f5), .slice A220_6 ((rd_T45 l0_1 x4_1).f6).length c220_6, .int .i64 ((rd_T45 l0_1 x4_1).f7), .int .i64 ((rd_T45 l0_1 x4_1).f8)] 45 (0, 0)) (by (with_reducible repeat (first | refine blk_drewN ?_ _ | refine blk_drew ?_ | refine blk_alloc ?_ _)); exact BK221.out) hb)
   have n2_ := Aside0.mk (below_step (by repeat (first | (with_reducible first | exact HB.out | apply below_alloc | apply pw_below_drewN | apply below_drew1 | refine below_set ?_ GE216.out | refine below_set ?_ GE221.out) | exact HB.out)) hb)
   clear BK216
   clear BK221
   clear HB
   have BK216 := n0_
   have BK221 := n1_
   have HB := n2_
   clear n0_ n1_ n2_
   (try clear hb)
   (try clear hb2)
   (try clear hk)
   (try clear hi)
   refine hK.out _ _ ⟨(blk_cell BK221.out 0).trans rfl, (blk_cell BK221.out 1).trans rfl, (blk_cell BK221.out 2).trans rfl, (blk_cell BK221.out 3).trans rfl, (blk_cell BK221.out 4).trans rfl, (blk_cell BK221.out 5).trans rfl, (blk_cell BK221.out 6).trans rfl, (blk_cell BK221.out 7).trans rfl, (blk_cell BK221.out 8).trans rfl⟩ (fun hHeld => ?_)
   clear hK K
   refine norm_ (a' := ?_) ?_ ?_
   rotate_left
   ·show Act.put _ (some 57) _ = _
    simp only [Act.put, List.setIfInBounds_toArray, List.set_cons_zero, List.set_cons_succ, i64_w, i32_w]
    rfl
   refine pure_ (i := 28) (N := some 58) (v := ?_) (a' := ?_) #[true, true, true, true, true, true, true, true, true, true, true, true, true, true, true, true, true, true, true, true, true, true, true, true, true, true, true, true, true, true, true, false, false, true, true, true, false, false, false] rfl rfl (any_of HT_.out (by kernel_rfl)) (fun _ _ _ h => h) (Or.inl ⟨by rfl, ?_⟩) ?_ ?_
   rotate_left
   ·intro w'
    go_simp
    with_reducible rfl
   rotate_left
   ·simp only [Act.put, List.setIfInBounds_toArray, List.set_cons_zero, List.set_cons_succ, i64_w, i32_w]
    rfl
   refine one_ (i := 31) (N := some 61) #[true, true, true, true, true, true, true, true, true, true, true, true, true, true, true, true, true, true, true, true, true, true, true, true, true, true, true, true, true, true, true, true, false, true, true, true, false, false, false] rfl rfl (one_of HT_.out (by kernel_rfl)) (by decide) (fun K hK => ?_)
   refine goes_ Try.func53 (by kernel_rfl) rfl #[.string ((rd_T45 l0_1 x4_1).f5)] (by rfl) rfl rfl (by (try simp only [List.map_toArray, List.map_cons, List.map_nil]); first | done | rfl | (simp only [List.length_drop, List.length_take]; rfl)) ?_
   with_reducible refine (spec_l8Piece.calls k1 ((rd_T45 l0_1 x4_1).f5) t229 _ A29.out).mono ?_
   rintro e w46 ⟨rfl, hb⟩
   refine ⟨_, rfl, ?_⟩
   have n0_ := Aside0.mk (blk_below (g := gb216) (o := .cells #[.int .i64 a0_0, .slice (some ad220) l0_1.length c0_1] 29 (0, 0)) (by (with_reducible repeat (first | refine blk_drewN ?_ _ | refine blk_drew ?_ | refine blk_alloc ?_ _)); exact BK216.out) hb)
   have n1_ := Aside0.mk (blk_below (g := gb221) (o := .cells #[.int .i64 ((rd_T45 l0_1 x4_1).f0), .int .i64 ((rd_T45 l0_1 x4_1).f1), .int .i64 ((rd_T45 l0_1 x4_1).f2), .int .i64 ((rd_T45 l0_1 x4_1).f3), .int .i64 ((rd_T45 l0_1 x4_1).f4), .string ((rd_T45 l0_1 x4_1).f5), .slice A220_6 ((rd_T45 l0_1 x4_1).f6).length c220_6, .int .i64 ((rd_T45 l0_1 x4_1).f7), .int .i64 ((rd_T45 l0_1 x4_1).f8)] 45 (0, 0)) (by (with_reducible repeat (first | refine blk_drewN ?_ _ | refine blk_drew ?_ | refine blk_alloc ?_ _)); exact BK221.out) hb)
   have n2_ := Aside0.mk (below_step (by repeat (first | (with_reducible first | exact HB.out | apply below_alloc | apply pw_below_drewN | apply below_drew1 | refine below_set ?_ GE216.out | refine below_set ?_ GE221.out) | exact HB.out)) hb)
   clear BK216
   clear BK221
   clear HB
   have BK216 := n0_
   have BK221 := n1_
   have HB := n2_
   clear n0_ n1_ n2_
   (try clear hb)
   (try clear hb2)
   (try clear hk)
   (try clear hi)
   refine hK.out _ _ ⟨(blk_cell BK221.out 0).trans rfl, (blk_cell BK221.out 1).trans rfl, (blk_cell BK221.out 2).trans rfl, (blk_cell BK221.out 3).trans rfl, (blk_cell BK221.out 4).trans rfl, (blk_cell BK221.out 5).trans rfl, (blk_cell BK221.out 6).trans rfl, (blk_cell BK221.out 7).trans rfl, (blk_cell BK221.out 8).trans rfl⟩ (fun hHeld => ?_)
   clear hK K
   refine norm_ (a' := ?_) ?_ ?_
   rotate_left
   ·show Act.put _ (some 61) _ = _
    simp only [Act.put, List.setIfInBounds_toArray, List.set_cons_zero, List.set_cons_succ, i64_w, i32_w]
    rfl
   refine pure_ (i := 32) (N := some 62) (v := ?_) (a' := ?_) #[true, true, true, true, true, true, true, true, true, true, true, true, true, true, true, true, true, true, true, true, true, true, true, true, true, true, true, true, true, true, true, true, true, true, true, true, false, false, false] rfl rfl (any_of HT_.out (by kernel_rfl)) (fun _ _ _ h => h) (Or.inl ⟨by rfl, ?_⟩) ?_ ?_
   rotate_left
   ·intro w'
    go_simp
    with_reducible rfl
   rotate_left
   ·simp only [Act.put, List.setIfInBounds_toArray, List.set_cons_zero, List.set_cons_succ, i64_w, i32_w]
    rfl
   refine one_ (i := 36) (N := some 66) #[true, true, true, true, true, true, true, true, true, true, true, true, true, true, true, true, true, true, true, true, true, true, true, true, true, true, true, true, true, true, true, true, true, true, true, true, true, false, false] rfl rfl (one_of HT_.out (by kernel_rfl)) (by decide) (fun K hK => ?_)
   refine goes_ Try.func52 (by kernel_rfl) rfl #[.int .i64 (((rd_T45 l0_1 x4_1).f6).length : Int)] (by rfl) rfl rfl (by (try simp only [List.map_toArray, List.map_cons, List.map_nil]); first | done | rfl | (simp only [List.length_drop, List.length_take]; rfl)) ?_
   with_reducible refine (spec_Var.calls k1 (((rd_T45 l0_1 x4_1).f6).length : Int) t230 _ A31.out).mono ?_
   rintro e w47 ⟨rfl, hb⟩
   refine ⟨_, rfl, ?_⟩
   have n0_ := Aside0.mk (blk_below (g := gb216) (o := .cells #[.int .i64 a0_0, .slice (some ad220) l0_1.length c0_1] 29 (0, 0)) (by (with_reducible repeat (first | refine blk_drewN ?_ _ | refine blk_drew ?_ | refine blk_alloc ?_ _)); exact BK216.out) hb)
   have n1_ := Aside0.mk (blk_below (g := gb221) (o := .cells #[.int .i64 ((rd_T45 l0_1 x4_1).f0), .int .i64 ((rd_T45 l0_1 x4_1).f1), .int .i64 ((rd_T45 l0_1 x4_1).f2), .int .i64 ((rd_T45 l0_1 x4_1).f3), .int .i64 ((rd_T45 l0_1 x4_1).f4), .string ((rd_T45 l0_1 x4_1).f5), .slice A220_6 ((rd_T45 l0_1 x4_1).f6).length c220_6, .int .i64 ((rd_T45 l0_1 x4_1).f7), .int .i64 ((rd_T45 l0_1 x4_1).f8)] 45 (0, 0)) (by (with_reducible repeat (first | refine blk_drewN ?_ _ | refine blk_drew ?_ | refine blk_alloc ?_ _)); exact BK221.out) hb)
   have n2_ := Aside0.mk (below_step (by repeat (first | (with_reducible first | exact HB.out | apply below_alloc | apply pw_below_drewN | apply below_drew1 | refine below_set ?_ GE216.out | refine below_set ?_ GE221.out) | exact HB.out)) hb)
   clear BK216
   clear BK221
   clear HB
   have BK216 := n0_
   have BK221 := n1_
   have HB := n2_
   clear n0_ n1_ n2_
   (try clear hb)
   (try clear hb2)
   (try clear hk)
   (try clear hi)
   refine hK.out _ _ ⟨(blk_cell BK221.out 0).trans rfl, (blk_cell BK221.out 1).trans rfl, (blk_cell BK221.out 2).trans rfl, (blk_cell BK221.out 3).trans rfl, (blk_cell BK221.out 4).trans rfl, (blk_cell BK221.out 5).trans rfl, (blk_cell BK221.out 6).trans rfl, (blk_cell BK221.out 7).trans rfl, (blk_cell BK221.out 8).trans rfl⟩ (fun hHeld => ?_)
   clear hK K
   refine norm_ (a' := ?_) ?_ ?_
   rotate_left
   ·show Act.put _ (some 66) _ = _
    simp only [Act.put, List.setIfInBounds_toArray, List.set_cons_zero, List.set_cons_succ, i64_w, i32_w]
    rfl
   refine pure_ (i := 37) (N := some 67) (v := ?_) (a' := ?_) #[true, true, true, true, true, true, true, true, true, true, true, true, true, true, true, true, true, true, true, true, true, true, true, true, true, true, true, true, true, true, true, true, true, true, true, true, true, true, false] rfl rfl (any_of HT_.out (by kernel_rfl)) (fun _ _ _ h => h) (Or.inl ⟨by rfl, ?_⟩) ?_ ?_
   rotate_left
   ·intro w'
    go_simp
    with_reducible rfl
   rotate_left
   ·simp only [Act.put, List.setIfInBounds_toArray, List.set_cons_zero, List.set_cons_succ, i64_w, i32_w]
    rfl
   refine pure_ (i := 38) (N := some 3) (v := ?_) (a' := ?_) #[true, true, true, true, true, true, true, true, true, true, true, true, true, true, true, true, true, true, true, true, true, true, true, true, true, true, true, true, true, true, true, true, true, true, true, true, true, true, true] rfl rfl (any_of HT_.out (by kernel_rfl)) (fun _ _ _ h => h) (Or.inl ⟨by rfl, ?_⟩) ?_ ?_
   rotate_left
   ·intro w'
    go_simp
    with_reducible rfl
   rotate_left
   ·simp only [Act.put, List.setIfInBounds_toArray, List.set_cons_zero, List.set_cons_succ, i64_w, i32_w]
    rfl
   refine done_ (done_of HT_.out (by kernel_rfl)) ?_
   try go_wp2
   go_loopg [3, 6] k1 (fun kq v3 v6 w' => ∃ (x3_2 : ByteArray) (x6_2 : Int), v3 = .string x3_2 ∧ v6 = .int .i64 x6_2 ∧ Aside0 (spec_ShowVol.l1 kq x3_2 x4_1 x6_2 a0_0 l0_1 ((rd_T45 l0_1 x4_1).f0) ((rd_T45 l0_1 x4_1).f1) ((rd_T45 l0_1 x4_1).f2) ((rd_T45 l0_1 x4_1).f3) ((rd_T45 l0_1 x4_1).f4) ((rd_T45 l0_1 x4_1).f5) ((rd_T45 l0_1 x4_1).f6) ((rd_T45 l0_1 x4_1).f7) ((rd_T45 l0_1 x4_1).f8) = some r) ∧ Aside0 (kq ≤ k1) ∧ Aside0 (w'.heap[gb216]? = some (.cells #[.int .i64 a0_0, (.slice (some ad220) l0_1.length c0_1)] 29 (0, 0))) ∧ Aside0 (w'.heap[gb221]? = some (.cells #[.int .i64 ((rd_T45 l0_1 x4_1).f0), .int .i64 ((rd_T45 l0_1 x4_1).f1), .int .i64 ((rd_T45 l0_1 x4_1).f2), .int .i64 ((rd_T45 l0_1 x4_1).f3), .int .i64 ((rd_T45 l0_1 x4_1).f4), .string ((rd_T45 l0_1 x4_1).f5), (.slice A220_6 ((rd_T45 l0_1 x4_1).f6).length c220_6), .int .i64 ((rd_T45 l0_1 x4_1).f7), .int .i64 ((rd_T45 l0_1 x4_1).f8)] 45 (0, 0))) ∧ Aside0 (Below w.heap.size w w'))
   case atStart => exact ⟨(((((((((x3_1 ++ t222) ++ t223) ++ t224) ++ t225) ++ t226) ++ t227) ++ t228) ++ t229) ++ t230), (0), (by first | rfl | (simp; done) | (simp [*]; done) | (simp; exact (fun (l : List UInt8) => (by cases l <;> rfl : l.isEmpty = !(l != []))) _)), (by first | rfl | (simp; done) | (simp [*]; done) | (simp; exact (fun (l : List UInt8) => (by cases l <;> rfl : l.isEmpty = !(l != []))) _)), H', ⟨Nat.le_refl _⟩, ⟨by (with_reducible repeat (first | refine blk_drewN ?_ _ | refine blk_drew ?_ | refine blk_alloc ?_ _)); exact BK216.out⟩, ⟨by (with_reducible repeat (first | refine blk_drewN ?_ _ | refine blk_drew ?_ | refine blk_alloc ?_ _)); exact BK221.out⟩, ⟨by repeat (first | (with_reducible first | exact HB.out | apply below_alloc | apply pw_below_drewN | apply below_drew1 | refine below_set ?_ GE216.out | refine below_set ?_ GE221.out) | exact HB.out)⟩⟩
   case round =>
    clear H'
    try clear c1
    try clear c2
    try clear p2
    try clear q2
    try clear hx2
    try clear c3
    try clear c5
    try clear c18
    try clear c18b1
    try clear c18b2
    try clear c20
    try clear c20b0
    try clear c20b1
    try clear c20b2
    try clear c22
    try clear c22b0
    try clear c22b1
    try clear c22b2
    try clear p22
    try clear q22
    try clear hx22
    try clear c24
    try clear c24b0
    try clear c24b1
    try clear c24b2
    try clear c26
    try clear c26b0
    try clear c26b1
    try clear c26b2
    try clear c28
    try clear c28b0
    try clear c28b1
    try clear c28b2
    try clear c30
    try clear c30b0
    try clear c30b1
    try clear c30b2
    try clear c32
    try clear c32b0
    try clear c32b1
    try clear c32b2
    try clear c35
    try clear hcz33_0
    try clear hcz33_1
    try clear hcz36_0
    try clear hcz36_1
    try clear hcz36_2
    try clear hcz36_3
    try clear hcz36_4
    try clear hcz36_5
    try clear hcz36_6
    try clear hcz36_7
    try clear hcz36_8
    try clear hfz33_0
    try clear hfz33_1
    try clear hfz36_0
    try clear hfz36_1
    try clear hfz36_2
    try clear hfz36_3
    try clear hfz36_4
    try clear hfz36_5
    try clear hfz36_6
    try clear hfz36_7
    try clear hfz36_8
    try clear hx220_0
    try clear hx220_1
    try clear hx220_2
    try clear hx220_3
    try clear hx220_4
    try clear hx220_5
    try clear hx220_6
    try clear hx220_7
    try clear hx220_8
    try clear p220
    try clear q220
    obtain ⟨x3_2, x6_2, rfl, rfl, HA, HK2, BK216, BK221, HB⟩ := hrel
    cases gk with
    | zero => exact absurd HA.out (by simp [spec_ShowVol.l1])
    | succ k2 =>
     have H := HA.out
     clear HA
     simp only [spec_ShowVol.l1] at H
     by_cases c48 : x6_2 < (((rd_T45 l0_1 x4_1).f6).length : Int)
     rotate_left
     ·rw [if_neg c48] at H
      have c48b0 : decide (x6_2 < (((rd_T45 l0_1 x4_1).f6).length : Int)) = false := decide_eq_false c48
      clear c48
      have H' := Aside0.mk H
      clear H
      have hnb59 := NB221_216.out
      have hnc59 := NB216_221.out
      have hcz60_0 : wr.cell? ⟨gb221, 0, none⟩ = some (.int .i64 ((rd_T45 l0_1 x4_1).f0)) := (blk_cell BK221.out 0).trans rfl
      have hcz60_1 : wr.cell? ⟨gb221, 1, none⟩ = some (.int .i64 ((rd_T45 l0_1 x4_1).f1)) := (blk_cell BK221.out 1).trans rfl
      have hcz60_2 : wr.cell? ⟨gb221, 2, none⟩ = some (.int .i64 ((rd_T45 l0_1 x4_1).f2)) := (blk_cell BK221.out 2).trans rfl
      have hcz60_3 : wr.cell? ⟨gb221, 3, none⟩ = some (.int .i64 ((rd_T45 l0_1 x4_1).f3)) := (blk_cell BK221.out 3).trans rfl
      have hcz60_4 : wr.cell? ⟨gb221, 4, none⟩ = some (.int .i64 ((rd_T45 l0_1 x4_1).f4)) := (blk_cell BK221.out 4).trans rfl
      have hcz60_5 : wr.cell? ⟨gb221, 5, none⟩ = some (.string ((rd_T45 l0_1 x4_1).f5)) := (blk_cell BK221.out 5).trans rfl
      have hcz60_6 : wr.cell? ⟨gb221, 6, none⟩ = some (.slice A220_6 ((rd_T45 l0_1 x4_1).f6).length c220_6) := (blk_cell BK221.out 6).trans rfl
      have hcz60_7 : wr.cell? ⟨gb221, 7, none⟩ = some (.int .i64 ((rd_T45 l0_1 x4_1).f7)) := (blk_cell BK221.out 7).trans rfl
      have hcz60_8 : wr.cell? ⟨gb221, 8, none⟩ = some (.int .i64 ((rd_T45 l0_1 x4_1).f8)) := (blk_cell BK221.out 8).trans rfl
      have hfz60_0 := blk_frozen BK221.out 0
      have hfz60_1 := blk_frozen BK221.out 1
      have hfz60_2 := blk_frozen BK221.out 2
      have hfz60_3 := blk_frozen BK221.out 3
      have hfz60_4 := blk_frozen BK221.out 4
      have hfz60_5 := blk_frozen BK221.out 5
      have hfz60_6 := blk_frozen BK221.out 6
      have hfz60_7 := blk_frozen BK221.out 7
      have hfz60_8 := blk_frozen BK221.out 8
      go_wp2
      go_roundg k2
      case measure => have := HK1.out; have := HK2.out; omega
      case rel => exact ⟨(x3_2), (wrap64 (x4_1 + 1)), (by first | rfl | (simp; done) | (simp [*]; done) | (simp; exact (fun (l : List UInt8) => (by cases l <;> rfl : l.isEmpty = !(l != []))) _)), (by first | rfl | (simp; done) | (simp [*]; done) | (simp; exact (fun (l : List UInt8) => (by cases l <;> rfl : l.isEmpty = !(l != []))) _)), H', ⟨by have := HK1.out; have := HK2.out; omega⟩, ⟨by (with_reducible repeat (first | refine blk_drewN ?_ _ | refine blk_drew ?_ | refine blk_alloc ?_ _)); exact BK216.out⟩, ⟨by repeat (first | (with_reducible first | exact HB.out | apply below_alloc | apply pw_below_drewN | apply below_drew1 | refine below_set ?_ GE216.out | refine below_set ?_ GE221.out) | exact HB.out)⟩⟩
     rw [if_pos c48] at H
     have c48b0 : decide (x6_2 < (((rd_T45 l0_1 x4_1).f6).length : Int)) = true := decide_eq_true c48
     clear c48
     by_cases c49 : 0 ≤ x6_2
     rotate_left
     ·rw [if_neg c49] at H
      exact absurd H (by simp)
     rw [if_pos c49] at H
     have c49b0 : decide (0 ≤ x6_2) = true := decide_eq_true c49
     clear c49
     replace H := Option.bind_eq_some_iff.mp H
     obtain ⟨t232, A500, H⟩ := H
     replace H : (if x3_2.size + t232.size ≤ 9223372036854775807 then ((spec_Var.f k2 ((rd_T68 ((rd_T45 l0_1 x4_1).f6) x6_2).f1)).bind fun t234 => (if (x3_2 ++ t232).size + t234.size ≤ 9223372036854775807 then (spec_ShowVol.l1 k2 ((x3_2 ++ t232) ++ t234) x4_1 (wrap64 (x6_2 + 1)) a0_0 l0_1 ((rd_T45 l0_1 x4_1).f0) ((rd_T45 l0_1 x4_1).f1) ((rd_T45 l0_1 x4_1).f2) ((rd_T45 l0_1 x4_1).f3) ((rd_T45 l0_1 x4_1).f4) ((rd_T45 l0_1 x4_1).f5) ((rd_T45 l0_1 x4_1).f6) ((rd_T45 l0_1 x4_1).f7) ((rd_T45 l0_1 x4_1).f8)) else (none))) else (none)) = some r := H
     have A50 := Aside0.mk A500
     clear A500
     by_cases c51 : x3_2.size + t232.size ≤ 9223372036854775807
     rotate_left
     ·rw [if_neg c51] at H
      exact absurd H (by simp)
     rw [if_pos c51] at H
     have c51b0 := eq_true c51
     have c51b1 : decide (x3_2.size + t232.size ≤ 9223372036854775807) = true := decide_eq_true c51
     try have c51b2 : (9223372036854775807 < x3_2.size + t232.size) = False := eq_false (Nat.not_lt.2 c51)
     replace H := Option.bind_eq_some_iff.mp H
     obtain ⟨t234, A520, H⟩ := H
     replace H : (if (x3_2 ++ t232).size + t234.size ≤ 9223372036854775807 then (spec_ShowVol.l1 k2 ((x3_2 ++ t232) ++ t234) x4_1 (wrap64 (x6_2 + 1)) a0_0 l0_1 ((rd_T45 l0_1 x4_1).f0) ((rd_T45 l0_1 x4_1).f1) ((rd_T45 l0_1 x4_1).f2) ((rd_T45 l0_1 x4_1).f3) ((rd_T45 l0_1 x4_1).f4) ((rd_T45 l0_1 x4_1).f5) ((rd_T45 l0_1 x4_1).f6) ((rd_T45 l0_1 x4_1).f7) ((rd_T45 l0_1 x4_1).f8)) else (none)) = some r := H
     have A52 := Aside0.mk A520
     clear A520
     by_cases c53 : (x3_2 ++ t232).size + t234.size ≤ 9223372036854775807
     rotate_left
     ·rw [if_neg c53] at H
      exact absurd H (by simp)
     rw [if_pos c53] at H
     have c53b0 := eq_true c53
     have c53b1 : decide ((x3_2 ++ t232).size + t234.size ≤ 9223372036854775807) = true := decide_eq_true c53
     try have c53b2 : (9223372036854775807 < (x3_2 ++ t232).size + t234.size) = False := eq_false (Nat.not_lt.2 c53)
     have c53q := c53
     simp only [ByteArray.size_append] at c53q
     have c53q0 := eq_true c53q
     have c53q1 := decide_eq_true c53q
     have c53q2 := eq_false (Nat.not_lt.2 c53q)
     have H' := Aside0.mk H
     clear H
     have hnb54 := NB221_216.out
     have hnc54 := NB216_221.out
     have hcz55_0 : wr.cell? ⟨gb221, 0, none⟩ = some (.int .i64 ((rd_T45 l0_1 x4_1).f0)) := (blk_cell BK221.out 0).trans rfl
     have hcz55_1 : wr.cell? ⟨gb221, 1, none⟩ = some (.int .i64 ((rd_T45 l0_1 x4_1).f1)) := (blk_cell BK221.out 1).trans rfl
     have hcz55_2 : wr.cell? ⟨gb221, 2, none⟩ = some (.int .i64 ((rd_T45 l0_1 x4_1).f2)) := (blk_cell BK221.out 2).trans rfl
     have hcz55_3 : wr.cell? ⟨gb221, 3, none⟩ = some (.int .i64 ((rd_T45 l0_1 x4_1).f3)) := (blk_cell BK221.out 3).trans rfl
     have hcz55_4 : wr.cell? ⟨gb221, 4, none⟩ = some (.int .i64 ((rd_T45 l0_1 x4_1).f4)) := (blk_cell BK221.out 4).trans rfl
     have hcz55_5 : wr.cell? ⟨gb221, 5, none⟩ = some (.string ((rd_T45 l0_1 x4_1).f5)) := (blk_cell BK221.out 5).trans rfl
     have hcz55_6 : wr.cell? ⟨gb221, 6, none⟩ = some (.slice A220_6 ((rd_T45 l0_1 x4_1).f6).length c220_6) := (blk_cell BK221.out 6).trans rfl
     have hcz55_7 : wr.cell? ⟨gb221, 7, none⟩ = some (.int .i64 ((rd_T45 l0_1 x4_1).f7)) := (blk_cell BK221.out 7).trans rfl
     have hcz55_8 : wr.cell? ⟨gb221, 8, none⟩ = some (.int .i64 ((rd_T45 l0_1 x4_1).f8)) := (blk_cell BK221.out 8).trans rfl
     have hfz55_0 := blk_frozen BK221.out 0
     have hfz55_1 := blk_frozen BK221.out 1
     have hfz55_2 := blk_frozen BK221.out 2
     have hfz55_3 := blk_frozen BK221.out 3
     have hfz55_4 := blk_frozen BK221.out 4
     have hfz55_5 := blk_frozen BK221.out 5
     have hfz55_6 := blk_frozen BK221.out 6
     have hfz55_7 := blk_frozen BK221.out 7
     have hfz55_8 := blk_frozen BK221.out 8
     try go_wp2
     have n0_ := Aside0.mk (blk_drew BK216.out)
     have n1_ := Aside0.mk (blk_drew BK221.out)
     have n2_ := Aside0.mk (below_drew1 HB.out)
     clear BK216
     clear BK221
     clear HB
     have BK216 := n0_
     have BK221 := n1_
     have HB := n2_
     clear n0_ n1_ n2_
     have p231 : 0 ≤ (x6_2 : Int) := of_decide_eq_true (by first | (with_reducible assumption) | assumption)
     have q231 : x6_2 < (((rd_T45 l0_1 x4_1).f6).length : Int) := of_decide_eq_true (by first | (with_reducible assumption) | assumption)
     obtain ⟨ad231, e231, hx231_0, hx231_1⟩ := at_T68 HR220_6.out x6_2 p231 q231
     have hw231_1 := hx231_1
     have hw231_0 := hx231_0
     cases e231
     replace hx231_0 := (HB.out.cell (World.block_lt_of_cell? w _ hx231_0)).trans hx231_0
     replace hx231_1 := (HB.out.cell (World.block_lt_of_cell? w _ hx231_1)).trans hx231_1
     replace p231 := eq_true p231
     replace q231 := eq_true q231
     have p233 : 0 ≤ (x6_2 : Int) := of_decide_eq_true (by first | (with_reducible assumption) | assumption)
     have q233 : x6_2 < (((rd_T45 l0_1 x4_1).f6).length : Int) := of_decide_eq_true (by first | (with_reducible assumption) | assumption)
     obtain ⟨ad233, e233, hx233_0, hx233_1⟩ := at_T68 HR220_6.out x6_2 p233 q233
     have hw233_1 := hx233_1
     have hw233_0 := hx233_0
     obtain rfl : ad231 = ad233 := (by injection e233)
     replace hx233_0 := (HB.out.cell (World.block_lt_of_cell? w _ hx233_0)).trans hx233_0
     replace hx233_1 := (HB.out.cell (World.block_lt_of_cell? w _ hx233_1)).trans hx233_1
     replace p233 := eq_true p233
     replace q233 := eq_true q233
     refine start_ (n := 18) (S := fun w' => w'.cell? ⟨gb221, 0, none⟩ = some (.int .i64 ((rd_T45 l0_1 x4_1).f0)) ∧ w'.cell? ⟨gb221, 1, none⟩ = some (.int .i64 ((rd_T45 l0_1 x4_1).f1)) ∧ w'.cell? ⟨gb221, 2, none⟩ = some (.int .i64 ((rd_T45 l0_1 x4_1).f2)) ∧ w'.cell? ⟨gb221, 3, none⟩ = some (.int .i64 ((rd_T45 l0_1 x4_1).f3)) ∧ w'.cell? ⟨gb221, 4, none⟩ = some (.int .i64 ((rd_T45 l0_1 x4_1).f4)) ∧ w'.cell? ⟨gb221, 5, none⟩ = some (.string ((rd_T45 l0_1 x4_1).f5)) ∧ w'.cell? ⟨gb221, 6, none⟩ = some (.slice (some ad231) ((rd_T45 l0_1 x4_1).f6).length c220_6) ∧ w'.cell? ⟨gb221, 7, none⟩ = some (.int .i64 ((rd_T45 l0_1 x4_1).f7)) ∧ w'.cell? ⟨gb221, 8, none⟩ = some (.int .i64 ((rd_T45 l0_1 x4_1).f8)) ∧ w'.cell? (ad231.add ((x6_2).toNat * 2)) = some (.string ((rd_T68 ((rd_T45 l0_1 x4_1).f6) x6_2).f0)) ∧ w'.cell? ⟨(ad231.add ((x6_2).toNat * 2)).block, (ad231.add ((x6_2).toNat * 2)).off + 1, none⟩ = some (.int .i64 ((rd_T68 ((rd_T45 l0_1 x4_1).f6) x6_2).f1)) ∧ w'.cell? (ad231.add ((x6_2).toNat * 2)) = some (.string ((rd_T68 ((rd_T45 l0_1 x4_1).f6) x6_2).f0)) ∧ w'.cell? ⟨(ad231.add ((x6_2).toNat * 2)).block, (ad231.add ((x6_2).toNat * 2)).off + 1, none⟩ = some (.int .i64 ((rd_T68 ((rd_T45 l0_1 x4_1).f6) x6_2).f1))) (ds := []) #[false, false, false, false, false, false, false, false, false, false, false, false, false, false, false, false, false, false] (by kernel_rfl) rfl rfl ⟨(blk_cell BK221.out 0).trans rfl, (blk_cell BK221.out 1).trans rfl, (blk_cell BK221.out 2).trans rfl, (blk_cell BK221.out 3).trans rfl, (blk_cell BK221.out 4).trans rfl, (blk_cell BK221.out 5).trans rfl, (blk_cell BK221.out 6).trans rfl, (blk_cell BK221.out 7).trans rfl, (blk_cell BK221.out 8).trans rfl, ((HB.out.cell (World.block_lt_of_cell? w _ hw231_0)).trans hw231_0), ((HB.out.cell (World.block_lt_of_cell? w _ hw231_1)).trans hw231_1), ((HB.out.cell (World.block_lt_of_cell? w _ hw233_0)).trans hw233_0), ((HB.out.cell (World.block_lt_of_cell? w _ hw233_1)).trans hw233_1)⟩ (fun hHeld => ?_); refine with_tabW spec_ShowVol.tab12 spec_ShowVol.bits12 (fun HT_ HW_ => ?_)
     generalize wr.drew = w56 at BK216 BK221 HB hx231_0 hx231_1 hx233_0 hx233_1 hHeld ⊢
     refine pure_ (i := 0) (N := some 75) (v := ?_) (a' := ?_) #[true, false, false, false, false, false, false, false, false, false, false, false, false, false, false, false, false, false] rfl rfl (any_of HT_.out (by kernel_rfl)) (fun _ _ _ h => h) (Or.inl ⟨by rfl, ?_⟩) ?_ ?_
     rotate_left
     ·intro w'
      go_simp
      with_reducible rfl
     rotate_left
     ·simp only [Act.put, List.setIfInBounds_toArray, List.set_cons_zero, List.set_cons_succ, i64_w, i32_w]
      rfl
     refine pure_ (i := 1) (N := some 76) (v := ?_) (a' := ?_) #[true, true, false, false, false, false, false, false, false, false, false, false, false, false, false, false, false, false] rfl rfl (any_of HT_.out (by kernel_rfl)) (fun _ _ _ h => h) (Or.inl ⟨by rfl, ?_⟩) ?_ ?_
     rotate_left
     ·intro w'
      go_simp
      with_reducible rfl
     rotate_left
     ·simp only [Act.put, List.setIfInBounds_toArray, List.set_cons_zero, List.set_cons_succ, i64_w, i32_w]
      rfl
     refine pure_ (i := 3) (N := some 78) (v := ?_) (a' := ?_) #[true, true, false, true, false, false, false, false, false, false, false, false, false, false, false, false, false, false] rfl rfl (any_of HT_.out (by kernel_rfl)) (fun _ _ _ h => h) (Or.inl ⟨by rfl, ?_⟩) ?_ ?_
     rotate_left
     ·intro w'
      go_simp
      with_reducible rfl
     rotate_left
     ·simp only [Act.put, List.setIfInBounds_toArray, List.set_cons_zero, List.set_cons_succ, i64_w, i32_w]
      rfl
     refine pure_ (i := 9) (N := some 84) (v := ?_) (a' := ?_) #[true, true, false, true, false, false, false, false, false, true, false, false, false, false, false, false, false, false] rfl rfl (any_of HT_.out (by kernel_rfl)) (fun _ _ _ h => h) (Or.inl ⟨by rfl, ?_⟩) ?_ ?_
     rotate_left
     ·intro w'
      go_simp
      with_reducible rfl
     rotate_left
     ·simp only [Act.put, List.setIfInBounds_toArray, List.set_cons_zero, List.set_cons_succ, i64_w, i32_w]
      rfl
     refine pure_ (i := 11) (N := some 86) (v := ?_) (a' := ?_) #[true, true, false, true, false, false, false, false, false, true, false, true, false, false, false, false, false, false] rfl rfl (any_of HT_.out (by kernel_rfl)) (fun _ _ _ h => h) (Or.inl ⟨by rfl, ?_⟩) ?_ ?_
     rotate_left
     ·intro w'
      go_simp
      with_reducible rfl
     rotate_left
     ·simp only [Act.put, List.setIfInBounds_toArray, List.set_cons_zero, List.set_cons_succ, i64_w, i32_w]
      rfl
     refine take_ (i := 2) (N := some 77) (v := ?_) (a' := ?_) #[true, true, true, true, false, false, false, false, false, true, false, true, false, false, false, false, false, false] rfl rfl (take_ofW HT_.out HW_.out (by kernel_rfl)) (fun _ _ _ h => h) (Or.inl ⟨by rfl, ?_⟩) hHeld ?_ ?_
     rotate_left
     ·rintro w' ⟨s0, s1, s2, s3, s4, s5, s6, s7, s8, s9, s10, s11, s12⟩
      go_simp
      with_reducible rfl
     rotate_left
     ·simp only [Act.put, List.setIfInBounds_toArray, List.set_cons_zero, List.set_cons_succ, i64_w, i32_w]
      rfl
     refine pure_ (i := 4) (N := some 79) (v := ?_) (a' := ?_) #[true, true, true, true, true, false, false, false, false, true, false, true, false, false, false, false, false, false] rfl rfl (any_of HT_.out (by kernel_rfl)) (fun _ _ _ h => h) (Or.inl ⟨by rfl, ?_⟩) ?_ ?_
     rotate_left
     ·intro w'
      go_simp
      with_reducible rfl
     rotate_left
     ·simp only [Act.put, List.setIfInBounds_toArray, List.set_cons_zero, List.set_cons_succ, i64_w, i32_w]
      rfl
     refine pure_ (i := 5) (N := some 80) (v := ?_) (a' := ?_) #[true, true, true, true, true, true, false, false, false, true, false, true, false, false, false, false, false, false] rfl rfl (any_of HT_.out (by kernel_rfl)) (fun _ _ _ h => h) (Or.inl ⟨by rfl, ?_⟩) ?_ ?_
     rotate_left
     ·intro w'
      go_simp
      with_reducible rfl
     rotate_left
     ·simp only [Act.put, List.setIfInBounds_toArray, List.set_cons_zero, List.set_cons_succ, i64_w, i32_w]
      rfl
     refine take_ (i := 6) (N := some 81) (v := ?_) (a' := ?_) #[true, true, true, true, true, true, true, false, false, true, false, true, false, false, false, false, false, false] rfl rfl (take_ofW HT_.out HW_.out (by kernel_rfl)) (fun _ _ _ h => h) (Or.inl ⟨by rfl, ?_⟩) hHeld ?_ ?_
     rotate_left
     ·rintro w' ⟨s0, s1, s2, s3, s4, s5, s6, s7, s8, s9, s10, s11, s12⟩
      go_simp
      with_reducible rfl
     rotate_left
     ·simp only [Act.put, List.setIfInBounds_toArray, List.set_cons_zero, List.set_cons_succ, i64_w, i32_w]
      rfl
     refine take_ (i := 10) (N := some 85) (v := ?_) (a' := ?_) #[true, true, true, true, true, true, true, false, false, true, true, true, false, false, false, false, false, false] rfl rfl (take_ofW HT_.out HW_.out (by kernel_rfl)) (fun _ _ _ h => h) (Or.inl ⟨by rfl, ?_⟩) hHeld ?_ ?_
     rotate_left
     ·rintro w' ⟨s0, s1, s2, s3, s4, s5, s6, s7, s8, s9, s10, s11, s12⟩
      go_simp
      with_reducible rfl
     rotate_left
     ·simp only [Act.put, List.setIfInBounds_toArray, List.set_cons_zero, List.set_cons_succ, i64_w, i32_w]
      rfl
     refine pure_ (i := 12) (N := some 87) (v := ?_) (a' := ?_) #[true, true, true, true, true, true, true, false, false, true, true, true, true, false, false, false, false, false] rfl rfl (any_of HT_.out (by kernel_rfl)) (fun _ _ _ h => h) (Or.inl ⟨by rfl, ?_⟩) ?_ ?_
     rotate_left
     ·intro w'
      go_simp
      with_reducible rfl
     rotate_left
     ·simp only [Act.put, List.setIfInBounds_toArray, List.set_cons_zero, List.set_cons_succ, i64_w, i32_w]
      rfl
     refine pure_ (i := 13) (N := some 88) (v := ?_) (a' := ?_) #[true, true, true, true, true, true, true, false, false, true, true, true, true, true, false, false, false, false] rfl rfl (any_of HT_.out (by kernel_rfl)) (fun _ _ _ h => h) (Or.inl ⟨by rfl, ?_⟩) ?_ ?_
     rotate_left
     ·intro w'
      go_simp
      with_reducible rfl
     rotate_left
     ·simp only [Act.put, List.setIfInBounds_toArray, List.set_cons_zero, List.set_cons_succ, i64_w, i32_w]
      rfl
     refine take_ (i := 14) (N := some 89) (v := ?_) (a' := ?_) #[true, true, true, true, true, true, true, false, false, true, true, true, true, true, true, false, false, false] rfl rfl (take_ofW HT_.out HW_.out (by kernel_rfl)) (fun _ _ _ h => h) (Or.inl ⟨by rfl, ?_⟩) hHeld ?_ ?_
     rotate_left
     ·rintro w' ⟨s0, s1, s2, s3, s4, s5, s6, s7, s8, s9, s10, s11, s12⟩
      go_simp
      with_reducible rfl
     rotate_left
     ·simp only [Act.put, List.setIfInBounds_toArray, List.set_cons_zero, List.set_cons_succ, i64_w, i32_w]
      rfl
     refine one_ (i := 7) (N := some 82) #[true, true, true, true, true, true, true, true, false, true, true, true, true, true, true, false, false, false] rfl rfl (one_of HT_.out (by kernel_rfl)) (by decide) (fun K hK => ?_)
     refine goes_ Try.func53 (by kernel_rfl) rfl #[.string ((rd_T68 ((rd_T45 l0_1 x4_1).f6) x6_2).f0)] (by rfl) rfl rfl (by (try simp only [List.map_toArray, List.map_cons, List.map_nil]); first | done | rfl | (simp only [List.length_drop, List.length_take]; rfl)) ?_
     with_reducible refine (spec_l8Piece.calls k2 ((rd_T68 ((rd_T45 l0_1 x4_1).f6) x6_2).f0) t232 _ A50.out).mono ?_
     rintro e w57 ⟨rfl, hb⟩
     refine ⟨_, rfl, ?_⟩
     have n0_ := Aside0.mk (blk_below (g := gb216) (o := .cells #[.int .i64 a0_0, .slice (some ad220) l0_1.length c0_1] 29 (0, 0)) (by (with_reducible repeat (first | refine blk_drewN ?_ _ | refine blk_drew ?_ | refine blk_alloc ?_ _)); exact BK216.out) hb)
     have n1_ := Aside0.mk (blk_below (g := gb221) (o := .cells #[.int .i64 ((rd_T45 l0_1 x4_1).f0), .int .i64 ((rd_T45 l0_1 x4_1).f1), .int .i64 ((rd_T45 l0_1 x4_1).f2), .int .i64 ((rd_T45 l0_1 x4_1).f3), .int .i64 ((rd_T45 l0_1 x4_1).f4), .string ((rd_T45 l0_1 x4_1).f5), .slice (some ad231) ((rd_T45 l0_1 x4_1).f6).length c220_6, .int .i64 ((rd_T45 l0_1 x4_1).f7), .int .i64 ((rd_T45 l0_1 x4_1).f8)] 45 (0, 0)) (by (with_reducible repeat (first | refine blk_drewN ?_ _ | refine blk_drew ?_ | refine blk_alloc ?_ _)); exact BK221.out) hb)
     have n2_ := Aside0.mk (below_step (by repeat (first | (with_reducible first | exact HB.out | apply below_alloc | apply pw_below_drewN | apply below_drew1 | refine below_set ?_ GE216.out | refine below_set ?_ GE221.out) | exact HB.out)) hb)
     clear BK216
     clear BK221
     clear HB
     have BK216 := n0_
     have BK221 := n1_
     have HB := n2_
     clear n0_ n1_ n2_
     (try clear hb)
     (try clear hb2)
     (try clear hk)
     (try clear hi)
     refine hK.out _ _ ⟨(blk_cell BK221.out 0).trans rfl, (blk_cell BK221.out 1).trans rfl, (blk_cell BK221.out 2).trans rfl, (blk_cell BK221.out 3).trans rfl, (blk_cell BK221.out 4).trans rfl, (blk_cell BK221.out 5).trans rfl, (blk_cell BK221.out 6).trans rfl, (blk_cell BK221.out 7).trans rfl, (blk_cell BK221.out 8).trans rfl, ((HB.out.cell (World.block_lt_of_cell? w _ hw231_0)).trans hw231_0), ((HB.out.cell (World.block_lt_of_cell? w _ hw231_1)).trans hw231_1), ((HB.out.cell (World.block_lt_of_cell? w _ hw233_0)).trans hw233_0), ((HB.out.cell (World.block_lt_of_cell? w _ hw233_1)).trans hw233_1)⟩ (fun hHeld => ?_)
     clear hK K
     refine norm_ (a' := ?_) ?_ ?_
     rotate_left
     ·show Act.put _ (some 82) _ = _
      simp only [Act.put, List.setIfInBounds_toArray, List.set_cons_zero, List.set_cons_succ, i64_w, i32_w]
      rfl
     refine pure_ (i := 8) (N := some 83) (v := ?_) (a' := ?_) #[true, true, true, true, true, true, true, true, true, true, true, true, true, true, true, false, false, false] rfl rfl (any_of HT_.out (by kernel_rfl)) (fun _ _ _ h => h) (Or.inl ⟨by rfl, ?_⟩) ?_ ?_
     rotate_left
     ·intro w'
      go_simp
      with_reducible rfl
     rotate_left
     ·simp only [Act.put, List.setIfInBounds_toArray, List.set_cons_zero, List.set_cons_succ, i64_w, i32_w]
      rfl
     refine one_ (i := 15) (N := some 90) #[true, true, true, true, true, true, true, true, true, true, true, true, true, true, true, true, false, false] rfl rfl (one_of HT_.out (by kernel_rfl)) (by decide) (fun K hK => ?_)
     refine goes_ Try.func52 (by kernel_rfl) rfl #[.int .i64 ((rd_T68 ((rd_T45 l0_1 x4_1).f6) x6_2).f1)] (by rfl) rfl rfl (by (try simp only [List.map_toArray, List.map_cons, List.map_nil]); first | done | rfl | (simp only [List.length_drop, List.length_take]; rfl)) ?_
     with_reducible refine (spec_Var.calls k2 ((rd_T68 ((rd_T45 l0_1 x4_1).f6) x6_2).f1) t234 _ A52.out).mono ?_
     rintro e w58 ⟨rfl, hb⟩
     refine ⟨_, rfl, ?_⟩
     have n0_ := Aside0.mk (blk_below (g := gb216) (o := .cells #[.int .i64 a0_0, .slice (some ad220) l0_1.length c0_1] 29 (0, 0)) (by (with_reducible repeat (first | refine blk_drewN ?_ _ | refine blk_drew ?_ | refine blk_alloc ?_ _)); exact BK216.out) hb)
     have n1_ := Aside0.mk (blk_below (g := gb221) (o := .cells #[.int .i64 ((rd_T45 l0_1 x4_1).f0), .int .i64 ((rd_T45 l0_1 x4_1).f1), .int .i64 ((rd_T45 l0_1 x4_1).f2), .int .i64 ((rd_T45 l0_1 x4_1).f3), .int .i64 ((rd_T45 l0_1 x4_1).f4), .string ((rd_T45 l0_1 x4_1).f5), .slice (some ad231) ((rd_T45 l0_1 x4_1).f6).length c220_6, .int .i64 ((rd_T45 l0_1 x4_1).f7), .int .i64 ((rd_T45 l0_1 x4_1).f8)] 45 (0, 0)) (by (with_reducible repeat (first | refine blk_drewN ?_ _ | refine blk_drew ?_ | refine blk_alloc ?_ _)); exact BK221.out) hb)
     have n2_ := Aside0.mk (below_step (by repeat (first | (with_reducible first | exact HB.out | apply below_alloc | apply pw_below_drewN | apply below_drew1 | refine below_set ?_ GE216.out | refine below_set ?_ GE221.out) | exact HB.out)) hb)
     clear BK216
     clear BK221
     clear HB
     have BK216 := n0_
     have BK221 := n1_
     have HB := n2_
     clear n0_ n1_ n2_
     (try clear hb)
     (try clear hb2)
     (try clear hk)
     (try clear hi)
     refine hK.out _ _ ⟨(blk_cell BK221.out 0).trans rfl, (blk_cell BK221.out 1).trans rfl, (blk_cell BK221.out 2).trans rfl, (blk_cell BK221.out 3).trans rfl, (blk_cell BK221.out 4).trans rfl, (blk_cell BK221.out 5).trans rfl, (blk_cell BK221.out 6).trans rfl, (blk_cell BK221.out 7).trans rfl, (blk_cell BK221.out 8).trans rfl, ((HB.out.cell (World.block_lt_of_cell? w _ hw231_0)).trans hw231_0), ((HB.out.cell (World.block_lt_of_cell? w _ hw231_1)).trans hw231_1), ((HB.out.cell (World.block_lt_of_cell? w _ hw233_0)).trans hw233_0), ((HB.out.cell (World.block_lt_of_cell? w _ hw233_1)).trans hw233_1)⟩ (fun hHeld => ?_)
     clear hK K
     refine norm_ (a' := ?_) ?_ ?_
     rotate_left
     ·show Act.put _ (some 90) _ = _
      simp only [Act.put, List.setIfInBounds_toArray, List.set_cons_zero, List.set_cons_succ, i64_w, i32_w]
      rfl
     refine pure_ (i := 16) (N := some 91) (v := ?_) (a' := ?_) #[true, true, true, true, true, true, true, true, true, true, true, true, true, true, true, true, true, false] rfl rfl (any_of HT_.out (by kernel_rfl)) (fun _ _ _ h => h) (Or.inl ⟨by rfl, ?_⟩) ?_ ?_
     rotate_left
     ·intro w'
      go_simp
      with_reducible rfl
     rotate_left
     ·simp only [Act.put, List.setIfInBounds_toArray, List.set_cons_zero, List.set_cons_succ, i64_w, i32_w]
      rfl
     refine pure_ (i := 17) (N := some 3) (v := ?_) (a' := ?_) #[true, true, true, true, true, true, true, true, true, true, true, true, true, true, true, true, true, true] rfl rfl (any_of HT_.out (by kernel_rfl)) (fun _ _ _ h => h) (Or.inl ⟨by rfl, ?_⟩) ?_ ?_
     rotate_left
     ·intro w'
      go_simp
      with_reducible rfl
     rotate_left
     ·simp only [Act.put, List.setIfInBounds_toArray, List.set_cons_zero, List.set_cons_succ, i64_w, i32_w]
      rfl
     refine done_ (done_of HT_.out (by kernel_rfl)) ?_
     try go_wp2
     go_roundg k2
     case measure => have := HK1.out; have := HK2.out; omega
     case rel => exact ⟨((x3_2 ++ t232) ++ t234), (wrap64 (x6_2 + 1)), (by first | rfl | (simp; done) | (simp [*]; done) | (simp; exact (fun (l : List UInt8) => (by cases l <;> rfl : l.isEmpty = !(l != []))) _)), (by first | rfl | (simp; done) | (simp [*]; done) | (simp; exact (fun (l : List UInt8) => (by cases l <;> rfl : l.isEmpty = !(l != []))) _)), H', ⟨by have := HK1.out; have := HK2.out; omega⟩, ⟨by (with_reducible repeat (first | refine blk_drewN ?_ _ | refine blk_drew ?_ | refine blk_alloc ?_ _)); exact BK216.out⟩, ⟨by (with_reducible repeat (first | refine blk_drewN ?_ _ | refine blk_drew ?_ | refine blk_alloc ?_ _)); exact BK221.out⟩, ⟨by repeat (first | (with_reducible first | exact HB.out | apply below_alloc | apply pw_below_drewN | apply below_drew1 | refine below_set ?_ GE216.out | refine below_set ?_ GE221.out) | exact HB.out)⟩⟩
end Go.Proofs.Ytiopcpkfjikfdaa.PFnExactVolOk
