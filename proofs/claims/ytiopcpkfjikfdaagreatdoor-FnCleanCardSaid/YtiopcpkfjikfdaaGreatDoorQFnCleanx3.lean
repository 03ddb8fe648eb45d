import Derived.Test.YtiopcpkfjikfdaaGreatDoorQFnCleanx2
set_option maxHeartbeats 8000000
set_option maxRecDepth 100000
namespace Go.Proofs.YtiopcpkfjikfdaaGreatDoor.PFnClean
open Go.RowKit Go.Proofs.YtiopcpkfjikfdaaGreatDoorW.PrintWords Go.Proofs.YtiopcpkfjikfdaaGreatDoorW.PrintLast Go.Proofs.YtiopcpkfjikfdaaGreatDoorW.PrintMore
attribute [local go_sem] max2_int min2_int max_two min_two max_three min_three max_four min_four   -- for this text's walks alone
set_option linter.unusedVariables false
set_option linter.unusedSimpArgs false
def spec_l2Byte.f (a0 : Int) : Option (Bool) := if a0 ≥ 97 then (if a0 ≤ 122 then (some true) else (if a0 ≥ 48 then (if a0 ≤ 57 then (some true) else (if a0 = 46 then (some true) else (if a0 = 95 then (some true) else (some (a0 == 45))))) else (if a0 = 46 then (some true) else (if a0 = 95 then (some true) else (some (a0 == 45)))))) else (if a0 ≥ 48 then (if a0 ≤ 57 then (some true) else (if a0 = 46 then (some true) else (if a0 = 95 then (some true) else (some (a0 == 45))))) else (if a0 = 46 then (some true) else (if a0 = 95 then (some true) else (some (a0 == 45)))))
theorem spec_l2Byte.calls (a0 : Int) (r : Bool) (w : World) (h : spec_l2Byte.f a0 = some r) :
  Calls Tryz.prog 54 #[.int .u8 a0] w fun e w' => e = .returned (.bool r) ∧ Drawn0 w w' := by
 have H : (if a0 ≥ 97 then (if a0 ≤ 122 then (some true) else (if a0 ≥ 48 then (if a0 ≤ 57 then (some true) else (if a0 = 46 then (some true) else (if a0 = 95 then (some true) else (some (a0 == 45))))) else (if a0 = 46 then (some true) else (if a0 = 95 then (some true) else (some (a0 == 45)))))) else (if a0 ≥ 48 then (if a0 ≤ 57 then (some true) else (if a0 = 46 then (some true) else (if a0 = 95 then (some true) else (some (a0 == 45))))) else (if a0 = 46 then (some true) else (if a0 = 95 then (some true) else (some (a0 == 45)))))) = some r := h
 clear h
 by_cases c2 : a0 ≥ 97
 rotate_left
 ·rw [if_neg c2] at H
  have c2b0 : decide (97 ≤ a0) = false := zG c2
  clear c2
  by_cases c10 : a0 ≥ 48
  rotate_left
  ·rw [if_neg c10] at H
   have c10b0 : decide (48 ≤ a0) = false := zG c10
   clear c10
   by_cases c14 : a0 = 46
   ·rw [if_pos c14] at H
    have c14b0 : (a0 == 46) = true := beq_iff_eq.mpr c14
    have c14b1 : (a0 != 46) = false := bne_eq_false_iff_eq.mpr c14
    clear c14
    obtain rfl := zI H
    go_enter Tryz.func54, Tryz.ntmps54
    go_wp2
    go_ret
    exact ⟨by first | rfl | (simp; done) | (simp [*]; done), by repeat (first | exact Drawn0.refl _ | apply Drawn0.step)⟩
   rw [if_neg c14] at H
   have c14b0 : (a0 == 46) = false := beq_eq_false_iff_ne.mpr c14
   have c14b1 : (a0 != 46) = true := bne_iff_ne.mpr c14
   by_cases c15 : a0 = 95
   rotate_left
   ·rw [if_neg c15] at H
    have c15b0 : (a0 == 95) = false := beq_eq_false_iff_ne.mpr c15
    have c15b1 : (a0 != 95) = true := bne_iff_ne.mpr c15
    obtain rfl := zI H
    go_enter Tryz.func54, Tryz.ntmps54
    go_wp2
    go_ret
    exact ⟨by first | rfl | (simp; done) | (simp [*]; done), by repeat (first | exact Drawn0.refl _ | apply Drawn0.step)⟩
   rw [if_pos c15] at H
   have c15b0 : (a0 == 95) = true := beq_iff_eq.mpr c15
   have c15b1 : (a0 != 95) = false := bne_eq_false_iff_eq.mpr c15
   clear c15
   obtain rfl := zI H
   go_enter Tryz.func54, Tryz.ntmps54
   go_wp2
   go_ret
   exact ⟨by first | rfl | (simp; done) | (simp [*]; done), by repeat (first | exact Drawn0.refl _ | apply Drawn0.step)⟩
  rw [if_pos c10] at H
  have c10b0 : decide (48 ≤ a0) = true := zE c10
  clear c10
  by_cases c11 : a0 ≤ 57
  ·rw [if_pos c11] at H
   have c11b0 : decide (a0 ≤ 57) = true := zE c11
   clear c11
   obtain rfl := zI H
   go_enter Tryz.func54, Tryz.ntmps54
   go_wp2
   go_ret
   exact ⟨by first | rfl | (simp; done) | (simp [*]; done), by repeat (first | exact Drawn0.refl _ | apply Drawn0.step)⟩
  rw [if_neg c11] at H
  have c11b0 : decide (a0 ≤ 57) = false := zG c11
  clear c11
  by_cases c12 : a0 = 46
  ·rw [if_pos c12] at H
   have c12b0 : (a0 == 46) = true := beq_iff_eq.mpr c12
   have c12b1 : (a0 != 46) = false := bne_eq_false_iff_eq.mpr c12
   clear c12
   obtain rfl := zI H
   go_enter Tryz.func54, Tryz.ntmps54
   go_wp2
   go_ret
   exact ⟨by first | rfl | (simp; done) | (simp [*]; done), by repeat (first | exact Drawn0.refl _ | apply Drawn0.step)⟩
  rw [if_neg c12] at H
  have c12b0 : (a0 == 46) = false := beq_eq_false_iff_ne.mpr c12
  have c12b1 : (a0 != 46) = true := bne_iff_ne.mpr c12
  by_cases c13 : a0 = 95
  rotate_left
  ·rw [if_neg c13] at H
   have c13b0 : (a0 == 95) = false := beq_eq_false_iff_ne.mpr c13
   have c13b1 : (a0 != 95) = true := bne_iff_ne.mpr c13
   obtain rfl := zI H
   go_enter Tryz.func54, Tryz.ntmps54
   go_wp2
   go_ret
   exact ⟨by first | rfl | (simp; done) | (simp [*]; done), by repeat (first | exact Drawn0.refl _ | apply Drawn0.step)⟩
  rw [if_pos c13] at H
  have c13b0 : (a0 == 95) = true := beq_iff_eq.mpr c13
  have c13b1 : (a0 != 95) = false := bne_eq_false_iff_eq.mpr c13
  clear c13
  obtain rfl := zI H
  go_enter Tryz.func54, Tryz.ntmps54
  go_wp2
  go_ret
  exact ⟨by first | rfl | (simp; done) | (simp [*]; done), by repeat (first | exact Drawn0.refl _ | apply Drawn0.step)⟩
 rw [if_pos c2] at H
 have c2b0 : decide (97 ≤ a0) = true := zE c2
 clear c2
 by_cases c3 : a0 ≤ 122
 ·rw [if_pos c3] at H
  have c3b0 : decide (a0 ≤ 122) = true := zE c3
  clear c3
  obtain rfl := zI H
  go_enter Tryz.func54, Tryz.ntmps54
  go_wp2
  go_ret
  exact ⟨by first | rfl | (simp; done) | (simp [*]; done), by repeat (first | exact Drawn0.refl _ | apply Drawn0.step)⟩
 rw [if_neg c3] at H
 have c3b0 : decide (a0 ≤ 122) = false := zG c3
 clear c3
 by_cases c4 : a0 ≥ 48
 rotate_left
 ·rw [if_neg c4] at H
  have c4b0 : decide (48 ≤ a0) = false := zG c4
  clear c4
  by_cases c8 : a0 = 46
  ·rw [if_pos c8] at H
   have c8b0 : (a0 == 46) = true := beq_iff_eq.mpr c8
   have c8b1 : (a0 != 46) = false := bne_eq_false_iff_eq.mpr c8
   clear c8
   obtain rfl := zI H
   go_enter Tryz.func54, Tryz.ntmps54
   go_wp2
   go_ret
   exact ⟨by first | rfl | (simp; done) | (simp [*]; done), by repeat (first | exact Drawn0.refl _ | apply Drawn0.step)⟩
  rw [if_neg c8] at H
  have c8b0 : (a0 == 46) = false := beq_eq_false_iff_ne.mpr c8
  have c8b1 : (a0 != 46) = true := bne_iff_ne.mpr c8
  by_cases c9 : a0 = 95
  rotate_left
  ·rw [if_neg c9] at H
   have c9b0 : (a0 == 95) = false := beq_eq_false_iff_ne.mpr c9
   have c9b1 : (a0 != 95) = true := bne_iff_ne.mpr c9
   obtain rfl := zI H
   go_enter Tryz.func54, Tryz.ntmps54
   go_wp2
   go_ret
   exact ⟨by first | rfl | (simp; done) | (simp [*]; done), by repeat (first | exact Drawn0.refl _ | apply Drawn0.step)⟩
  rw [if_pos c9] at H
  have c9b0 : (a0 == 95) = true := beq_iff_eq.mpr c9
  have c9b1 : (a0 != 95) = false := bne_eq_false_iff_eq.mpr c9
  clear c9
  obtain rfl := zI H
  go_enter Tryz.func54, Tryz.ntmps54
  go_wp2
  go_ret
  exact ⟨by first | rfl | (simp; done) | (simp [*]; done), by repeat (first | exact Drawn0.refl _ | apply Drawn0.step)⟩
 rw [if_pos c4] at H
 have c4b0 : decide (48 ≤ a0) = true := zE c4
 clear c4
 by_cases c5 : a0 ≤ 57
 ·rw [if_pos c5] at H
  have c5b0 : decide (a0 ≤ 57) = true := zE c5
  clear c5
  obtain rfl := zI H
  go_enter Tryz.func54, Tryz.ntmps54
  go_wp2
  go_ret
  exact ⟨by first | rfl | (simp; done) | (simp [*]; done), by repeat (first | exact Drawn0.refl _ | apply Drawn0.step)⟩
 rw [if_neg c5] at H
 have c5b0 : decide (a0 ≤ 57) = false := zG c5
 clear c5
 by_cases c6 : a0 = 46
 ·rw [if_pos c6] at H
  have c6b0 : (a0 == 46) = true := beq_iff_eq.mpr c6
  have c6b1 : (a0 != 46) = false := bne_eq_false_iff_eq.mpr c6
  clear c6
  obtain rfl := zI H
  go_enter Tryz.func54, Tryz.ntmps54
  go_wp2
  go_ret
  exact ⟨by first | rfl | (simp; done) | (simp [*]; done), by repeat (first | exact Drawn0.refl _ | apply Drawn0.step)⟩
 rw [if_neg c6] at H
 have c6b0 : (a0 == 46) = false := beq_eq_false_iff_ne.mpr c6
 have c6b1 : (a0 != 46) = true := bne_iff_ne.mpr c6
 by_cases c7 : a0 = 95
 rotate_left
 ·rw [if_neg c7] at H
  have c7b0 : (a0 == 95) = false := beq_eq_false_iff_ne.mpr c7
  have c7b1 : (a0 != 95) = true := bne_iff_ne.mpr c7
  obtain rfl := zI H
  go_enter Tryz.func54, Tryz.ntmps54
  go_wp2
  go_ret
  exact ⟨by first | rfl | (simp; done) | (simp [*]; done), by repeat (first | exact Drawn0.refl _ | apply Drawn0.step)⟩
 rw [if_pos c7] at H
 have c7b0 : (a0 == 95) = true := beq_iff_eq.mpr c7
 have c7b1 : (a0 != 95) = false := bne_eq_false_iff_eq.mpr c7
 clear c7
 obtain rfl := zI H
 go_enter Tryz.func54, Tryz.ntmps54
 go_wp2
 go_ret
 exact ⟨by first | rfl | (simp; done) | (simp [*]; done), by repeat (first | exact Drawn0.refl _ | apply Drawn0.step)⟩
def spec_l4Target.l0 : Nat → ByteArray → Int → Option (Bool)
 | 0, _, _ => none
 | k + 1, x0, x3 => if x3 < (x0.size : Int) then (if 0 ≤ x3 then (if (bt x0 x3) = 47 then (spec_l4Target.l0 k x0 (wrap64 (x3 + 1))) else ((spec_l2Byte.f (bt x0 x3)).bind fun t152 => (if t152 = true then (spec_l4Target.l0 k x0 (wrap64 (x3 + 1))) else (some false)))) else (none)) else (some true)
def spec_l4Target.f (k : Nat) (a0 : ByteArray) : Option (Bool) := (spec_l1In.f (a0.size : Int) 1 60).bind fun t151 => (if t151 = true then (spec_l4Target.l0 k a0 0) else (some false))
theorem spec_l4Target.calls (k : Nat) (a0 : ByteArray) (r : Bool) (w : World) (h : spec_l4Target.f k a0 = some r) :
  Calls Tryz.prog 75 #[.string a0] w fun e w' => e = .returned (.bool r) ∧ Drawn0 w w' := by
 have H : ((spec_l1In.f (a0.size : Int) 1 60).bind fun t151 => (if t151 = true then (spec_l4Target.l0 k a0 0) else (some false))) = some r := h
 clear h
 replace H := Option.bind_eq_some_iff.mp H
 obtain ⟨t151, A20, H⟩ := H
 replace H : (if t151 = true then (spec_l4Target.l0 k a0 0) else (some false)) = some r := H
 have A2 := zM A20
 clear A20
 by_cases c3 : t151 = true
 rotate_left
 ·replace c3 := Bool.eq_false_iff.mpr c3
  subst c3
  have H1 : (some false) = some r := by rw [if_neg (show ¬ (false = true) by decide)] at H; exact H
  clear H
  have H := H1
  clear H1
  obtain rfl := zI H
  go_enter Tryz.func75, Tryz.ntmps75
  go_wp2_with (first | ((with_reducible refine gate_callee (f := 48) rfl ?_); refine goesL_ (some 6) rfl rfl Tryz.func48 (by kernel_rfl) rfl #[.int .i64 (a0.size : Int), .int .i64 1, .int .i64 60] rfl (by (try simp only [List.map_toArray, List.map_cons, List.map_nil]); first | done | rfl | (simp only [List.length_drop, List.length_take]; rfl)) ?_; (with_reducible refine (spec_l1In.calls (a0.size : Int) 1 60 false _ A2.out).mono ?_); rintro e w' ⟨rfl, ⟨nd, rfl⟩⟩; refine ⟨_, rfl, ?_⟩))
  go_ret
  exact ⟨by first | rfl | (simp; done) | (simp [*]; done), by repeat (first | exact Drawn0.refl _ | apply Drawn0.step)⟩
 subst c3
 have H1 : (spec_l4Target.l0 k a0 0) = some r := by rw [if_pos rfl] at H; exact H
 clear H
 have H := H1
 clear H1
 have H' := zM H
 clear H
 go_enter Tryz.func75, Tryz.ntmps75
 go_wp2_with (first | ((with_reducible refine gate_callee (f := 48) rfl ?_); refine goesL_ (some 6) rfl rfl Tryz.func48 (by kernel_rfl) rfl #[.int .i64 (a0.size : Int), .int .i64 1, .int .i64 60] rfl (by (try simp only [List.map_toArray, List.map_cons, List.map_nil]); first | done | rfl | (simp only [List.length_drop, List.length_take]; rfl)) ?_; (with_reducible refine (spec_l1In.calls (a0.size : Int) 1 60 true _ A2.out).mono ?_); rintro e w' ⟨rfl, ⟨nd, rfl⟩⟩; refine ⟨_, rfl, ?_⟩))
 go_loopg [3] k (fun kq v3 w' => ∃ (x3_1 : Int), v3 = .int .i64 x3_1 ∧ Aside0 (spec_l4Target.l0 kq a0 x3_1 = some r) ∧ Aside0 (kq ≤ k) ∧ Drawn0 w w')
 case atStart => exact ⟨(0), (by first | rfl | (simp; done) | (simp [*]; done) | (simp; exact zQ _)), H', ⟨Nat.le_refl _⟩, by repeat (first | exact Drawn0.refl _ | apply Drawn0.step)⟩
 case round =>
  clear H'
  try clear p2
  try clear c3
  obtain ⟨x3_1, rfl, HA, HK1, ⟨m1, rfl⟩⟩ := hrel
  cases gk with
  | zero => exact absurd HA.out (by simp [spec_l4Target.l0])
  | succ k1 =>
   have H := HA.out
   clear HA
   simp only [spec_l4Target.l0] at H
   by_cases c4 : x3_1 < (a0.size : Int)
   rotate_left
   ·rw [if_neg c4] at H
    have c4b0 : decide (x3_1 < (a0.size : Int)) = false := zG c4
    clear c4
    obtain rfl := zI H
    go_wp2
    go_ret
    exact ⟨by first | rfl | (simp; done) | (simp [*]; done), by repeat (first | exact Drawn0.refl _ | apply Drawn0.step)⟩
   rw [if_pos c4] at H
   have c4b0 : decide (x3_1 < (a0.size : Int)) = true := zE c4
   clear c4
   by_cases c5 : 0 ≤ x3_1
   rotate_left
   ·rw [if_neg c5] at H
    exact absurd H (by simp)
   rw [if_pos c5] at H
   have c5b0 : decide (0 ≤ x3_1) = true := zE c5
   clear c5
   by_cases c7 : (bt a0 x3_1) = 47
   ·rw [if_pos c7] at H
    have c7b0 : ((bt a0 x3_1) == 47) = true := beq_iff_eq.mpr c7
    have c7b1 : ((bt a0 x3_1) != 47) = false := bne_eq_false_iff_eq.mpr c7
    clear c7
    have H' := zM H
    clear H
    have p6 : 0 ≤ (x3_1 : Int) := zO (by first | (with_reducible assumption) | assumption)
    have q6 : x3_1 < (a0.size : Int) := zO (by first | (with_reducible assumption) | assumption)
    have hx6 := bt_at a0 x3_1
    replace p6 := eq_true p6
    replace q6 := eq_true q6
    go_wp2
    go_roundg k1
    case measure => have := HK1.out; omega
    case rel => exact ⟨(wrap64 (x3_1 + 1)), (by first | rfl | (simp; done) | (simp [*]; done) | (simp; exact zQ _)), H', ⟨by have := HK1.out; omega⟩, by repeat (first | exact Drawn0.refl _ | apply Drawn0.step)⟩
   rw [if_neg c7] at H
   have c7b0 : ((bt a0 x3_1) == 47) = false := beq_eq_false_iff_ne.mpr c7
   have c7b1 : ((bt a0 x3_1) != 47) = true := bne_iff_ne.mpr c7
   replace H := Option.bind_eq_some_iff.mp H
   obtain ⟨t152, A90, H⟩ := H
   replace H : (if t152 = true then (spec_l4Target.l0 k1 a0 (wrap64 (x3_1 + 1))) else (some false)) = some r := H
   have A9 := zM A90
   clear A90
   by_cases c10 : t152 = true
   rotate_left
   ·replace c10 := Bool.eq_false_iff.mpr c10
    subst c10
    have H1 : (some false) = some r := by rw [if_neg (show ¬ (false = true) by decide)] at H; exact H
    clear H
    have H := H1
    clear H1
    obtain rfl := zI H
    have p6 : 0 ≤ (x3_1 : Int) := zO (by first | (with_reducible assumption) | assumption)
    have q6 : x3_1 < (a0.size : Int) := zO (by first | (with_reducible assumption) | assumption)
    have hx6 := bt_at a0 x3_1
    replace p6 := eq_true p6
    replace q6 := eq_true q6
    have p8 : 0 ≤ (x3_1 : Int) := zO (by first | (with_reducible assumption) | assumption)
    have q8 : x3_1 < (a0.size : Int) := zO (by first | (with_reducible assumption) | assumption)
    have hx8 := bt_at a0 x3_1
    replace p8 := eq_true p8
    replace q8 := eq_true q8
    go_wp2_with (first | (go_at_call 54; (with_reducible refine (spec_l2Byte.calls (bt a0 x3_1) false _ A9.out).mono ?_); rintro e w' ⟨rfl, ⟨nd, rfl⟩⟩))
    go_ret
    exact ⟨by first | rfl | (simp; done) | (simp [*]; done), by repeat (first | exact Drawn0.refl _ | apply Drawn0.step)⟩
   subst c10
   have H1 : (spec_l4Target.l0 k1 a0 (wrap64 (x3_1 + 1))) = some r := by rw [if_pos rfl] at H; exact H
   clear H
   have H := H1
   clear H1
   have H' := zM H
   clear H
   have p6 : 0 ≤ (x3_1 : Int) := zO (by first | (with_reducible assumption) | assumption)
   have q6 : x3_1 < (a0.size : Int) := zO (by first | (with_reducible assumption) | assumption)
   have hx6 := bt_at a0 x3_1
   replace p6 := eq_true p6
   replace q6 := eq_true q6
   have p8 : 0 ≤ (x3_1 : Int) := zO (by first | (with_reducible assumption) | assumption)
   have q8 : x3_1 < (a0.size : Int) := zO (by first | (with_reducible assumption) | assumption)
   have hx8 := bt_at a0 x3_1
   replace p8 := eq_true p8
   replace q8 := eq_true q8
   go_wp2_with (first | (go_at_call 54; (with_reducible refine (spec_l2Byte.calls (bt a0 x3_1) true _ A9.out).mono ?_); rintro e w' ⟨rfl, ⟨nd, rfl⟩⟩))
   go_roundg k1
   case measure => have := HK1.out; omega
   case rel => exact ⟨(wrap64 (x3_1 + 1)), (by first | rfl | (simp; done) | (simp [*]; done) | (simp; exact zQ _)), H', ⟨by have := HK1.out; omega⟩, by repeat (first | exact Drawn0.refl _ | apply Drawn0.step)⟩
end Go.Proofs.YtiopcpkfjikfdaaGreatDoor.PFnClean
