import Derived.Test.YtiopcpkfjikfdaaGreatDoorQFnCleanx12
set_option maxHeartbeats 8000000
set_option maxRecDepth 100000
namespace Go.Proofs.YtiopcpkfjikfdaaGreatDoor.PFnClean
open Go.RowKit Go.Proofs.YtiopcpkfjikfdaaGreatDoorW.PrintWords Go.Proofs.YtiopcpkfjikfdaaGreatDoorW.PrintLast Go.Proofs.YtiopcpkfjikfdaaGreatDoorW.PrintMore
attribute [local go_sem] max2_int min2_int max_two min_two max_three min_three max_four min_four   -- for this text's walks alone
set_option linter.unusedVariables false
set_option linter.unusedSimpArgs false
theorem credW_val (a b c : Int) : impl_within.f a b c = some (decide (b ≤ a ∧ a ≤ c)) := by
 unfold impl_within.f
 by_cases h : a ≥ b
 ·rw [if_pos h]; have : b ≤ a := h; simp [this]
 rw [if_neg h]; have : ¬ b ≤ a := h; simp [this]
def wB (a b c : Int) : Bool := decide (b ≤ a ∧ a ≤ c)
theorem credW_any (a b c : Int) (w : World) : Calls Tryz.prog 33 #[.int .i64 a, .int .i64 b, .int .i64 c] w fun e w' => e = .returned (.bool (wB a b c)) ∧ Drawn0 w w' :=
 impl_within.calls a b c (wB a b c) w (credW_val a b c)
theorem credClo.calls (g : Int) (w : World) : Calls Tryz.prog 42 #[.int .i64 g] w fun e w' => e = .returned (.bool (!wB g 0 1000)) ∧ Drawn0 w w' := by
 go_enter Tryz.func42, Tryz.ntmps42
 go_wp2_with (go_at_call 33; refine (credW_any g 0 1000 _).mono ?_; rintro e w1 ⟨rfl, ⟨n, rfl⟩⟩)
 go_ret
 exact ⟨rfl, ⟨n, rfl⟩⟩
def credIdx.l0 : Nat → List Int → Int → Int → Option (Int)
 | 0, _, _, _ => none
 | k + 1, x0, x7, x8 => if x8 < x7 then (if 0 ≤ x8 then (if x8 < (x0.length : Int) then (if wB (rd x0 x8) 0 1000 = false then (some x8) else (credIdx.l0 k x0 x7 (wrap64 (x8 + 1)))) else (none)) else (none)) else (some (-1))
def credIdx.f (k : Nat) (l0 : List Int) : Option (Int) := credIdx.l0 k l0 (l0.length : Int) 0
theorem credIdx.calls (k : Nat) (A0 : Option Addr) (c0 : Nat) (l0 : List Int) (r : Int) (w : World) (hr0 : Kd.C (Kd.int .i64) w A0 l0.length l0) (hc0 : l0.length ≤ c0) (h : credIdx.f k l0 = some r) :
  Calls Tryz.prog 72 #[.slice A0 l0.length c0, .func (.func 42) #[] #[]] w fun e w' => e = .returned (.int .i64 r) ∧ Drawn0 w w' := by
 have HR0 := zM hr0
 have HC0 := zM hc0
 clear hr0 hc0
 have H : (credIdx.l0 k l0 (l0.length : Int) 0) = some r := h
 clear h
 have H' := zM H
 clear H
 go_enter Tryz.func72, Tryz.ntmps72
 go_wp2
 go_loopg [8] k (fun kq v8 w' => ∃ (x8_1 : Int), v8 = .int .i64 x8_1 ∧ Aside0 (credIdx.l0 kq l0 (l0.length : Int) x8_1 = some r) ∧ Aside0 (kq ≤ k) ∧ Drawn0 w w')
 case atStart => exact ⟨(0), (by first | rfl | (simp; done) | (simp [*]; done) | (simp; exact zQ _)), H', ⟨Nat.le_refl _⟩, by repeat (first | exact Drawn0.refl _ | apply Drawn0.step)⟩
 case round =>
  clear H'
  obtain ⟨x8_1, rfl, HA, HK1, ⟨m1, rfl⟩⟩ := hrel
  cases gk with
  | zero => exact absurd HA.out (by simp [credIdx.l0])
  | succ k1 =>
   have H := HA.out
   clear HA
   simp only [credIdx.l0] at H
   by_cases c3 : x8_1 < (l0.length : Int)
   rotate_left
   ·rw [if_neg c3] at H
    have c3b0 : decide (x8_1 < (l0.length : Int)) = false := zG c3
    clear c3
    obtain rfl := zI H
    go_wp2
    go_ret
    exact ⟨by first | rfl | (simp; done) | (simp [*]; done), by repeat (first | exact Drawn0.refl _ | apply Drawn0.step)⟩
   rw [if_pos c3] at H
   have c3b0 : decide (x8_1 < (l0.length : Int)) = true := zE c3
   clear c3
   by_cases c4 : 0 ≤ x8_1
   rotate_left
   ·rw [if_neg c4] at H
    exact absurd H (by simp)
   rw [if_pos c4] at H
   have c4b0 : decide (0 ≤ x8_1) = true := zE c4
   clear c4
   rw [if_pos (zO c3b0)] at H
   have p130 : 0 ≤ (x8_1 : Int) := zO (by first | (with_reducible assumption) | assumption)
   have q130 : x8_1 < (l0.length : Int) := zO (by first | (with_reducible assumption) | assumption)
   obtain ⟨ad130, e130, hx130_0⟩ := Kd.at_int HR0.out x8_1 p130 q130
   cases e130
   replace p130 := eq_true p130
   replace q130 := eq_true q130
   have HC := fun W => credClo.calls (rd l0 x8_1) W
   cases hb : wB (rd l0 x8_1) 0 1000 with
   | false =>
    rw [hb] at HC
    rw [if_pos hb] at H
    obtain rfl := zI H
    clear hb
    have HC' := zM HC
    clear HC
    go_wp2_with (go_at_call 42; refine (HC'.out _).mono ?_; rintro e w1 ⟨rfl, ⟨n, rfl⟩⟩)
    go_ret
    exact ⟨by first | rfl | (simp; done) | (simp [*]; done), by repeat (first | exact Drawn0.refl _ | apply Drawn0.step)⟩
   | true =>
    rw [hb] at HC
    rw [if_neg (by rw [hb]; simp)] at H
    clear hb
    have HC' := zM HC
    clear HC
    have H' := zM H
    clear H
    go_wp2_with (go_at_call 42; refine (HC'.out _).mono ?_; rintro e w1 ⟨rfl, ⟨n, rfl⟩⟩)
    go_roundg k1
    case measure => have := HK1.out; omega
    case rel => exact ⟨(wrap64 (x8_1 + 1)), (by first | rfl | (simp; done) | (simp [*]; done) | (simp; exact zQ _)), H', ⟨by have := HK1.out; omega⟩, by repeat (first | exact Drawn0.refl _ | apply Drawn0.step)⟩
def credCf.f (k : Nat) (l0 : List Int) : Option Bool := (credIdx.f k l0).bind fun t131 => (some (decide (t131 ≥ 0)))
theorem credCf.calls (k : Nat) (A0 : Option Addr) (c0 : Nat) (l0 : List Int) (r : Bool) (w : World) (hr0 : Kd.C (Kd.int .i64) w A0 l0.length l0) (hc0 : l0.length ≤ c0) (h : credCf.f k l0 = some r) :
  Calls Tryz.prog 41 #[.slice A0 l0.length c0, .func (.func 42) #[] #[]] w fun e w' => e = .returned (.bool r) ∧ Drawn0 w w' := by
 obtain ⟨t, h1, h2⟩ := Option.bind_eq_some_iff.1 h
 obtain rfl := zI h2
 have HC := zM (fun W (hW : Kd.C (Kd.int .i64) W A0 l0.length l0) => credIdx.calls k A0 c0 l0 t W hW hc0 h1)
 have HR := zM hr0
 clear h h1 h2 hr0 hc0
 go_enter Tryz.func41, Tryz.ntmps41
 go_wp2_with (go_at_call 72; refine (HC.out _ HR.out).mono ?_; rintro e w1 ⟨rfl, ⟨n, rfl⟩⟩)
 go_ret
 exact ⟨by first | rfl | (simp; done) | (simp [*]; done), by repeat (first | exact Drawn0.refl _ | apply Drawn0.step)⟩
theorem credIdx.mono_l : ∀ k, (∀ y0 y1 y2, LeO (credIdx.l0 k y0 y1 y2) (credIdx.l0 (k + 1) y0 y1 y2))
 | 0 => fun _ _ _ r h => by simp [credIdx.l0] at h
 | k + 1 => by
  have ih0 := credIdx.mono_l k
  intro y0 y1 y2
  unfold credIdx.l0
  repeat' first | (with_reducible exact ih0 _ _ _) | (with_reducible exact LeO.refl _) | (with_reducible exact LeO.none _) | (with_reducible refine LeO.ite ?_ ?_) | (with_reducible refine LeO.bind ?_ (fun _ => ?_))
theorem credCf.mono : ∀ l0 k, LeO (credCf.f k l0) (credCf.f (k + 1) l0) := fun l0 k => LeO.bind (credIdx.mono_l k _ _ _) (fun _ => LeO.refl _)
def impl_CredOk.f (k : Nat) (a0_0 : Int) (a0_1 : Int) (l0_2 : List Int) : Option (Bool) :=
 if wB a0_0 0 1000 = true then (if wB a0_1 0 1000 = true then (if (l0_2.length : Int) > 4 then some false else (credCf.f k l0_2).bind fun b => some (!b)) else some false) else some false
theorem impl_CredOk.calls (k : Nat) (a0_0 : Int) (a0_1 : Int) (A0_2 : Option Addr) (c0_2 : Nat) (l0_2 : List Int) (r : Bool) (w : World) (hr0_2 : Kd.C (Kd.int .i64) w A0_2 l0_2.length l0_2) (hc0_2 : l0_2.length ≤ c0_2) (h : impl_CredOk.f k a0_0 a0_1 l0_2 = some r) :
  Calls Tryz.prog 16 #[.agg #[.int .i64 a0_0, .int .i64 a0_1, .slice A0_2 l0_2.length c0_2]] w fun e w' => e = .returned (.bool r) ∧ Below w.heap.size w w' := by
 have hm : l0_2.length ≤ 9223372036854775807 := hr0_2.2.1
 unfold impl_CredOk.f at h
 by_cases c1 : wB a0_0 0 1000 = true
 rotate_left
 ·rw [if_neg c1] at h
  obtain rfl := zI h
  have c1' : wB a0_0 0 1000 = false := by simpa using c1
  clear hr0_2 h c1
  go_enter Tryz.func16, Tryz.ntmps16
  go_wp2_with (go_at_call 33; refine (credW_any _ _ _ _).mono ?_; rintro e w1 ⟨rfl, ⟨n, rfl⟩⟩)
  go_ret
  exact ⟨rfl, by repeat (first | exact Below.refl _ _ | apply zA | apply zN | apply zD)⟩
 rw [if_pos c1] at h
 by_cases c2 : wB a0_1 0 1000 = true
 rotate_left
 ·rw [if_neg c2] at h
  obtain rfl := zI h
  have c2' : wB a0_1 0 1000 = false := by simpa using c2
  clear hr0_2 h c2
  go_enter Tryz.func16, Tryz.ntmps16
  go_wp2_with (go_at_call 33; refine (credW_any _ _ _ _).mono ?_; rintro e w1 ⟨rfl, ⟨n, rfl⟩⟩)
  go_ret
  exact ⟨rfl, by repeat (first | exact Below.refl _ _ | apply zA | apply zN | apply zD)⟩
 rw [if_pos c2] at h
 by_cases c3 : (l0_2.length : Int) > 4
 ·rw [if_pos c3] at h
  obtain rfl := zI h
  clear hr0_2 h
  have c3b : decide (4 < (l0_2.length : Int)) = true := zE c3
  have c3n : decide (4 < l0_2.length) = true := zE (by omega)
  clear c3
  go_enter Tryz.func16, Tryz.ntmps16
  go_wp2_with (go_at_call 33; refine (credW_any _ _ _ _).mono ?_; rintro e w1 ⟨rfl, ⟨n, rfl⟩⟩)
  go_ret
  exact ⟨rfl, by repeat (first | exact Below.refl _ _ | apply zA | apply zN | apply zD)⟩
 rw [if_neg c3] at h
 obtain ⟨b, hb, h2⟩ := Option.bind_eq_some_iff.1 h
 obtain rfl := zI h2
 have HC := zM (fun W (hW : Kd.C (Kd.int .i64) W A0_2 l0_2.length l0_2) => credCf.calls k A0_2 c0_2 l0_2 b W hW hc0_2 hb)
 have HR := zM (fun W (hW : Below w.heap.size w W) => Kd.C_below hr0_2 hW)
 clear hr0_2 h h2 hb hc0_2
 have c3b : decide (4 < (l0_2.length : Int)) = false := zG c3
 have c3n : decide (4 < l0_2.length) = false := zG (by omega)
 clear c3
 go_enter Tryz.func16, Tryz.ntmps16
 go_wp2_with (first | (go_at_call 33; refine (credW_any _ _ _ _).mono ?_; rintro e w1 ⟨rfl, ⟨n, rfl⟩⟩) | (go_at_call 41; refine (HC.out _ (HR.out _ (by repeat (first | exact Below.refl _ _ | apply zA | apply zN | apply zD)))).mono ?_; rintro e w1 ⟨rfl, ⟨n, rfl⟩⟩))
 go_ret
 exact ⟨by first | rfl | (simp; done), by repeat (first | exact Below.refl _ _ | apply zA | apply zN | apply zD)⟩
def impl_In.f (k : Nat) (a0_0 : Int) (a0_1 : Int) (l0_2 : List Int) (a1 : Int) : Option (Bool) := (impl_CredOk.f k a0_0 a0_1 l0_2).bind fun t225 => (if t225 = true then (if a1 = a0_1 then (some true) else ((slices_Contains_int_int.f l0_2 a1).bind fun t226 => (some t226))) else (some false))
theorem impl_In.calls (k : Nat) (a0_0 : Int) (a0_1 : Int) (A0_2 : Option Addr) (c0_2 : Nat) (l0_2 : List Int) (a1 : Int) (r : Bool) (w : World) (hr0_2 : Kd.C (Kd.int .i64) w A0_2 l0_2.length l0_2) (hc0_2 : l0_2.length ≤ c0_2) (h : impl_In.f k a0_0 a0_1 l0_2 a1 = some r) :
  Calls Tryz.prog 74 #[.agg #[.int .i64 a0_0, .int .i64 a0_1, .slice A0_2 l0_2.length c0_2], .int .i64 a1] w fun e w' => e = .returned (.bool r) ∧ Below w.heap.size w w' := by
 have hu29 := Tryz.underlying29
 have HR0_2 := zM hr0_2
 have HC0_2 := zM hc0_2
 clear hr0_2 hc0_2
 have HB := zM (Below.refl w.heap.size w)
 have H : ((impl_CredOk.f k a0_0 a0_1 l0_2).bind fun t225 => (if t225 = true then (if a1 = a0_1 then (some true) else ((slices_Contains_int_int.f l0_2 a1).bind fun t226 => (some t226))) else (some false))) = some r := h
 clear h
 replace H := Option.bind_eq_some_iff.mp H
 obtain ⟨t225, A30, H⟩ := H
 replace H : (if t225 = true then (if a1 = a0_1 then (some true) else ((slices_Contains_int_int.f l0_2 a1).bind fun t226 => (some t226))) else (some false)) = some r := H
 have A3 := zM A30
 clear A30
 by_cases c4 : t225 = true
 rotate_left
 ·replace c4 := Bool.eq_false_iff.mpr c4
  subst c4
  have H1 : (some false) = some r := by rw [if_neg (show ¬ (false = true) by decide)] at H; exact H
  clear H
  have H := H1
  clear H1
  obtain rfl := zI H
  go_enter Tryz.func74, Tryz.ntmps74
  go_wp2_with (first | ((with_reducible refine gate_dst (N := 2) rfl ?_); refine box_event ?hg (N := 2) ?hd (cs := #[.int .i64 a0_0, .int .i64 a0_1, .slice A0_2 l0_2.length c0_2]) (t := 29) ?hr ?_; (case hd => rfl); (case hg => rfl); (case hr => first | (go_simp; done) | (go_simp; rfl)); intro gb224 hg w16 hbox hb; have n0_ := zM (zP (by repeat (first | exact HB.out | apply zA | apply zN | apply zD)) hb); have n1_ := zM (hbox); have n2_ := zM ((by rw [hg]; exact (zZ (by repeat (first | exact HB.out | apply zA | apply zN | apply zD))) : w.heap.size ≤ gb224)); have n3_ := zM ((by rw [hg]; exact (zZ (by repeat (first | exact HB.out | apply zA | apply zN | apply zD))) : w.heap.size ≤ gb224)); clear HB; have HB := n0_; have BK224 := n1_; have GW224 := n2_; have GE224 := n3_; clear n0_ n1_ n2_ n3_; clear hb hbox hg; have hcz17_0 : w16.cell? ⟨gb224, 0, none⟩ = some (.int .i64 a0_0) := (zC BK224.out 0).trans rfl; have hcz17_1 : w16.cell? ⟨gb224, 1, none⟩ = some (.int .i64 a0_1) := (zC BK224.out 1).trans rfl; have hcz17_2 : w16.cell? ⟨gb224, 2, none⟩ = some (.slice A0_2 l0_2.length c0_2) := (zC BK224.out 2).trans rfl; have hfz17_0 := zF BK224.out 0; have hfz17_1 := zF BK224.out 1; have hfz17_2 := zF BK224.out 2) | ((with_reducible refine gate_callee (f := 16) rfl ?_); refine goesL_ (some 6) rfl rfl Tryz.func16 (by kernel_rfl) rfl #[.agg #[.int .i64 a0_0, .int .i64 a0_1, .slice A0_2 l0_2.length c0_2]] rfl (by (try simp only [List.map_toArray, List.map_cons, List.map_nil]); first | done | rfl | (simp only [List.length_drop, List.length_take]; rfl)) ?_; (with_reducible refine (impl_CredOk.calls k a0_0 a0_1 _ _ l0_2 false _ ?side1 ?side2 A3.out).mono ?_); (case side1 => repeat (first | exact (Kd.C_below HR0_2.out HB.out) | (with_reducible refine Kd.C_alloc ?_ _) | (with_reducible refine Kd.C_drewN ?_ _) | (with_reducible refine Kd.C_drew ?_))); (case side2 => exact HC0_2.out); rintro e w18 ⟨rfl, hb⟩; refine ⟨_, rfl, ?_⟩; have n0_ := zM (zL (g := gb224) (o := .cells #[.int .i64 a0_0, .int .i64 a0_1, .slice A0_2 l0_2.length c0_2] 29 (0, 0)) (by (with_reducible repeat (first | refine zK ?_ _ | refine zW ?_ | refine zB ?_ _)); exact BK224.out) hb); have n1_ := zM (zP (by repeat (first | exact HB.out | apply zA | apply zN | apply zD | refine zS ?_ GE224.out)) hb); clear BK224; clear HB; have BK224 := n0_; have HB := n1_; clear n0_ n1_; (try clear hb); (try clear hb2); (try clear hk); (try clear hi)))
  go_ret
  exact ⟨by first | rfl | (simp [errW_none, errW_some] <;> rfl) | (simp [*, errW_none, errW_some] <;> rfl), by repeat (first | (with_reducible first | exact HB.out | apply zA | apply zN | apply zD | refine zS ?_ GE224.out) | exact HB.out)⟩
 subst c4
 have H1 : (if a1 = a0_1 then (some true) else ((slices_Contains_int_int.f l0_2 a1).bind fun t226 => (some t226))) = some r := by rw [if_pos rfl] at H; exact H
 clear H
 have H := H1
 clear H1
 by_cases c5 : a1 = a0_1
 ·rw [if_pos c5] at H
  have c5b0 : (a1 == a0_1) = true := beq_iff_eq.mpr c5
  have c5b1 : (a1 != a0_1) = false := bne_eq_false_iff_eq.mpr c5
  clear c5
  obtain rfl := zI H
  go_enter Tryz.func74, Tryz.ntmps74
  go_wp2_with (first | ((with_reducible refine gate_dst (N := 2) rfl ?_); refine box_event ?hg (N := 2) ?hd (cs := #[.int .i64 a0_0, .int .i64 a0_1, .slice A0_2 l0_2.length c0_2]) (t := 29) ?hr ?_; (case hd => rfl); (case hg => rfl); (case hr => first | (go_simp; done) | (go_simp; rfl)); intro gb224 hg w6 hbox hb; have n0_ := zM (zP (by repeat (first | exact HB.out | apply zA | apply zN | apply zD)) hb); have n1_ := zM (hbox); have n2_ := zM ((by rw [hg]; exact (zZ (by repeat (first | exact HB.out | apply zA | apply zN | apply zD))) : w.heap.size ≤ gb224)); have n3_ := zM ((by rw [hg]; exact (zZ (by repeat (first | exact HB.out | apply zA | apply zN | apply zD))) : w.heap.size ≤ gb224)); clear HB; have HB := n0_; have BK224 := n1_; have GW224 := n2_; have GE224 := n3_; clear n0_ n1_ n2_ n3_; clear hb hbox hg; have hcz7_0 : w6.cell? ⟨gb224, 0, none⟩ = some (.int .i64 a0_0) := (zC BK224.out 0).trans rfl; have hcz7_1 : w6.cell? ⟨gb224, 1, none⟩ = some (.int .i64 a0_1) := (zC BK224.out 1).trans rfl; have hcz7_2 : w6.cell? ⟨gb224, 2, none⟩ = some (.slice A0_2 l0_2.length c0_2) := (zC BK224.out 2).trans rfl; have hfz7_0 := zF BK224.out 0; have hfz7_1 := zF BK224.out 1; have hfz7_2 := zF BK224.out 2) | ((with_reducible refine gate_callee (f := 16) rfl ?_); refine goesL_ (some 6) rfl rfl Tryz.func16 (by kernel_rfl) rfl #[.agg #[.int .i64 a0_0, .int .i64 a0_1, .slice A0_2 l0_2.length c0_2]] rfl (by (try simp only [List.map_toArray, List.map_cons, List.map_nil]); first | done | rfl | (simp only [List.length_drop, List.length_take]; rfl)) ?_; (with_reducible refine (impl_CredOk.calls k a0_0 a0_1 _ _ l0_2 true _ ?side1 ?side2 A3.out).mono ?_); (case side1 => repeat (first | exact (Kd.C_below HR0_2.out HB.out) | (with_reducible refine Kd.C_alloc ?_ _) | (with_reducible refine Kd.C_drewN ?_ _) | (with_reducible refine Kd.C_drew ?_))); (case side2 => exact HC0_2.out); rintro e w8 ⟨rfl, hb⟩; refine ⟨_, rfl, ?_⟩; have n0_ := zM (zL (g := gb224) (o := .cells #[.int .i64 a0_0, .int .i64 a0_1, .slice A0_2 l0_2.length c0_2] 29 (0, 0)) (by (with_reducible repeat (first | refine zK ?_ _ | refine zW ?_ | refine zB ?_ _)); exact BK224.out) hb); have n1_ := zM (zP (by repeat (first | exact HB.out | apply zA | apply zN | apply zD | refine zS ?_ GE224.out)) hb); clear BK224; clear HB; have BK224 := n0_; have HB := n1_; clear n0_ n1_; (try clear hb); (try clear hb2); (try clear hk); (try clear hi); have hcz9_0 : w8.cell? ⟨gb224, 0, none⟩ = some (.int .i64 a0_0) := (zC BK224.out 0).trans rfl; have hcz9_1 : w8.cell? ⟨gb224, 1, none⟩ = some (.int .i64 a0_1) := (zC BK224.out 1).trans rfl; have hcz9_2 : w8.cell? ⟨gb224, 2, none⟩ = some (.slice A0_2 l0_2.length c0_2) := (zC BK224.out 2).trans rfl; have hfz9_0 := zF BK224.out 0; have hfz9_1 := zF BK224.out 1; have hfz9_2 := zF BK224.out 2))
  go_ret
  exact ⟨by first | rfl | (simp [errW_none, errW_some] <;> rfl) | (simp [*, errW_none, errW_some] <;> rfl), by repeat (first | (with_reducible first | exact HB.out | apply zA | apply zN | apply zD | refine zS ?_ GE224.out) | exact HB.out)⟩
 rw [if_neg c5] at H
 have c5b0 : (a1 == a0_1) = false := beq_eq_false_iff_ne.mpr c5
 have c5b1 : (a1 != a0_1) = true := bne_iff_ne.mpr c5
 replace H := Option.bind_eq_some_iff.mp H
 obtain ⟨t226, A100, H⟩ := H
 replace H : (some t226) = some r := H
 have A10 := zM A100
 clear A100
 obtain rfl := zI H
 go_enter Tryz.func74, Tryz.ntmps74
 go_wp2_with (first | ((with_reducible refine gate_dst (N := 2) rfl ?_); refine box_event ?hg (N := 2) ?hd (cs := #[.int .i64 a0_0, .int .i64 a0_1, .slice A0_2 l0_2.length c0_2]) (t := 29) ?hr ?_; (case hd => rfl); (case hg => rfl); (case hr => first | (go_simp; done) | (go_simp; rfl)); intro gb224 hg w11 hbox hb; have n0_ := zM (zP (by repeat (first | exact HB.out | apply zA | apply zN | apply zD)) hb); have n1_ := zM (hbox); have n2_ := zM ((by rw [hg]; exact (zZ (by repeat (first | exact HB.out | apply zA | apply zN | apply zD))) : w.heap.size ≤ gb224)); have n3_ := zM ((by rw [hg]; exact (zZ (by repeat (first | exact HB.out | apply zA | apply zN | apply zD))) : w.heap.size ≤ gb224)); clear HB; have HB := n0_; have BK224 := n1_; have GW224 := n2_; have GE224 := n3_; clear n0_ n1_ n2_ n3_; clear hb hbox hg; have hcz12_0 : w11.cell? ⟨gb224, 0, none⟩ = some (.int .i64 a0_0) := (zC BK224.out 0).trans rfl; have hcz12_1 : w11.cell? ⟨gb224, 1, none⟩ = some (.int .i64 a0_1) := (zC BK224.out 1).trans rfl; have hcz12_2 : w11.cell? ⟨gb224, 2, none⟩ = some (.slice A0_2 l0_2.length c0_2) := (zC BK224.out 2).trans rfl; have hfz12_0 := zF BK224.out 0; have hfz12_1 := zF BK224.out 1; have hfz12_2 := zF BK224.out 2) | ((with_reducible refine gate_callee (f := 16) rfl ?_); refine goesL_ (some 6) rfl rfl Tryz.func16 (by kernel_rfl) rfl #[.agg #[.int .i64 a0_0, .int .i64 a0_1, .slice A0_2 l0_2.length c0_2]] rfl (by (try simp only [List.map_toArray, List.map_cons, List.map_nil]); first | done | rfl | (simp only [List.length_drop, List.length_take]; rfl)) ?_; (with_reducible refine (impl_CredOk.calls k a0_0 a0_1 _ _ l0_2 true _ ?side1 ?side2 A3.out).mono ?_); (case side1 => repeat (first | exact (Kd.C_below HR0_2.out HB.out) | (with_reducible refine Kd.C_alloc ?_ _) | (with_reducible refine Kd.C_drewN ?_ _) | (with_reducible refine Kd.C_drew ?_))); (case side2 => exact HC0_2.out); rintro e w13 ⟨rfl, hb⟩; refine ⟨_, rfl, ?_⟩; have n0_ := zM (zL (g := gb224) (o := .cells #[.int .i64 a0_0, .int .i64 a0_1, .slice A0_2 l0_2.length c0_2] 29 (0, 0)) (by (with_reducible repeat (first | refine zK ?_ _ | refine zW ?_ | refine zB ?_ _)); exact BK224.out) hb); have n1_ := zM (zP (by repeat (first | exact HB.out | apply zA | apply zN | apply zD | refine zS ?_ GE224.out)) hb); clear BK224; clear HB; have BK224 := n0_; have HB := n1_; clear n0_ n1_; (try clear hb); (try clear hb2); (try clear hk); (try clear hi); have hcz14_0 : w13.cell? ⟨gb224, 0, none⟩ = some (.int .i64 a0_0) := (zC BK224.out 0).trans rfl; have hcz14_1 : w13.cell? ⟨gb224, 1, none⟩ = some (.int .i64 a0_1) := (zC BK224.out 1).trans rfl; have hcz14_2 : w13.cell? ⟨gb224, 2, none⟩ = some (.slice A0_2 l0_2.length c0_2) := (zC BK224.out 2).trans rfl; have hfz14_0 := zF BK224.out 0; have hfz14_1 := zF BK224.out 1; have hfz14_2 := zF BK224.out 2) | (go_at_call 36; (with_reducible refine (slices_Contains_int_int.calls _ _ l0_2 a1 t226 _ ?side1 ?side2 A10.out).mono ?_); (case side1 => repeat (first | exact (Kd.C_below HR0_2.out HB.out) | (with_reducible refine Kd.C_alloc ?_ _) | (with_reducible refine Kd.C_drewN ?_ _) | (with_reducible refine Kd.C_drew ?_))); (case side2 => exact HC0_2.out); rintro e w15 ⟨rfl, hb⟩; have n0_ := zM (zL (g := gb224) (o := .cells #[.int .i64 a0_0, .int .i64 a0_1, .slice A0_2 l0_2.length c0_2] 29 (0, 0)) (by (with_reducible repeat (first | refine zK ?_ _ | refine zW ?_ | refine zB ?_ _)); exact BK224.out) hb); have n1_ := zM (zP (by repeat (first | exact HB.out | apply zA | apply zN | apply zD | refine zS ?_ GE224.out)) hb); clear BK224; clear HB; have BK224 := n0_; have HB := n1_; clear n0_ n1_; (try clear hb); (try clear hb2); (try clear hk); (try clear hi)))
 go_ret
 exact ⟨by first | rfl | (simp [errW_none, errW_some] <;> rfl) | (simp [*, errW_none, errW_some] <;> rfl), by repeat (first | (with_reducible first | exact HB.out | apply zA | apply zN | apply zD | refine zS ?_ GE224.out) | exact HB.out)⟩
def impl_May.j0 : Nat → Int → Bool → Int → Int → List Int → Int → Int → Int → Int → Int → ByteArray → List (S59) → Int → Int → Option (Bool)
 | 0, _, _, _, _, _, _, _, _, _, _, _, _, _, _ => none
 | k + 1, x2, x15, x228000, x228001, x228002, x229000, x229001, x229002, x229003, x229004, x229005, x229006, x229007, x229008 => if x15 = true then (some false) else (if x228000 = 0 then (if x229001 = 1 then (if (Go.bits .and .i64 x229002 73) = 0 then (some ((Go.bits .and .i64 x2 1) == 0)) else (some true)) else (some true)) else (if x228000 = x229003 then (some ((Go.bits .and .i64 (Go.bits .and .i64 (x229002 / 64) 7) x2) == x2)) else ((impl_In.f k x228000 x228001 x228002 x229004).bind fun t231 => (if t231 = true then (some ((Go.bits .and .i64 (Go.bits .and .i64 (x229002 / 8) 7) x2) == x2)) else (some ((Go.bits .and .i64 (Go.bits .and .i64 x229002 7) x2) == x2))))))
def impl_May.f (k : Nat) (a0_0 : Int) (a0_1 : Int) (l0_2 : List Int) (a1_0 : Int) (a1_1 : Int) (a1_2 : Int) (a1_3 : Int) (a1_4 : Int) (a1_5 : ByteArray) (l1_6 : List (S59)) (a1_7 : Int) (a1_8 : Int) (a2 : Int) : Option (Bool) := (impl_CredOk.f k a0_0 a0_1 l0_2).bind fun t229 => (if t229 = true then ((impl_within.f a2 0 7).bind fun t230 => (impl_May.j0 k a2 (!t230) a0_0 a0_1 l0_2 a1_0 a1_1 a1_2 a1_3 a1_4 a1_5 l1_6 a1_7 a1_8)) else (impl_May.j0 k a2 true a0_0 a0_1 l0_2 a1_0 a1_1 a1_2 a1_3 a1_4 a1_5 l1_6 a1_7 a1_8))
theorem impl_May.calls (k : Nat) (a0_0 : Int) (a0_1 : Int) (A0_2 : Option Addr) (c0_2 : Nat) (l0_2 : List Int) (a1_0 : Int) (a1_1 : Int) (a1_2 : Int) (a1_3 : Int) (a1_4 : Int) (a1_5 : ByteArray) (A1_6 : Option Addr) (c1_6 : Nat) (l1_6 : List (S59)) (a1_7 : Int) (a1_8 : Int) (a2 : Int) (r : Bool) (w : World) (hr0_2 : Kd.C (Kd.int .i64) w A0_2 l0_2.length l0_2) (hc0_2 : l0_2.length ≤ c0_2) (hr1_6 : Kd.C k59 w A1_6 l1_6.length l1_6) (hc1_6 : l1_6.length ≤ c1_6) (h : impl_May.f k a0_0 a0_1 l0_2 a1_0 a1_1 a1_2 a1_3 a1_4 a1_5 l1_6 a1_7 a1_8 a2 = some r) :
  Calls Tryz.prog 45 #[.agg #[.int .i64 a0_0, .int .i64 a0_1, .slice A0_2 l0_2.length c0_2], .agg #[.int .i64 a1_0, .int .i64 a1_1, .int .i64 a1_2, .int .i64 a1_3, .int .i64 a1_4, .string a1_5, .slice A1_6 l1_6.length c1_6, .int .i64 a1_7, .int .i64 a1_8], .int .i64 a2] w fun e w' => e = .returned (.bool r) ∧ Below w.heap.size w w' := by
 have hu29 := Tryz.underlying29
 have hu37 := Tryz.underlying37
 have HR0_2 := zM hr0_2
 have HC0_2 := zM hc0_2
 clear hr0_2 hc0_2
 have HR1_6 := zM hr1_6
 have HC1_6 := zM hc1_6
 clear hr1_6 hc1_6
 have HB := zM (Below.refl w.heap.size w)
 have H : ((impl_CredOk.f k a0_0 a0_1 l0_2).bind fun t229 => (if t229 = true then ((impl_within.f a2 0 7).bind fun t230 => (impl_May.j0 k a2 (!t230) a0_0 a0_1 l0_2 a1_0 a1_1 a1_2 a1_3 a1_4 a1_5 l1_6 a1_7 a1_8)) else (impl_May.j0 k a2 true a0_0 a0_1 l0_2 a1_0 a1_1 a1_2 a1_3 a1_4 a1_5 l1_6 a1_7 a1_8))) = some r := h
 clear h
 have HC4 := zM H
 clear H
 go_enter Tryz.func45, Tryz.ntmps45
 go_upto_region 1 with (first | ((with_reducible refine gate_dst (N := 3) rfl ?_); refine box_event ?hg (N := 3) ?hd (cs := #[.int .i64 a0_0, .int .i64 a0_1, .slice A0_2 l0_2.length c0_2]) (t := 29) ?hr ?_; (case hd => rfl); (case hg => rfl); (case hr => first | (go_simp; done) | (go_simp; rfl)); intro gb227 hg w5 hbox hb; have n0_ := zM (zP (by repeat (first | exact HB.out | apply zA | apply zN | apply zD)) hb); have n1_ := zM (hbox); have n2_ := zM ((by rw [hg]; exact (zZ (by repeat (first | exact HB.out | apply zA | apply zN | apply zD))) : w.heap.size ≤ gb227)); have n3_ := zM ((by rw [hg]; exact (zZ (by repeat (first | exact HB.out | apply zA | apply zN | apply zD))) : w.heap.size ≤ gb227)); clear HB; have HB := n0_; have BK227 := n1_; have GW227 := n2_; have GE227 := n3_; clear n0_ n1_ n2_ n3_; clear hb hbox hg) | ((with_reducible refine gate_dst (N := 4) rfl ?_); refine box_event ?hg (N := 4) ?hd (cs := #[.int .i64 a1_0, .int .i64 a1_1, .int .i64 a1_2, .int .i64 a1_3, .int .i64 a1_4, .string a1_5, .slice A1_6 l1_6.length c1_6, .int .i64 a1_7, .int .i64 a1_8]) (t := 37) ?hr ?_; (case hd => rfl); (case hg => rfl); (case hr => first | (go_simp; done) | (go_simp; rfl)); intro gb228 hg w6 hbox hb; have n0_ := zM (zL (g := gb227) (o := .cells #[.int .i64 a0_0, .int .i64 a0_1, .slice A0_2 l0_2.length c0_2] 29 (0, 0)) (by (with_reducible repeat (first | refine zK ?_ _ | refine zW ?_ | refine zB ?_ _)); exact BK227.out) hb); have n1_ := zM (zP (by repeat (first | exact HB.out | apply zA | apply zN | apply zD | refine zS ?_ GE227.out)) hb); have n2_ := zM (hbox); have n3_ := zM ((by rw [hg]; exact (zZ (by repeat (first | exact HB.out | apply zA | apply zN | apply zD | refine zS ?_ GE227.out))) : w.heap.size ≤ gb228)); have n4_ := zM ((by rw [hg]; exact (zZ (by repeat (first | exact HB.out | apply zA | apply zN | apply zD | refine zS ?_ GE227.out))) : w.heap.size ≤ gb228)); have n5_ := zM ((by rw [hg]; exact Nat.ne_of_lt (blk_lt (g := gb227) (o := .cells #[.int .i64 a0_0, .int .i64 a0_1, .slice A0_2 l0_2.length c0_2] 29 (0, 0)) (by (with_reducible repeat (first | refine zK ?_ _ | refine zW ?_ | refine zB ?_ _)); exact BK227.out)) : gb227 ≠ gb228)); have n6_ := zM ((by rw [hg]; exact Nat.ne_of_gt (blk_lt (g := gb227) (o := .cells #[.int .i64 a0_0, .int .i64 a0_1, .slice A0_2 l0_2.length c0_2] 29 (0, 0)) (by (with_reducible repeat (first | refine zK ?_ _ | refine zW ?_ | refine zB ?_ _)); exact BK227.out)) : gb228 ≠ gb227)); clear BK227; clear HB; have BK227 := n0_; have HB := n1_; have BK228 := n2_; have GW228 := n3_; have GE228 := n4_; have NB227_228 := n5_; have NB228_227 := n6_; clear n0_ n1_ n2_ n3_ n4_ n5_ n6_; clear hb hbox hg))
 (try simp only [Act.put, List.setIfInBounds_toArray, List.set_cons_zero, List.set_cons_succ])
 go_cut [15] (fun v15 wc => ∃ (kq : Nat) (x15_3 : Bool), v15 = .bool x15_3 ∧ Aside0 (impl_May.j0 kq a2 x15_3 a0_0 a0_1 l0_2 a1_0 a1_1 a1_2 a1_3 a1_4 a1_5 l1_6 a1_7 a1_8 = some r) ∧ Aside0 (kq ≤ k) ∧ Aside0 (wc.heap[gb227]? = some (.cells #[.int .i64 a0_0, .int .i64 a0_1, (.slice A0_2 l0_2.length c0_2)] 29 (0, 0))) ∧ Aside0 (wc.heap[gb228]? = some (.cells #[.int .i64 a1_0, .int .i64 a1_1, .int .i64 a1_2, .int .i64 a1_3, .int .i64 a1_4, .string a1_5, (.slice A1_6 l1_6.length c1_6), .int .i64 a1_7, .int .i64 a1_8] 37 (0, 0))) ∧ Aside0 (Below w.heap.size w wc))
 case first =>
  have H := HC4.out
  clear HC4
  replace H := Option.bind_eq_some_iff.mp H
  obtain ⟨t229, A70, H⟩ := H
  replace H : (if t229 = true then ((impl_within.f a2 0 7).bind fun t230 => (impl_May.j0 k a2 (!t230) a0_0 a0_1 l0_2 a1_0 a1_1 a1_2 a1_3 a1_4 a1_5 l1_6 a1_7 a1_8)) else (impl_May.j0 k a2 true a0_0 a0_1 l0_2 a1_0 a1_1 a1_2 a1_3 a1_4 a1_5 l1_6 a1_7 a1_8)) = some r := H
  have A7 := zM A70
  clear A70
  by_cases c8 : t229 = true
  rotate_left
  ·replace c8 := Bool.eq_false_iff.mpr c8
   subst c8
   have H1 : (impl_May.j0 k a2 true a0_0 a0_1 l0_2 a1_0 a1_1 a1_2 a1_3 a1_4 a1_5 l1_6 a1_7 a1_8) = some r := by rw [if_neg (show ¬ (false = true) by decide)] at H; exact H
   clear H
   have H := H1
   clear H1
   have H' := zM H
   clear H
   have hnb13 := NB227_228.out
   have hnc13 := NB228_227.out
   have hcz14_0 : w6.cell? ⟨gb227, 0, none⟩ = some (.int .i64 a0_0) := (zC BK227.out 0).trans rfl
   have hcz14_1 : w6.cell? ⟨gb227, 1, none⟩ = some (.int .i64 a0_1) := (zC BK227.out 1).trans rfl
   have hcz14_2 : w6.cell? ⟨gb227, 2, none⟩ = some (.slice A0_2 l0_2.length c0_2) := (zC BK227.out 2).trans rfl
   have hfz14_0 := zF BK227.out 0
   have hfz14_1 := zF BK227.out 1
   have hfz14_2 := zF BK227.out 2
   go_wp2_with (first | ((with_reducible refine gate_callee (f := 16) rfl ?_); refine goesL_ (some 9) rfl rfl Tryz.func16 (by kernel_rfl) rfl #[.agg #[.int .i64 a0_0, .int .i64 a0_1, .slice A0_2 l0_2.length c0_2]] rfl (by (try simp only [List.map_toArray, List.map_cons, List.map_nil]); first | done | rfl | (simp only [List.length_drop, List.length_take]; rfl)) ?_; (with_reducible refine (impl_CredOk.calls k a0_0 a0_1 _ _ l0_2 false _ ?side1 ?side2 A7.out).mono ?_); (case side1 => repeat (first | exact (Kd.C_below HR0_2.out HB.out) | (with_reducible refine Kd.C_alloc ?_ _) | (with_reducible refine Kd.C_drewN ?_ _) | (with_reducible refine Kd.C_drew ?_))); (case side2 => exact HC0_2.out); rintro e w15 ⟨rfl, hb⟩; refine ⟨_, rfl, ?_⟩; have n0_ := zM (zL (g := gb227) (o := .cells #[.int .i64 a0_0, .int .i64 a0_1, .slice A0_2 l0_2.length c0_2] 29 (0, 0)) (by (with_reducible repeat (first | refine zK ?_ _ | refine zW ?_ | refine zB ?_ _)); exact BK227.out) hb); have n1_ := zM (zL (g := gb228) (o := .cells #[.int .i64 a1_0, .int .i64 a1_1, .int .i64 a1_2, .int .i64 a1_3, .int .i64 a1_4, .string a1_5, .slice A1_6 l1_6.length c1_6, .int .i64 a1_7, .int .i64 a1_8] 37 (0, 0)) (by (with_reducible repeat (first | refine zK ?_ _ | refine zW ?_ | refine zB ?_ _)); exact BK228.out) hb); have n2_ := zM (zP (by repeat (first | exact HB.out | apply zA | apply zN | apply zD | refine zS ?_ GE227.out | refine zS ?_ GE228.out)) hb); clear BK227; clear BK228; clear HB; have BK227 := n0_; have BK228 := n1_; have HB := n2_; clear n0_ n1_ n2_; (try clear hb); (try clear hb2); (try clear hk); (try clear hi)))
   go_meet
   case rel => exact ⟨_, (true), (by first | rfl | (simp; done) | (simp [*]; done) | (simp; exact zQ _)), H', ⟨by first | omega | exact Nat.le_refl _⟩, ⟨by (with_reducible repeat (first | refine zK ?_ _ | refine zW ?_ | refine zB ?_ _)); exact BK227.out⟩, ⟨by (with_reducible repeat (first | refine zK ?_ _ | refine zW ?_ | refine zB ?_ _)); exact BK228.out⟩, ⟨by repeat (first | (with_reducible first | exact HB.out | apply zA | apply zN | apply zD | refine zS ?_ GE227.out | refine zS ?_ GE228.out) | exact HB.out)⟩⟩
  subst c8
  have H1 : ((impl_within.f a2 0 7).bind fun t230 => (impl_May.j0 k a2 (!t230) a0_0 a0_1 l0_2 a1_0 a1_1 a1_2 a1_3 a1_4 a1_5 l1_6 a1_7 a1_8)) = some r := by rw [if_pos rfl] at H; exact H
  clear H
  have H := H1
  clear H1
  replace H := Option.bind_eq_some_iff.mp H
  obtain ⟨t230, A90, H⟩ := H
  replace H : (impl_May.j0 k a2 (!t230) a0_0 a0_1 l0_2 a1_0 a1_1 a1_2 a1_3 a1_4 a1_5 l1_6 a1_7 a1_8) = some r := H
  have A9 := zM A90
  clear A90
  have H' := zM H
  clear H
  have hnb10 := NB227_228.out
  have hnc10 := NB228_227.out
  have hcz11_0 : w6.cell? ⟨gb227, 0, none⟩ = some (.int .i64 a0_0) := (zC BK227.out 0).trans rfl
  have hcz11_1 : w6.cell? ⟨gb227, 1, none⟩ = some (.int .i64 a0_1) := (zC BK227.out 1).trans rfl
  have hcz11_2 : w6.cell? ⟨gb227, 2, none⟩ = some (.slice A0_2 l0_2.length c0_2) := (zC BK227.out 2).trans rfl
  have hfz11_0 := zF BK227.out 0
  have hfz11_1 := zF BK227.out 1
  have hfz11_2 := zF BK227.out 2
  go_wp2_with (first | ((with_reducible refine gate_callee (f := 16) rfl ?_); refine goesL_ (some 9) rfl rfl Tryz.func16 (by kernel_rfl) rfl #[.agg #[.int .i64 a0_0, .int .i64 a0_1, .slice A0_2 l0_2.length c0_2]] rfl (by (try simp only [List.map_toArray, List.map_cons, List.map_nil]); first | done | rfl | (simp only [List.length_drop, List.length_take]; rfl)) ?_; (with_reducible refine (impl_CredOk.calls k a0_0 a0_1 _ _ l0_2 true _ ?side1 ?side2 A7.out).mono ?_); (case side1 => repeat (first | exact (Kd.C_below HR0_2.out HB.out) | (with_reducible refine Kd.C_alloc ?_ _) | (with_reducible refine Kd.C_drewN ?_ _) | (with_reducible refine Kd.C_drew ?_))); (case side2 => exact HC0_2.out); rintro e w12 ⟨rfl, hb⟩; refine ⟨_, rfl, ?_⟩; have n0_ := zM (zL (g := gb227) (o := .cells #[.int .i64 a0_0, .int .i64 a0_1, .slice A0_2 l0_2.length c0_2] 29 (0, 0)) (by (with_reducible repeat (first | refine zK ?_ _ | refine zW ?_ | refine zB ?_ _)); exact BK227.out) hb); have n1_ := zM (zL (g := gb228) (o := .cells #[.int .i64 a1_0, .int .i64 a1_1, .int .i64 a1_2, .int .i64 a1_3, .int .i64 a1_4, .string a1_5, .slice A1_6 l1_6.length c1_6, .int .i64 a1_7, .int .i64 a1_8] 37 (0, 0)) (by (with_reducible repeat (first | refine zK ?_ _ | refine zW ?_ | refine zB ?_ _)); exact BK228.out) hb); have n2_ := zM (zP (by repeat (first | exact HB.out | apply zA | apply zN | apply zD | refine zS ?_ GE227.out | refine zS ?_ GE228.out)) hb); clear BK227; clear BK228; clear HB; have BK227 := n0_; have BK228 := n1_; have HB := n2_; clear n0_ n1_ n2_; (try clear hb); (try clear hb2); (try clear hk); (try clear hi)) | (go_at_call 33; (with_reducible refine (impl_within.calls a2 0 7 t230 _ A9.out).mono ?_); rintro e w' ⟨rfl, ⟨nd, rfl⟩⟩))
  go_meet
  case rel => exact ⟨_, (!t230), (by first | rfl | (simp; done) | (simp [*]; done) | (simp; exact zQ _)), H', ⟨by first | omega | exact Nat.le_refl _⟩, ⟨by (with_reducible repeat (first | refine zK ?_ _ | refine zW ?_ | refine zB ?_ _)); exact BK227.out⟩, ⟨by (with_reducible repeat (first | refine zK ?_ _ | refine zW ?_ | refine zB ?_ _)); exact BK228.out⟩, ⟨by repeat (first | (with_reducible first | exact HB.out | apply zA | apply zN | apply zD | refine zS ?_ GE227.out | refine zS ?_ GE228.out) | exact HB.out)⟩⟩
 case rest =>
  clear HC4
  try clear c1
  try clear p2
  try clear c4
  try clear c8
  try clear c10
  try clear c13
  try clear hcz11_0
  try clear hcz11_1
  try clear hcz11_2
  try clear hcz14_0
  try clear hcz14_1
  try clear hcz14_2
  try clear hfz11_0
  try clear hfz11_1
  try clear hfz11_2
  try clear hfz14_0
  try clear hfz14_1
  try clear hfz14_2
  obtain ⟨kq, x15_3, rfl, HA, HJ3, BK227, BK228, HB⟩ := hcut
  cases kq with
  | zero => exact absurd HA.out (by simp [impl_May.j0])
  | succ kj3 =>
   have H := HA.out
   clear HA
   simp only [impl_May.j0] at H
   by_cases c16 : x15_3 = true
   ·subst c16
    have H1 : (some false) = some r := by rw [if_pos rfl] at H; exact H
    clear H
    have H := H1
    clear H1
    obtain rfl := zI H
    go_wp2
    go_ret
    exact ⟨by first | rfl | (simp [errW_none, errW_some] <;> rfl) | (simp [*, errW_none, errW_some] <;> rfl), by repeat (first | (with_reducible first | exact HB.out | apply zA | apply zN | apply zD | refine zS ?_ GE227.out | refine zS ?_ GE228.out) | exact HB.out)⟩
   replace c16 := Bool.eq_false_iff.mpr c16
   subst c16
   have H1 : (if a0_0 = 0 then (if a1_1 = 1 then (if (Go.bits .and .i64 a1_2 73) = 0 then (some ((Go.bits .and .i64 a2 1) == 0)) else (some true)) else (some true)) else (if a0_0 = a1_3 then (some ((Go.bits .and .i64 (Go.bits .and .i64 (a1_2 / 64) 7) a2) == a2)) else ((impl_In.f kj3 a0_0 a0_1 l0_2 a1_4).bind fun t231 => (if t231 = true then (some ((Go.bits .and .i64 (Go.bits .and .i64 (a1_2 / 8) 7) a2) == a2)) else (some ((Go.bits .and .i64 (Go.bits .and .i64 a1_2 7) a2) == a2)))))) = some r := by rw [if_neg (show ¬ (false = true) by decide)] at H; exact H
   clear H
   have H := H1
   clear H1
   by_cases c17 : a0_0 = 0
   ·rw [if_pos c17] at H
    have c17b0 : (a0_0 == 0) = true := beq_iff_eq.mpr c17
    have c17b1 : (a0_0 != 0) = false := bne_eq_false_iff_eq.mpr c17
    clear c17
    by_cases c18 : a1_1 = 1
    rotate_left
    ·rw [if_neg c18] at H
     have c18b0 : (a1_1 == 1) = false := beq_eq_false_iff_ne.mpr c18
     have c18b1 : (a1_1 != 1) = true := bne_iff_ne.mpr c18
     obtain rfl := zI H
     have hnb26 := NB227_228.out
     have hnc26 := NB228_227.out
     have hcz27_0 : wc.cell? ⟨gb227, 0, none⟩ = some (.int .i64 a0_0) := (zC BK227.out 0).trans rfl
     have hcz27_1 : wc.cell? ⟨gb227, 1, none⟩ = some (.int .i64 a0_1) := (zC BK227.out 1).trans rfl
     have hcz27_2 : wc.cell? ⟨gb227, 2, none⟩ = some (.slice A0_2 l0_2.length c0_2) := (zC BK227.out 2).trans rfl
     have hfz27_0 := zF BK227.out 0
     have hfz27_1 := zF BK227.out 1
     have hfz27_2 := zF BK227.out 2
     have hcz28_0 : wc.cell? ⟨gb228, 0, none⟩ = some (.int .i64 a1_0) := (zC BK228.out 0).trans rfl
     have hcz28_1 : wc.cell? ⟨gb228, 1, none⟩ = some (.int .i64 a1_1) := (zC BK228.out 1).trans rfl
     have hcz28_2 : wc.cell? ⟨gb228, 2, none⟩ = some (.int .i64 a1_2) := (zC BK228.out 2).trans rfl
     have hcz28_3 : wc.cell? ⟨gb228, 3, none⟩ = some (.int .i64 a1_3) := (zC BK228.out 3).trans rfl
     have hcz28_4 : wc.cell? ⟨gb228, 4, none⟩ = some (.int .i64 a1_4) := (zC BK228.out 4).trans rfl
     have hcz28_5 : wc.cell? ⟨gb228, 5, none⟩ = some (.string a1_5) := (zC BK228.out 5).trans rfl
     have hcz28_6 : wc.cell? ⟨gb228, 6, none⟩ = some (.slice A1_6 l1_6.length c1_6) := (zC BK228.out 6).trans rfl
     have hcz28_7 : wc.cell? ⟨gb228, 7, none⟩ = some (.int .i64 a1_7) := (zC BK228.out 7).trans rfl
     have hcz28_8 : wc.cell? ⟨gb228, 8, none⟩ = some (.int .i64 a1_8) := (zC BK228.out 8).trans rfl
     have hfz28_0 := zF BK228.out 0
     have hfz28_1 := zF BK228.out 1
     have hfz28_2 := zF BK228.out 2
     have hfz28_3 := zF BK228.out 3
     have hfz28_4 := zF BK228.out 4
     have hfz28_5 := zF BK228.out 5
     have hfz28_6 := zF BK228.out 6
     have hfz28_7 := zF BK228.out 7
     have hfz28_8 := zF BK228.out 8
     go_wp2
     go_ret
     exact ⟨by first | rfl | (simp [errW_none, errW_some] <;> rfl) | (simp [*, errW_none, errW_some] <;> rfl), by repeat (first | (with_reducible first | exact HB.out | apply zA | apply zN | apply zD | refine zS ?_ GE227.out | refine zS ?_ GE228.out) | exact HB.out)⟩
    rw [if_pos c18] at H
    have c18b0 : (a1_1 == 1) = true := beq_iff_eq.mpr c18
    have c18b1 : (a1_1 != 1) = false := bne_eq_false_iff_eq.mpr c18
    clear c18
    by_cases c19 : (Go.bits .and .i64 a1_2 73) = 0
    rotate_left
    ·rw [if_neg c19] at H
     have c19b0 : ((Go.bits .and .i64 a1_2 73) == 0) = false := beq_eq_false_iff_ne.mpr c19
     have c19b1 : ((Go.bits .and .i64 a1_2 73) != 0) = true := bne_iff_ne.mpr c19
     obtain rfl := zI H
     have hnb23 := NB227_228.out
     have hnc23 := NB228_227.out
     have hcz24_0 : wc.cell? ⟨gb227, 0, none⟩ = some (.int .i64 a0_0) := (zC BK227.out 0).trans rfl
     have hcz24_1 : wc.cell? ⟨gb227, 1, none⟩ = some (.int .i64 a0_1) := (zC BK227.out 1).trans rfl
     have hcz24_2 : wc.cell? ⟨gb227, 2, none⟩ = some (.slice A0_2 l0_2.length c0_2) := (zC BK227.out 2).trans rfl
     have hfz24_0 := zF BK227.out 0
     have hfz24_1 := zF BK227.out 1
     have hfz24_2 := zF BK227.out 2
     have hcz25_0 : wc.cell? ⟨gb228, 0, none⟩ = some (.int .i64 a1_0) := (zC BK228.out 0).trans rfl
     have hcz25_1 : wc.cell? ⟨gb228, 1, none⟩ = some (.int .i64 a1_1) := (zC BK228.out 1).trans rfl
     have hcz25_2 : wc.cell? ⟨gb228, 2, none⟩ = some (.int .i64 a1_2) := (zC BK228.out 2).trans rfl
     have hcz25_3 : wc.cell? ⟨gb228, 3, none⟩ = some (.int .i64 a1_3) := (zC BK228.out 3).trans rfl
     have hcz25_4 : wc.cell? ⟨gb228, 4, none⟩ = some (.int .i64 a1_4) := (zC BK228.out 4).trans rfl
     have hcz25_5 : wc.cell? ⟨gb228, 5, none⟩ = some (.string a1_5) := (zC BK228.out 5).trans rfl
     have hcz25_6 : wc.cell? ⟨gb228, 6, none⟩ = some (.slice A1_6 l1_6.length c1_6) := (zC BK228.out 6).trans rfl
     have hcz25_7 : wc.cell? ⟨gb228, 7, none⟩ = some (.int .i64 a1_7) := (zC BK228.out 7).trans rfl
     have hcz25_8 : wc.cell? ⟨gb228, 8, none⟩ = some (.int .i64 a1_8) := (zC BK228.out 8).trans rfl
     have hfz25_0 := zF BK228.out 0
     have hfz25_1 := zF BK228.out 1
     have hfz25_2 := zF BK228.out 2
     have hfz25_3 := zF BK228.out 3
     have hfz25_4 := zF BK228.out 4
     have hfz25_5 := zF BK228.out 5
     have hfz25_6 := zF BK228.out 6
     have hfz25_7 := zF BK228.out 7
     have hfz25_8 := zF BK228.out 8
     go_wp2
     go_ret
     exact ⟨by first | rfl | (simp [errW_none, errW_some] <;> rfl) | (simp [*, errW_none, errW_some] <;> rfl), by repeat (first | (with_reducible first | exact HB.out | apply zA | apply zN | apply zD | refine zS ?_ GE227.out | refine zS ?_ GE228.out) | exact HB.out)⟩
    rw [if_pos c19] at H
    have c19b0 : ((Go.bits .and .i64 a1_2 73) == 0) = true := beq_iff_eq.mpr c19
    have c19b1 : ((Go.bits .and .i64 a1_2 73) != 0) = false := bne_eq_false_iff_eq.mpr c19
    clear c19
    obtain rfl := zI H
    have hnb20 := NB227_228.out
    have hnc20 := NB228_227.out
    have hcz21_0 : wc.cell? ⟨gb227, 0, none⟩ = some (.int .i64 a0_0) := (zC BK227.out 0).trans rfl
    have hcz21_1 : wc.cell? ⟨gb227, 1, none⟩ = some (.int .i64 a0_1) := (zC BK227.out 1).trans rfl
    have hcz21_2 : wc.cell? ⟨gb227, 2, none⟩ = some (.slice A0_2 l0_2.length c0_2) := (zC BK227.out 2).trans rfl
    have hfz21_0 := zF BK227.out 0
    have hfz21_1 := zF BK227.out 1
    have hfz21_2 := zF BK227.out 2
    have hcz22_0 : wc.cell? ⟨gb228, 0, none⟩ = some (.int .i64 a1_0) := (zC BK228.out 0).trans rfl
    have hcz22_1 : wc.cell? ⟨gb228, 1, none⟩ = some (.int .i64 a1_1) := (zC BK228.out 1).trans rfl
    have hcz22_2 : wc.cell? ⟨gb228, 2, none⟩ = some (.int .i64 a1_2) := (zC BK228.out 2).trans rfl
    have hcz22_3 : wc.cell? ⟨gb228, 3, none⟩ = some (.int .i64 a1_3) := (zC BK228.out 3).trans rfl
    have hcz22_4 : wc.cell? ⟨gb228, 4, none⟩ = some (.int .i64 a1_4) := (zC BK228.out 4).trans rfl
    have hcz22_5 : wc.cell? ⟨gb228, 5, none⟩ = some (.string a1_5) := (zC BK228.out 5).trans rfl
    have hcz22_6 : wc.cell? ⟨gb228, 6, none⟩ = some (.slice A1_6 l1_6.length c1_6) := (zC BK228.out 6).trans rfl
    have hcz22_7 : wc.cell? ⟨gb228, 7, none⟩ = some (.int .i64 a1_7) := (zC BK228.out 7).trans rfl
    have hcz22_8 : wc.cell? ⟨gb228, 8, none⟩ = some (.int .i64 a1_8) := (zC BK228.out 8).trans rfl
    have hfz22_0 := zF BK228.out 0
    have hfz22_1 := zF BK228.out 1
    have hfz22_2 := zF BK228.out 2
    have hfz22_3 := zF BK228.out 3
    have hfz22_4 := zF BK228.out 4
    have hfz22_5 := zF BK228.out 5
    have hfz22_6 := zF BK228.out 6
    have hfz22_7 := zF BK228.out 7
    have hfz22_8 := zF BK228.out 8
    go_wp2
    go_ret
    exact ⟨by first | rfl | (simp [errW_none, errW_some] <;> rfl) | (simp [*, errW_none, errW_some] <;> rfl), by repeat (first | (with_reducible first | exact HB.out | apply zA | apply zN | apply zD | refine zS ?_ GE227.out | refine zS ?_ GE228.out) | exact HB.out)⟩
   rw [if_neg c17] at H
   have c17b0 : (a0_0 == 0) = false := beq_eq_false_iff_ne.mpr c17
   have c17b1 : (a0_0 != 0) = true := bne_iff_ne.mpr c17
   by_cases c29 : a0_0 = a1_3
   ·rw [if_pos c29] at H
    have c29b0 : (a0_0 == a1_3) = true := beq_iff_eq.mpr c29
    have c29b1 : (a0_0 != a1_3) = false := bne_eq_false_iff_eq.mpr c29
    clear c29
    obtain rfl := zI H
    have hnb30 := NB227_228.out
    have hnc30 := NB228_227.out
    have hcz31_0 : wc.cell? ⟨gb227, 0, none⟩ = some (.int .i64 a0_0) := (zC BK227.out 0).trans rfl
    have hcz31_1 : wc.cell? ⟨gb227, 1, none⟩ = some (.int .i64 a0_1) := (zC BK227.out 1).trans rfl
    have hcz31_2 : wc.cell? ⟨gb227, 2, none⟩ = some (.slice A0_2 l0_2.length c0_2) := (zC BK227.out 2).trans rfl
    have hfz31_0 := zF BK227.out 0
    have hfz31_1 := zF BK227.out 1
    have hfz31_2 := zF BK227.out 2
    have hcz32_0 : wc.cell? ⟨gb228, 0, none⟩ = some (.int .i64 a1_0) := (zC BK228.out 0).trans rfl
    have hcz32_1 : wc.cell? ⟨gb228, 1, none⟩ = some (.int .i64 a1_1) := (zC BK228.out 1).trans rfl
    have hcz32_2 : wc.cell? ⟨gb228, 2, none⟩ = some (.int .i64 a1_2) := (zC BK228.out 2).trans rfl
    have hcz32_3 : wc.cell? ⟨gb228, 3, none⟩ = some (.int .i64 a1_3) := (zC BK228.out 3).trans rfl
    have hcz32_4 : wc.cell? ⟨gb228, 4, none⟩ = some (.int .i64 a1_4) := (zC BK228.out 4).trans rfl
    have hcz32_5 : wc.cell? ⟨gb228, 5, none⟩ = some (.string a1_5) := (zC BK228.out 5).trans rfl
    have hcz32_6 : wc.cell? ⟨gb228, 6, none⟩ = some (.slice A1_6 l1_6.length c1_6) := (zC BK228.out 6).trans rfl
    have hcz32_7 : wc.cell? ⟨gb228, 7, none⟩ = some (.int .i64 a1_7) := (zC BK228.out 7).trans rfl
    have hcz32_8 : wc.cell? ⟨gb228, 8, none⟩ = some (.int .i64 a1_8) := (zC BK228.out 8).trans rfl
    have hfz32_0 := zF BK228.out 0
    have hfz32_1 := zF BK228.out 1
    have hfz32_2 := zF BK228.out 2
    have hfz32_3 := zF BK228.out 3
    have hfz32_4 := zF BK228.out 4
    have hfz32_5 := zF BK228.out 5
    have hfz32_6 := zF BK228.out 6
    have hfz32_7 := zF BK228.out 7
    have hfz32_8 := zF BK228.out 8
    go_wp2
    go_ret
    exact ⟨by first | rfl | (simp [errW_none, errW_some] <;> rfl) | (simp [*, errW_none, errW_some] <;> rfl), by repeat (first | (with_reducible first | exact HB.out | apply zA | apply zN | apply zD | refine zS ?_ GE227.out | refine zS ?_ GE228.out) | exact HB.out)⟩
   rw [if_neg c29] at H
   have c29b0 : (a0_0 == a1_3) = false := beq_eq_false_iff_ne.mpr c29
   have c29b1 : (a0_0 != a1_3) = true := bne_iff_ne.mpr c29
   replace H := Option.bind_eq_some_iff.mp H
   obtain ⟨t231, A330, H⟩ := H
   replace H : (if t231 = true then (some ((Go.bits .and .i64 (Go.bits .and .i64 (a1_2 / 8) 7) a2) == a2)) else (some ((Go.bits .and .i64 (Go.bits .and .i64 a1_2 7) a2) == a2))) = some r := H
   have A33 := zM A330
   clear A330
   by_cases c34 : t231 = true
   rotate_left
   ·replace c34 := Bool.eq_false_iff.mpr c34
    subst c34
    have H1 : (some ((Go.bits .and .i64 (Go.bits .and .i64 a1_2 7) a2) == a2)) = some r := by rw [if_neg (show ¬ (false = true) by decide)] at H; exact H
    clear H
    have H := H1
    clear H1
    obtain rfl := zI H
    have hnb40 := NB227_228.out
    have hnc40 := NB228_227.out
    have hcz41_0 : wc.cell? ⟨gb227, 0, none⟩ = some (.int .i64 a0_0) := (zC BK227.out 0).trans rfl
    have hcz41_1 : wc.cell? ⟨gb227, 1, none⟩ = some (.int .i64 a0_1) := (zC BK227.out 1).trans rfl
    have hcz41_2 : wc.cell? ⟨gb227, 2, none⟩ = some (.slice A0_2 l0_2.length c0_2) := (zC BK227.out 2).trans rfl
    have hfz41_0 := zF BK227.out 0
    have hfz41_1 := zF BK227.out 1
    have hfz41_2 := zF BK227.out 2
    have hcz42_0 : wc.cell? ⟨gb228, 0, none⟩ = some (.int .i64 a1_0) := (zC BK228.out 0).trans rfl
    have hcz42_1 : wc.cell? ⟨gb228, 1, none⟩ = some (.int .i64 a1_1) := (zC BK228.out 1).trans rfl
    have hcz42_2 : wc.cell? ⟨gb228, 2, none⟩ = some (.int .i64 a1_2) := (zC BK228.out 2).trans rfl
    have hcz42_3 : wc.cell? ⟨gb228, 3, none⟩ = some (.int .i64 a1_3) := (zC BK228.out 3).trans rfl
    have hcz42_4 : wc.cell? ⟨gb228, 4, none⟩ = some (.int .i64 a1_4) := (zC BK228.out 4).trans rfl
    have hcz42_5 : wc.cell? ⟨gb228, 5, none⟩ = some (.string a1_5) := (zC BK228.out 5).trans rfl
    have hcz42_6 : wc.cell? ⟨gb228, 6, none⟩ = some (.slice A1_6 l1_6.length c1_6) := (zC BK228.out 6).trans rfl
    have hcz42_7 : wc.cell? ⟨gb228, 7, none⟩ = some (.int .i64 a1_7) := (zC BK228.out 7).trans rfl
    have hcz42_8 : wc.cell? ⟨gb228, 8, none⟩ = some (.int .i64 a1_8) := (zC BK228.out 8).trans rfl
    have hfz42_0 := zF BK228.out 0
    have hfz42_1 := zF BK228.out 1
    have hfz42_2 := zF BK228.out 2
    have hfz42_3 := zF BK228.out 3
    have hfz42_4 := zF BK228.out 4
    have hfz42_5 := zF BK228.out 5
    have hfz42_6 := zF BK228.out 6
    have hfz42_7 := zF BK228.out 7
    have hfz42_8 := zF BK228.out 8
    go_wp2_with (first | ((with_reducible refine gate_callee (f := 74) rfl ?_); refine goesL_ (some 48) rfl rfl Tryz.func74 (by kernel_rfl) rfl #[.agg #[.int .i64 a0_0, .int .i64 a0_1, .slice A0_2 l0_2.length c0_2], .int .i64 a1_4] rfl (by (try simp only [List.map_toArray, List.map_cons, List.map_nil]); first | done | rfl | (simp only [List.length_drop, List.length_take]; rfl)) ?_; (with_reducible refine (impl_In.calls kj3 a0_0 a0_1 _ _ l0_2 a1_4 false _ ?side1 ?side2 A33.out).mono ?_); (case side1 => repeat (first | exact (Kd.C_below HR0_2.out HB.out) | (with_reducible refine Kd.C_alloc ?_ _) | (with_reducible refine Kd.C_drewN ?_ _) | (with_reducible refine Kd.C_drew ?_))); (case side2 => exact HC0_2.out); rintro e w43 ⟨rfl, hb⟩; refine ⟨_, rfl, ?_⟩; have n0_ := zM (zL (g := gb227) (o := .cells #[.int .i64 a0_0, .int .i64 a0_1, .slice A0_2 l0_2.length c0_2] 29 (0, 0)) (by (with_reducible repeat (first | refine zK ?_ _ | refine zW ?_ | refine zB ?_ _)); exact BK227.out) hb); have n1_ := zM (zL (g := gb228) (o := .cells #[.int .i64 a1_0, .int .i64 a1_1, .int .i64 a1_2, .int .i64 a1_3, .int .i64 a1_4, .string a1_5, .slice A1_6 l1_6.length c1_6, .int .i64 a1_7, .int .i64 a1_8] 37 (0, 0)) (by (with_reducible repeat (first | refine zK ?_ _ | refine zW ?_ | refine zB ?_ _)); exact BK228.out) hb); have n2_ := zM (zP (by repeat (first | exact HB.out | apply zA | apply zN | apply zD | refine zS ?_ GE227.out | refine zS ?_ GE228.out)) hb); clear BK227; clear BK228; clear HB; have BK227 := n0_; have BK228 := n1_; have HB := n2_; clear n0_ n1_ n2_; (try clear hb); (try clear hb2); (try clear hk); (try clear hi)))
    go_ret
    exact ⟨by first | rfl | (simp [errW_none, errW_some] <;> rfl) | (simp [*, errW_none, errW_some] <;> rfl), by repeat (first | (with_reducible first | exact HB.out | apply zA | apply zN | apply zD | refine zS ?_ GE227.out | refine zS ?_ GE228.out) | exact HB.out)⟩
   subst c34
   have H1 : (some ((Go.bits .and .i64 (Go.bits .and .i64 (a1_2 / 8) 7) a2) == a2)) = some r := by rw [if_pos rfl] at H; exact H
   clear H
   have H := H1
   clear H1
   obtain rfl := zI H
   have hnb35 := NB227_228.out
   have hnc35 := NB228_227.out
   have hcz36_0 : wc.cell? ⟨gb227, 0, none⟩ = some (.int .i64 a0_0) := (zC BK227.out 0).trans rfl
   have hcz36_1 : wc.cell? ⟨gb227, 1, none⟩ = some (.int .i64 a0_1) := (zC BK227.out 1).trans rfl
   have hcz36_2 : wc.cell? ⟨gb227, 2, none⟩ = some (.slice A0_2 l0_2.length c0_2) := (zC BK227.out 2).trans rfl
   have hfz36_0 := zF BK227.out 0
   have hfz36_1 := zF BK227.out 1
   have hfz36_2 := zF BK227.out 2
   have hcz37_0 : wc.cell? ⟨gb228, 0, none⟩ = some (.int .i64 a1_0) := (zC BK228.out 0).trans rfl
   have hcz37_1 : wc.cell? ⟨gb228, 1, none⟩ = some (.int .i64 a1_1) := (zC BK228.out 1).trans rfl
   have hcz37_2 : wc.cell? ⟨gb228, 2, none⟩ = some (.int .i64 a1_2) := (zC BK228.out 2).trans rfl
   have hcz37_3 : wc.cell? ⟨gb228, 3, none⟩ = some (.int .i64 a1_3) := (zC BK228.out 3).trans rfl
   have hcz37_4 : wc.cell? ⟨gb228, 4, none⟩ = some (.int .i64 a1_4) := (zC BK228.out 4).trans rfl
   have hcz37_5 : wc.cell? ⟨gb228, 5, none⟩ = some (.string a1_5) := (zC BK228.out 5).trans rfl
   have hcz37_6 : wc.cell? ⟨gb228, 6, none⟩ = some (.slice A1_6 l1_6.length c1_6) := (zC BK228.out 6).trans rfl
   have hcz37_7 : wc.cell? ⟨gb228, 7, none⟩ = some (.int .i64 a1_7) := (zC BK228.out 7).trans rfl
   have hcz37_8 : wc.cell? ⟨gb228, 8, none⟩ = some (.int .i64 a1_8) := (zC BK228.out 8).trans rfl
   have hfz37_0 := zF BK228.out 0
   have hfz37_1 := zF BK228.out 1
   have hfz37_2 := zF BK228.out 2
   have hfz37_3 := zF BK228.out 3
   have hfz37_4 := zF BK228.out 4
   have hfz37_5 := zF BK228.out 5
   have hfz37_6 := zF BK228.out 6
   have hfz37_7 := zF BK228.out 7
   have hfz37_8 := zF BK228.out 8
   go_wp2_with (first | ((with_reducible refine gate_callee (f := 74) rfl ?_); refine goesL_ (some 48) rfl rfl Tryz.func74 (by kernel_rfl) rfl #[.agg #[.int .i64 a0_0, .int .i64 a0_1, .slice A0_2 l0_2.length c0_2], .int .i64 a1_4] rfl (by (try simp only [List.map_toArray, List.map_cons, List.map_nil]); first | done | rfl | (simp only [List.length_drop, List.length_take]; rfl)) ?_; (with_reducible refine (impl_In.calls kj3 a0_0 a0_1 _ _ l0_2 a1_4 true _ ?side1 ?side2 A33.out).mono ?_); (case side1 => repeat (first | exact (Kd.C_below HR0_2.out HB.out) | (with_reducible refine Kd.C_alloc ?_ _) | (with_reducible refine Kd.C_drewN ?_ _) | (with_reducible refine Kd.C_drew ?_))); (case side2 => exact HC0_2.out); rintro e w38 ⟨rfl, hb⟩; refine ⟨_, rfl, ?_⟩; have n0_ := zM (zL (g := gb227) (o := .cells #[.int .i64 a0_0, .int .i64 a0_1, .slice A0_2 l0_2.length c0_2] 29 (0, 0)) (by (with_reducible repeat (first | refine zK ?_ _ | refine zW ?_ | refine zB ?_ _)); exact BK227.out) hb); have n1_ := zM (zL (g := gb228) (o := .cells #[.int .i64 a1_0, .int .i64 a1_1, .int .i64 a1_2, .int .i64 a1_3, .int .i64 a1_4, .string a1_5, .slice A1_6 l1_6.length c1_6, .int .i64 a1_7, .int .i64 a1_8] 37 (0, 0)) (by (with_reducible repeat (first | refine zK ?_ _ | refine zW ?_ | refine zB ?_ _)); exact BK228.out) hb); have n2_ := zM (zP (by repeat (first | exact HB.out | apply zA | apply zN | apply zD | refine zS ?_ GE227.out | refine zS ?_ GE228.out)) hb); clear BK227; clear BK228; clear HB; have BK227 := n0_; have BK228 := n1_; have HB := n2_; clear n0_ n1_ n2_; (try clear hb); (try clear hb2); (try clear hk); (try clear hi); have hcz39_0 : w38.cell? ⟨gb228, 0, none⟩ = some (.int .i64 a1_0) := (zC BK228.out 0).trans rfl; have hcz39_1 : w38.cell? ⟨gb228, 1, none⟩ = some (.int .i64 a1_1) := (zC BK228.out 1).trans rfl; have hcz39_2 : w38.cell? ⟨gb228, 2, none⟩ = some (.int .i64 a1_2) := (zC BK228.out 2).trans rfl; have hcz39_3 : w38.cell? ⟨gb228, 3, none⟩ = some (.int .i64 a1_3) := (zC BK228.out 3).trans rfl; have hcz39_4 : w38.cell? ⟨gb228, 4, none⟩ = some (.int .i64 a1_4) := (zC BK228.out 4).trans rfl; have hcz39_5 : w38.cell? ⟨gb228, 5, none⟩ = some (.string a1_5) := (zC BK228.out 5).trans rfl; have hcz39_6 : w38.cell? ⟨gb228, 6, none⟩ = some (.slice A1_6 l1_6.length c1_6) := (zC BK228.out 6).trans rfl; have hcz39_7 : w38.cell? ⟨gb228, 7, none⟩ = some (.int .i64 a1_7) := (zC BK228.out 7).trans rfl; have hcz39_8 : w38.cell? ⟨gb228, 8, none⟩ = some (.int .i64 a1_8) := (zC BK228.out 8).trans rfl; have hfz39_0 := zF BK228.out 0; have hfz39_1 := zF BK228.out 1; have hfz39_2 := zF BK228.out 2; have hfz39_3 := zF BK228.out 3; have hfz39_4 := zF BK228.out 4; have hfz39_5 := zF BK228.out 5; have hfz39_6 := zF BK228.out 6; have hfz39_7 := zF BK228.out 7; have hfz39_8 := zF BK228.out 8))
   go_ret
   exact ⟨by first | rfl | (simp [errW_none, errW_some] <;> rfl) | (simp [*, errW_none, errW_some] <;> rfl), by repeat (first | (with_reducible first | exact HB.out | apply zA | apply zN | apply zD | refine zS ?_ GE227.out | refine zS ?_ GE228.out) | exact HB.out)⟩
section
open Go.Proofs.YtiopcpkfjikfdaaGreatDoor.Mth Go.Proofs.YtiopcpkfjikfdaaGreatDoor.Str
def slash : ByteArray := ⟨#[47]⟩
def splitL (s : ByteArray) : List ByteArray := Lib.splitB slash 0 (Lib.countB s slash) s
theorem splitL_len (s : ByteArray) : (splitL s).length = Lib.countB s slash + 1 := Lib.splitB_all slash (by decide) 0 _ s rfl
theorem splitL_le (s : ByteArray) : (splitL s).length ≤ s.size + 1 := by
 rw [splitL_len]
 have := Lib.countB_le slash (by decide) s.size s (Nat.le_refl _)
 omega
theorem split_any (s : ByteArray) (m : Int) (w : World) (hs : s.size ≤ 1048576) (hm : w.cell? ⟨0, 0, none⟩ = some (.int .i64 m)) :
  Calls Tryz.prog 59 #[.string s, .string ⟨#[47]⟩] w fun e w' => ∃ g, e = .returned (.slice (some ⟨g, 0, none⟩) (splitL s).length (splitL s).length) ∧ w'.heap[g]? = some (.cells ((splitL s).map Value.string).toArray 9 (0, 0)) ∧ g = w.heap.size ∧ Below w.heap.size w w' := by
 refine (Tryz.strings_Split s ⟨#[47]⟩ m w (by omega) hm (by decide)).mono ?_
 rintro e w' ⟨rfl, rfl⟩
 exact ⟨w.heap.size, by rw [splitL_len]; rfl, heap_alloc_new w _, rfl, zA (Below.refl _ _) _⟩
def neB (p : ByteArray) : Bool := decide (p.size ≠ 0)
def piecesB (s : ByteArray) : List ByteArray := (splitL s).filter neB
theorem toList_ne (p : ByteArray) (h : p.size ≠ 0) : ¬ p.toList = [] := by
 intro e
 rw [ByteArray.toList_eq] at e
 have h1 := congrArg List.length e
 exact h (by simpa using h1)
theorem pieces_any (s : ByteArray) (m : Int) (w : World) (hs : s.size ≤ 1048576) (hm : w.cell? ⟨0, 0, none⟩ = some (.int .i64 m)) :
  Calls Tryz.prog 23 #[.string s] w fun e w' => ∃ v, e = .returned v ∧ Kd.R Kd.string 9 w' w.heap.size (fun _ => True) v (piecesB s) ∧ Below w.heap.size w w' := by
 have HM := zM hm
 have hn := splitL_le s
 obtain ⟨n, hnn⟩ : ∃ q, q = (splitL s).length := ⟨_, rfl⟩
 have hn1 : n ≤ 1048577 := by omega
 have HN := zM hnn
 have HS := zM hs
 clear hm hn hnn hs
 go_enter Tryz.func23, Tryz.ntmps23
 go_wp2_with (first | ((with_reducible refine gate_dst (N := 6) rfl ?_); refine Kd.R_lit Kd.string _ 9 ?hg (N := 6) ?hd (xs := ([] : List ByteArray)) (inner := []) (ok := fun _ => True) (okp := fun _ => True) ?hr ?hp (fun _ hk => hk) trivial (Below.refl _ _) (Nat.le_refl _) (by simp) ?_; (case hd => rfl); (case hg => rfl); (case hr => first | (go_simp; done) | (go_simp; rfl)); (case hp => exact (Reps.none _ _)); intro v4 w4 ho4 hb hg_ hnew_; clear hg_ hnew_; have HO := zM ho4; have HB := zM hb; clear ho4 hb) | (go_at_call 59; refine (split_any s m _ HS.out (pw_cell_below HB.out HM.out)).mono ?_; rintro e w5 ⟨g, rfl, hbk, hg, hb⟩; have HBK := zM hbk; have n0_ := Kd.R_below (Kd.R_mono (Kd.R_bound HO.out) (fun k hk => (show k ≠ g by have := hk.2.2.1; omega))) hb; have n1_ := zH HB.out HB.out.size hb; clear HO HB hbk hg hb; have HO := zM n0_; have HB := zM n1_; clear n0_ n1_; rw [← HN.out]))
 go_loopg [3, 10] n (fun kq v3 v10 w' => ∃ (x : Nat), v10 = .int .i64 (x : Int) ∧ Aside0 (x + kq = n) ∧ Aside0 (Kd.R Kd.string 9 w' w.heap.size (fun k => k ≠ g) v3 (((splitL s).take x).filter neB)) ∧ Aside0 (w'.heap[g]? = some (.cells ((splitL s).map Value.string).toArray 9 (0, 0))) ∧ Aside0 (Below w.heap.size w w'))
 case atStart => exact ⟨0, rfl, ⟨by omega⟩, ⟨by rw [List.take_zero, List.filter_nil]; exact HO.out⟩, HBK, HB⟩
 case round =>
  clear HO HB HBK HM
  obtain ⟨x, rfl, HX, HO, HBK, HB⟩ := hrel
  by_cases hlt : x < n
  rotate_left
  ·have HE := zM (show Kd.R Kd.string 9 wr w.heap.size (fun _ => True) u3 (piecesB s) from by
    have h1 := HO.out
    rw [List.take_of_length_le (by have := HX.out; have := HN.out; omega)] at h1
    exact Kd.R_mono h1 (fun _ _ => trivial))
   have hlt' : ¬ (x : Int) < (n : Int) := by omega
   clear hlt
   go_wp2
   go_ret
   exact ⟨_, rfl, HE.out, HB.out⟩
  cases gk with
  | zero => have := HX.out; omega
  | succ k1 =>
  have hlx : x < (splitL s).length := by have := HN.out; omega
  have hx0 : wr.cell? ⟨g, x, none⟩ = some (.string (splitL s)[x]) := (zC HBK.out x).trans (by rw [List.getElem?_toArray, List.getElem?_map, List.getElem?_eq_getElem hlx]; rfl)
  have HF := zM (show ((splitL s).take (x + 1)).filter neB = ((splitL s).take x).filter neB ++ (if neB (splitL s)[x] = true then [(splitL s)[x]] else []) from by
   rw [List.take_succ_eq_append_getElem hlx, List.filter_append, List.filter_cons, List.filter_nil])
  have HL := zM (show (((splitL s).take x).filter neB).length ≤ 1048577 from Nat.le_trans (List.length_filter_le _ _) (by rw [List.length_take]; omega))
  generalize (splitL s)[x] = p at hx0 HF
  clear hlx
  by_cases hp : p.size = 0
  ·have e : p = ⟨#[]⟩ := (show p = ByteArray.empty by simpa using hp).trans rfl
   subst e
   clear hp
   go_wp2
   go_roundg k1
   case measure => omega
   case rel => exact ⟨x + 1, by go_num, ⟨by have := HX.out; omega⟩, ⟨by rw [HF.out, if_neg (by decide), List.append_nil]; exact HO.out⟩, HBK, HB⟩
  have e1 : ¬ p.toList = [] := toList_ne p hp
  have e2 : p.toList.isEmpty = false := by simpa using e1
  have HP := zM (show neB p = true from zE hp)
  clear hp
  go_wp2_with (first | ((with_reducible refine gate_builtin (b := .append) (xs := #[.tmp 16, .tmp 18]) rfl ?_); at_builtin; refine Kd.R_append Kd.string (w0 := w) w.heap.size rfl (.tmp 16) (.tmp 18) 50 9 (.string ⟨#[]⟩) 16 rfl Tryz.underlying50 info9 rfl (by decide) (by omega) u3 (((splitL s).take x).filter neB) p [.string p] (fun k => k ≠ g) (fun _ => False) rfl rfl ?aP (fun _ hk => hk.elim) ?aF ?aO ?aB ?aS ?aL ?_; (case aP => exact rfl); (case aF => exact (fun k hk => by have := blk_lt HBK.out; omega)); (case aO => exact HO.out); (case aB => exact HB.out); (case aS => exact HB.out.size); (case aL => have := HL.out; omega); intro v1 w1 ho hb hg hat; have n0_ := blk_grown HBK.out hg (fun e => HO.out.1 _ e.symm rfl); clear HBK HB HO; have HO := zM ho; have HB := zM hb; have HBK := zM n0_; clear ho hb hg hat n0_))
  go_roundg k1
  case measure => omega
  case rel => exact ⟨x + 1, by go_num, ⟨by have := HX.out; omega⟩, ⟨by rw [HF.out, if_pos HP.out]; exact HO.out⟩, HBK, HB⟩
end
section
open Go.Proofs.YtiopcpkfjikfdaaGreatDoor.Mth Go.Proofs.YtiopcpkfjikfdaaGreatDoor.Str
def cutL : List UInt8 → List UInt8 → List (List UInt8)
 | cur, [] => if cur = [] then [] else [cur]
 | cur, b :: t => if b = 47 then (if cur = [] then cutL [] t else cur :: cutL [] t) else cutL (cur ++ [b]) t
theorem cutL_none : ∀ (a cur : List UInt8), (∀ k : Nat, a[k]? ≠ some (47 : UInt8)) → cutL cur a = if cur ++ a = [] then [] else [cur ++ a]
 | [], cur, _ => by rw [cutL, List.append_nil]
 | b :: t, cur, h => by
  have hb : b ≠ 47 := fun e => h 0 (by rw [e]; rfl)
  rw [cutL, if_neg hb, cutL_none t _ (fun k => h (k + 1)), List.append_assoc]
  rfl
theorem cutL_some : ∀ (a cur b : List UInt8), (∀ k : Nat, a[k]? ≠ some (47 : UInt8)) → cutL cur (a ++ 47 :: b) = (if cur ++ a = [] then [] else [cur ++ a]) ++ cutL [] b
 | [], cur, b, _ => by
  rw [List.nil_append, cutL, if_pos rfl, List.append_nil]
  split <;> rfl
 | c :: t, cur, b, h => by
  have hb : c ≠ 47 := fun e => h 0 (by rw [e]; rfl)
  rw [List.cons_append, cutL, if_neg hb, cutL_some t _ b (fun k => h (k + 1)), List.append_assoc]
  rfl
theorem splitK_cut : ∀ (n : Nat) (s : List UInt8), s.length ≤ n → (Lib.splitK [47] 0 (Lib.count s [47]) s).filter (fun l => decide (l ≠ [])) = cutL [] s := by
 intro n
 induction n with
 | zero =>
  intro s h
  obtain rfl : s = [] := List.length_eq_zero_iff.1 (by omega)
  rfl
 | succ n ih =>
  intro s h
  have e1 := Lib.index_one s 47
  have hge := Lib.indexByte_ge s 47
  by_cases hm : Lib.indexByte s 47 = -1
  ·have hi : Lib.index s [47] = -1 := e1.trans hm
   rw [Lib.count_miss hi, cutL_none s [] (Lib.indexByte_none hm), List.nil_append]
   unfold Lib.splitK
   rw [List.filter_cons, List.filter_nil]
   by_cases hs : s = []
   ·rw [if_pos hs, if_neg (by simp [hs])]
   rw [if_neg hs, if_pos (by simp [hs])]
  obtain ⟨o, ho⟩ : ∃ o : Nat, Lib.indexByte s 47 = o := ⟨(Lib.indexByte s 47).toNat, by omega⟩
  have hi : Lib.index s [47] = o := e1.trans ho
  obtain ⟨h1, h2⟩ := Lib.indexByte_some ho
  have hlt : o < s.length := (List.getElem?_eq_some_iff.1 h1).1
  have hs : s = s.take o ++ 47 :: s.drop (o + 1) := by
   have h3 := List.drop_eq_getElem_cons hlt
   rw [(List.getElem?_eq_some_iff.1 h1).2] at h3
   rw [← h3, List.take_append_drop]
  have hc : Lib.count s [47] = Lib.count (s.drop (o + 1)) [47] + 1 := by
   have := Lib.count_hit (s := s) (sub := [47]) (i := o) (by decide) hi
   rw [this, Nat.add_comm]; rfl
  have hr := ih (s.drop (o + 1)) (by rw [List.length_drop]; omega)
  have hcut : cutL [] s = (if s.take o = [] then [] else [s.take o]) ++ cutL [] (s.drop (o + 1)) := by
   conv => lhs; rw [hs]
   rw [cutL_some (s.take o) [] _ (fun k => by
    rw [List.getElem?_take]
    split
    ·exact h2 k (by omega)
    ·simp), List.nil_append]
  rw [hcut, hc, Lib.splitK]
  rw [if_neg (by rw [hi]; simp), hi]
  rw [List.filter_cons]
  have ht : ((o : Int).toNat + 0) = o := by omega
  have ht2 : ((o : Int).toNat + ([47] : List UInt8).length) = o + 1 := by simp
  rw [ht, ht2, hr]
  by_cases hz : s.take o = []
  ·rw [if_neg (by simp [hz]), if_pos hz]; rfl
  rw [if_pos (by simp [hz]), if_neg hz]; rfl
def mkB (l : List UInt8) : ByteArray := ⟨l.toArray⟩
theorem mkB_data (p : ByteArray) : mkB p.data.toList = p := by
 unfold mkB
 rw [Array.toArray_toList]
theorem pieces_cut (s : ByteArray) : piecesB s = (cutL [] s.data.toList).map mkB := by
 have h1 := splitK_cut s.data.toList.length s.data.toList (Nat.le_refl _)
 have h2 := Lib.splitB_data slash 0 (Lib.countB s slash) s
 have h3 : (piecesB s).map (·.data.toList) = cutL [] s.data.toList := by
  rw [← h1]
  unfold piecesB splitL
  rw [show Lib.splitK [47] 0 (Lib.count s.data.toList [47]) s.data.toList = (Lib.splitB slash 0 (Lib.countB s slash) s).map (·.data.toList) from h2.symm, List.filter_map]
  congr 1
  apply List.filter_congr
  intro p _
  have hz : p.size = p.data.toList.length := by rw [Array.length_toList]; rfl
  show decide (p.size ≠ 0) = decide (p.data.toList ≠ [])
  rw [decide_eq_decide, hz]
  exact ⟨fun h e => h (by rw [e]; rfl), fun h e => h (List.length_eq_zero_iff.1 e)⟩
 rw [← h3, List.map_map]
 have : (mkB ∘ fun x : ByteArray => x.data.toList) = id := funext mkB_data
 rw [this, List.map_id]
end
section
open Go.Proofs.YtiopcpkfjikfdaaGreatDoor.Mth Go.Proofs.YtiopcpkfjikfdaaGreatDoor.Str
def lookD : List S59 → ByteArray → Int
 | [], _ => 0
 | d :: ds, p => if d.f0 = p then d.f1 else lookD ds p
theorem lookD_yes (p : ByteArray) : ∀ (ds : List S59) (y : Nat) (h : y < ds.length), ds[y].f0 = p → (∀ j (hj : j < ds.length), j < y → ds[j].f0 ≠ p) → lookD ds p = ds[y].f1
 | [], y, h, _, _ => absurd h (by simp)
 | d :: ds, 0, h, e, _ => by rw [lookD, if_pos (show d.f0 = p from e)]; rfl
 | d :: ds, y + 1, h, e, h0 => by
  rw [lookD, if_neg (show d.f0 ≠ p from h0 0 (by simp) (by omega))]
  exact lookD_yes p ds y (by simpa using h) (by simpa using e) (fun j hj hjy => h0 (j + 1) (by simpa using hj) (by omega))
theorem lookD_no (p : ByteArray) : ∀ (ds : List S59), (∀ j (hj : j < ds.length), ds[j].f0 ≠ p) → lookD ds p = 0
 | [], _ => rfl
 | d :: ds, h0 => by
  rw [lookD, if_neg (show d.f0 ≠ p from h0 0 (by simp))]
  exact lookD_no p ds (fun j hj => h0 (j + 1) (by simpa using hj))
theorem find_any (w : World) (p : Addr) (A6 : Option Addr) (c6 : Nat) (ds : List S59) (nm : ByteArray) (h6 : w.cell? ⟨p.block, p.off + 6, none⟩ = some (.slice A6 ds.length c6)) (hr : Kd.C k59 w A6 ds.length ds) :
  Calls Tryz.prog 47 #[.pointer (some p), .string nm] w fun e w' => e = .returned (.int .i64 (lookD ds nm)) ∧ Below w.heap.size w w' := by
 have hu45 := Tryz.underlying37
 have hu68 := Tryz.underlying59
 have hm := hr.2.1
 have HR := zM hr
 have HB := zM (Below.refl w.heap.size w)
 clear hr
 go_enter Tryz.func47, Tryz.ntmps47
 go_wp2
 clear h6
 go_loopg [12] ds.length (fun kq v12 w' => ∃ (y : Nat), v12 = .int .i64 (y : Int) ∧ Aside0 (y + kq = ds.length ∧ ∀ j (hj : j < ds.length), j < y → ds[j].f0 ≠ nm) ∧ Aside0 (Below w.heap.size w w'))
 case atStart => exact ⟨0, rfl, ⟨by omega, fun j _ hj => absurd hj (by omega)⟩, HB⟩
 case round =>
  clear HB
  obtain ⟨y, rfl, HY, HB⟩ := hrel
  have hl : y ≤ ds.length := by have := HY.out.1; omega
  by_cases hyt : y < ds.length
  rotate_left
  ·have HN := zM (lookD_no nm ds (fun j hj => HY.out.2 j hj (by omega)))
   have hyt' : ¬ (y : Int) < (ds.length : Int) := by omega
   clear hl
   go_wp2
   go_ret
   exact ⟨by rw [HN.out]; rfl, HB.out⟩
  cases gk with
  | zero => have := HY.out.1; omega
  | succ k2 =>
  obtain ⟨ad6, eA, hy0, hy1⟩ := dir_at HR.out HB.out y hyt
  subst eA
  clear hl
  by_cases hid : ds[y].f0 = nm
  ·have hb : (ds[y].f0.toList == nm.toList) = true := by rw [hid]; exact beq_self_eq_true _
   have HN := zM (lookD_yes nm ds y hyt hid HY.out.2)
   clear hid
   go_wp2
   go_ret
   exact ⟨by rw [HN.out]; rfl, by repeat (first | exact HB.out | apply zA | apply zN | apply zD)⟩
  have hb : (ds[y].f0.toList == nm.toList) = false := by rw [beq_eq_false_iff_ne]; exact fun e => hid (Str.toList_eq_iff.1 e)
  have HN := zM hid
  clear hid
  go_wp2
  go_roundg k2
  case measure => omega
  case rel => exact ⟨y + 1, by go_num, ⟨by have := HY.out.1; omega, fun j hj hjy => by
   by_cases e : j = y
   ·subst e; exact HN.out
   exact HY.out.2 j hj (by omega)⟩, ⟨by repeat (first | exact HB.out | apply zA | apply zN | apply zD)⟩⟩
end
end Go.Proofs.YtiopcpkfjikfdaaGreatDoor.PFnClean
