/- This text began as one that print.sh printed for this statement and that did not build (or was not whole); it was turned by hand: in one branch the walk knows a flag's value while the printed relation names the flag: it is substituted first. -/
import Derived.Test.YtgpcgfmmmnmfhaaPFnMeterx0
import Derived.Test.YtgpcgfmmmnmfhaaPFnMeterx1
namespace Go.Proofs.Ytgpcgfmmmnmfhaa.PFnMeter
open Go.RowKit Go.Proofs.YtgpcgfmmmnmfhaaW.PrintWords Go.Proofs.YtgpcgfmmmnmfhaaW.PrintLast Go.Proofs.YtgpcgfmmmnmfhaaW.PrintMore
attribute [local go_sem] max2_int min2_int max_two min_two max_three min_three max_four min_four   -- for this text's walks alone
set_option linter.unusedVariables false
set_option linter.unusedSimpArgs false

/-! ### laws_FnMeter: function 14 -/
mutual
def laws_FnMeter.l0 : Nat → List Int → Int → Int → Int → Int → Option (Bool)
  | 0, _, _, _, _, _ => none
  | k + 1, x0, x3, x4, x5, x6 => if x6 < 60 then ((laws_at.f x0 x6).bind fun t110 => (if (Int.tmod t110 3) = 0 then ((impl_Refill.f x3).bind fun t111 => (laws_FnMeter.l0 k x0 t111 x4 (wrap64 (x5 + 1)) (wrap64 (x6 + 1)))) else ((laws_at.f x0 x6).bind fun t112 => ((impl_Spend.f x3 (wrap64 ((Int.tmod t112 25) - 1))).bind fun bt113 => ((spec_Cost.f (wrap64 ((Int.tmod t112 25) - 1))).bind fun t115 => (if t115 > 0 then ((spec_Cost.f (wrap64 ((Int.tmod t112 25) - 1))).bind fun t116 => (if (bt113.2 != (decide (t116 ≤ x3))) = true then (laws_FnMeter.j1 k x0 x4 x5 x6 (wrap64 ((Int.tmod t112 25) - 1)) bt113.1 bt113.2 true) else (if bt113.2 = true then ((impl_Cost.f (wrap64 ((Int.tmod t112 25) - 1))).bind fun t117 => (laws_FnMeter.j1 k x0 x4 x5 x6 (wrap64 ((Int.tmod t112 25) - 1)) bt113.1 bt113.2 (bt113.1 != (wrap64 (x3 - t117))))) else (if bt113.1 = x3 then (laws_FnMeter.j1 k x0 x4 x5 x6 (wrap64 ((Int.tmod t112 25) - 1)) bt113.1 bt113.2 false) else (laws_FnMeter.j1 k x0 x4 x5 x6 (wrap64 ((Int.tmod t112 25) - 1)) bt113.1 bt113.2 true))))) else (if (bt113.2 != false) = true then (laws_FnMeter.j1 k x0 x4 x5 x6 (wrap64 ((Int.tmod t112 25) - 1)) bt113.1 bt113.2 true) else (if bt113.2 = true then ((impl_Cost.f (wrap64 ((Int.tmod t112 25) - 1))).bind fun t118 => (laws_FnMeter.j1 k x0 x4 x5 x6 (wrap64 ((Int.tmod t112 25) - 1)) bt113.1 bt113.2 (bt113.1 != (wrap64 (x3 - t118))))) else (if bt113.1 = x3 then (laws_FnMeter.j1 k x0 x4 x5 x6 (wrap64 ((Int.tmod t112 25) - 1)) bt113.1 bt113.2 false) else (laws_FnMeter.j1 k x0 x4 x5 x6 (wrap64 ((Int.tmod t112 25) - 1)) bt113.1 bt113.2 true)))))))))) else ((impl_Cost.f 1).bind fun t108 => (if t108 = 3 then ((impl_Tells.f 4).bind fun t109 => (some t109)) else (some false)))
def laws_FnMeter.j1 : Nat → List Int → Int → Int → Int → Int → Int → Bool → Bool → Option (Bool)
  | 0, _, _, _, _, _, _, _, _ => none
  | k + 1, x0, x4, x5, x6, x7, x8, x9, x66 => if x66 = true then (some false) else (if x9 = true then ((spec_Cost.f x7).bind fun t119 => (if x8 < 0 then (some false) else (if x8 > 30 then (some false) else (if (wrap64 (x4 + t119)) > (wrap64 (30 + (wrap64 (4 * x5)))) then (some false) else (laws_FnMeter.l0 k x0 x8 (wrap64 (x4 + t119)) x5 (wrap64 (x6 + 1))))))) else (if x8 < 0 then (some false) else (if x8 > 30 then (some false) else (if x4 > (wrap64 (30 + (wrap64 (4 * x5)))) then (some false) else (laws_FnMeter.l0 k x0 x8 x4 x5 (wrap64 (x6 + 1)))))))
end
def laws_FnMeter.f (k : Nat) (l0 : List Int) : Option (Bool) := (laws_big.f l0).bind fun t107 => (if t107 = true then (some true) else (laws_FnMeter.l0 k l0 30 0 0 0))
theorem laws_FnMeter.mono_l : ∀ k, (∀ y0 y1 y2 y3 y4, LeO (laws_FnMeter.l0 k y0 y1 y2 y3 y4) (laws_FnMeter.l0 (k + 1) y0 y1 y2 y3 y4)) ∧ (∀ y0 y1 y2 y3 y4 y5 y6 y7, LeO (laws_FnMeter.j1 k y0 y1 y2 y3 y4 y5 y6 y7) (laws_FnMeter.j1 (k + 1) y0 y1 y2 y3 y4 y5 y6 y7))
  | 0 => ⟨fun _ _ _ _ _ r h => by simp [laws_FnMeter.l0] at h, fun _ _ _ _ _ _ _ _ r h => by simp [laws_FnMeter.j1] at h⟩
  | k + 1 => by
    obtain ⟨ih0, ih1⟩ := laws_FnMeter.mono_l k
    refine ⟨?_, ?_⟩
    · intro y0 y1 y2 y3 y4
      unfold laws_FnMeter.l0
      repeat' first
      | (with_reducible exact ih0 _ _ _ _ _)
      | (with_reducible exact ih1 _ _ _ _ _ _ _ _)
      | (with_reducible exact LeO.refl _)
      | (with_reducible exact LeO.none _)
      | (with_reducible refine LeO.ite ?_ ?_)
      | (with_reducible refine LeO.bind ?_ (fun _ => ?_))
      | exact ih0 _ _ _ _ _
      | exact ih1 _ _ _ _ _ _ _ _
      | exact LeO.none _
      | refine LeO.ite ?_ ?_
      | refine LeO.bind ?_ (fun _ => ?_)
    · intro y0 y1 y2 y3 y4 y5 y6 y7
      unfold laws_FnMeter.j1
      repeat' first
      | (with_reducible exact ih0 _ _ _ _ _)
      | (with_reducible exact ih1 _ _ _ _ _ _ _ _)
      | (with_reducible exact LeO.refl _)
      | (with_reducible exact LeO.none _)
      | (with_reducible refine LeO.ite ?_ ?_)
      | (with_reducible refine LeO.bind ?_ (fun _ => ?_))
      | exact ih0 _ _ _ _ _
      | exact ih1 _ _ _ _ _ _ _ _
      | exact LeO.none _
      | refine LeO.ite ?_ ?_
      | refine LeO.bind ?_ (fun _ => ?_)
theorem laws_FnMeter.mono : ∀ a0 k, LeO (laws_FnMeter.f k a0) (laws_FnMeter.f (k + 1) a0) := by
  intro a0 k
  obtain ⟨ih0, ih1⟩ := laws_FnMeter.mono_l k
  unfold laws_FnMeter.f
  repeat' first
      | (with_reducible exact ih0 _ _ _ _ _)
      | (with_reducible exact ih1 _ _ _ _ _ _ _ _)
      | (with_reducible exact LeO.refl _)
      | (with_reducible exact LeO.none _)
      | (with_reducible refine LeO.ite ?_ ?_)
      | (with_reducible refine LeO.bind ?_ (fun _ => ?_))
      | exact ih0 _ _ _ _ _
      | exact ih1 _ _ _ _ _ _ _ _
      | exact LeO.none _
      | refine LeO.ite ?_ ?_
      | refine LeO.bind ?_ (fun _ => ?_)
set_option maxHeartbeats 8000000 in
set_option maxRecDepth 100000 in
theorem laws_FnMeter.calls (k : Nat) (A0 : Option Addr) (c0 : Nat) (l0 : List Int) (r : Bool) (w : World) (hr0 : Kd.C (Kd.int .u8) w A0 l0.length l0) (hc0 : l0.length ≤ c0) (h : laws_FnMeter.f k l0 = some r) :
    Calls Try.prog 14 #[.slice A0 l0.length c0] w fun e w' => e = .returned (.bool r) ∧ Drawn0 w w' := by
  have HR0 := Aside0.mk hr0
  have HC0 := Aside0.mk hc0
  clear hr0 hc0
  have H : ((laws_big.f l0).bind fun t107 => (if t107 = true then (some true) else (laws_FnMeter.l0 k l0 30 0 0 0))) = some r := h
  clear h
  replace H := Option.bind_eq_some_iff.mp H
  obtain ⟨t107, A20, H⟩ := H
  replace H : (if t107 = true then (some true) else (laws_FnMeter.l0 k l0 30 0 0 0)) = some r := H
  have A2 := Aside0.mk A20
  clear A20
  by_cases c3 : t107 = true
  · subst c3
    have H1 : (some true) = some r := by rw [if_pos rfl] at H; exact H
    clear H
    have H := H1
    clear H1
    obtain rfl := Option.some.inj H
    go_enter Try.func14, Try.ntmps14
    go_wp2_with (first | ((with_reducible refine gate_callee (f := 43) rfl ?_); refine goesL_ (some 11) rfl rfl Try.func43 (by kernel_rfl) rfl #[.slice A0 l0.length c0] rfl (by (try simp only [List.map_toArray, List.map_cons, List.map_nil]); first | done | rfl | (simp only [List.length_drop, List.length_take]; rfl)) ?_; (with_reducible refine (laws_big.calls _ _ l0 true _ ?side1 ?side2 A2.out).mono ?_); (case side1 => repeat (first | exact HR0.out | (with_reducible refine Kd.C_alloc ?_ _) | (with_reducible refine Kd.C_drewN ?_ _) | (with_reducible refine Kd.C_drew ?_))); (case side2 => exact HC0.out); rintro e w' ⟨rfl, ⟨nd, rfl⟩⟩; refine ⟨_, rfl, ?_⟩))
    go_ret
    exact ⟨by first | rfl | (simp; done) | (simp [*]; done), by repeat (first | exact Drawn0.refl _ | apply Drawn0.step)⟩
  · replace c3 := Bool.eq_false_iff.mpr c3
    subst c3
    have H1 : (laws_FnMeter.l0 k l0 30 0 0 0) = some r := by rw [if_neg (show ¬ (false = true) by decide)] at H; exact H
    clear H
    have H := H1
    clear H1
    have H' := Aside0.mk H
    clear H
    go_enter Try.func14, Try.ntmps14
    go_wp2_with (first | ((with_reducible refine gate_callee (f := 43) rfl ?_); refine goesL_ (some 11) rfl rfl Try.func43 (by kernel_rfl) rfl #[.slice A0 l0.length c0] rfl (by (try simp only [List.map_toArray, List.map_cons, List.map_nil]); first | done | rfl | (simp only [List.length_drop, List.length_take]; rfl)) ?_; (with_reducible refine (laws_big.calls _ _ l0 false _ ?side1 ?side2 A2.out).mono ?_); (case side1 => repeat (first | exact HR0.out | (with_reducible refine Kd.C_alloc ?_ _) | (with_reducible refine Kd.C_drewN ?_ _) | (with_reducible refine Kd.C_drew ?_))); (case side2 => exact HC0.out); rintro e w' ⟨rfl, ⟨nd, rfl⟩⟩; refine ⟨_, rfl, ?_⟩))
    go_loopg [3, 4, 5, 6] k (fun kq v3 v4 v5 v6 w' => ∃ (x3_1 : Int) (x4_1 : Int) (x5_1 : Int) (x6_1 : Int), v3 = .int .i64 x3_1 ∧ v4 = .int .i64 x4_1 ∧ v5 = .int .i64 x5_1 ∧ v6 = .int .i64 x6_1 ∧ Aside0 (laws_FnMeter.l0 kq l0 x3_1 x4_1 x5_1 x6_1 = some r) ∧ Aside0 (kq ≤ k) ∧ Drawn0 w w')
    case atStart => exact ⟨(30), (0), (0), (0), (by first | rfl | (simp; done) | (simp [*]; done)), (by first | rfl | (simp; done) | (simp [*]; done)), (by first | rfl | (simp; done) | (simp [*]; done)), (by first | rfl | (simp; done) | (simp [*]; done)), H', ⟨Nat.le_refl _⟩, by repeat (first | exact Drawn0.refl _ | apply Drawn0.step)⟩
    case round =>
      clear H'
      try clear c1
      try clear p2
      try clear c3
      obtain ⟨x3_1, x4_1, x5_1, x6_1, rfl, rfl, rfl, rfl, HA, HK1, ⟨m1, rfl⟩⟩ := hrel
      cases gk with
      | zero => exact absurd HA.out (by simp [laws_FnMeter.l0])
      | succ k1 =>
        have H := HA.out
        clear HA
        simp only [laws_FnMeter.l0] at H
        by_cases c4 : x6_1 < 60
        · rw [if_pos c4] at H
          have c4b0 : decide (x6_1 < 60) = true := decide_eq_true c4
          clear c4
          replace H := Option.bind_eq_some_iff.mp H
          obtain ⟨t110, A50, H⟩ := H
          replace H : (if (Int.tmod t110 3) = 0 then ((impl_Refill.f x3_1).bind fun t111 => (laws_FnMeter.l0 k1 l0 t111 x4_1 (wrap64 (x5_1 + 1)) (wrap64 (x6_1 + 1)))) else ((laws_at.f l0 x6_1).bind fun t112 => ((impl_Spend.f x3_1 (wrap64 ((Int.tmod t112 25) - 1))).bind fun bt113 => ((spec_Cost.f (wrap64 ((Int.tmod t112 25) - 1))).bind fun t115 => (if t115 > 0 then ((spec_Cost.f (wrap64 ((Int.tmod t112 25) - 1))).bind fun t116 => (if (bt113.2 != (decide (t116 ≤ x3_1))) = true then (laws_FnMeter.j1 k1 l0 x4_1 x5_1 x6_1 (wrap64 ((Int.tmod t112 25) - 1)) bt113.1 bt113.2 true) else (if bt113.2 = true then ((impl_Cost.f (wrap64 ((Int.tmod t112 25) - 1))).bind fun t117 => (laws_FnMeter.j1 k1 l0 x4_1 x5_1 x6_1 (wrap64 ((Int.tmod t112 25) - 1)) bt113.1 bt113.2 (bt113.1 != (wrap64 (x3_1 - t117))))) else (if bt113.1 = x3_1 then (laws_FnMeter.j1 k1 l0 x4_1 x5_1 x6_1 (wrap64 ((Int.tmod t112 25) - 1)) bt113.1 bt113.2 false) else (laws_FnMeter.j1 k1 l0 x4_1 x5_1 x6_1 (wrap64 ((Int.tmod t112 25) - 1)) bt113.1 bt113.2 true))))) else (if (bt113.2 != false) = true then (laws_FnMeter.j1 k1 l0 x4_1 x5_1 x6_1 (wrap64 ((Int.tmod t112 25) - 1)) bt113.1 bt113.2 true) else (if bt113.2 = true then ((impl_Cost.f (wrap64 ((Int.tmod t112 25) - 1))).bind fun t118 => (laws_FnMeter.j1 k1 l0 x4_1 x5_1 x6_1 (wrap64 ((Int.tmod t112 25) - 1)) bt113.1 bt113.2 (bt113.1 != (wrap64 (x3_1 - t118))))) else (if bt113.1 = x3_1 then (laws_FnMeter.j1 k1 l0 x4_1 x5_1 x6_1 (wrap64 ((Int.tmod t112 25) - 1)) bt113.1 bt113.2 false) else (laws_FnMeter.j1 k1 l0 x4_1 x5_1 x6_1 (wrap64 ((Int.tmod t112 25) - 1)) bt113.1 bt113.2 true))))))))) = some r := H
          have A5 := Aside0.mk A50
          clear A50
          by_cases c6 : (Int.tmod t110 3) = 0
          · rw [if_pos c6] at H
            have c6b0 : ((Int.tmod t110 3) == 0) = true := beq_iff_eq.mpr c6
            have c6b1 : ((Int.tmod t110 3) != 0) = false := bne_eq_false_iff_eq.mpr c6
            clear c6
            replace H := Option.bind_eq_some_iff.mp H
            obtain ⟨t111, A70, H⟩ := H
            replace H : (laws_FnMeter.l0 k1 l0 t111 x4_1 (wrap64 (x5_1 + 1)) (wrap64 (x6_1 + 1))) = some r := H
            have A7 := Aside0.mk A70
            clear A70
            have H' := Aside0.mk H
            clear H
            go_wp2_with (first | ((with_reducible refine gate_callee (f := 53) rfl ?_); refine goesL_ (some 18) rfl rfl Try.func53 (by kernel_rfl) rfl #[.slice A0 l0.length c0, .int .i64 x6_1] rfl (by (try simp only [List.map_toArray, List.map_cons, List.map_nil]); first | done | rfl | (simp only [List.length_drop, List.length_take]; rfl)) ?_; (with_reducible refine (laws_at.calls _ _ l0 x6_1 t110 _ ?side1 ?side2 A5.out).mono ?_); (case side1 => repeat (first | exact HR0.out | (with_reducible refine Kd.C_alloc ?_ _) | (with_reducible refine Kd.C_drewN ?_ _) | (with_reducible refine Kd.C_drew ?_))); (case side2 => exact HC0.out); rintro e w' ⟨rfl, ⟨nd, rfl⟩⟩; refine ⟨_, rfl, ?_⟩) | ((with_reducible refine gate_callee (f := 54) rfl ?_); refine goesL_ (some 22) rfl rfl Try.func54 (by kernel_rfl) rfl #[.int .i64 x3_1] rfl (by (try simp only [List.map_toArray, List.map_cons, List.map_nil]); first | done | rfl | (simp only [List.length_drop, List.length_take]; rfl)) ?_; (with_reducible refine (impl_Refill.calls x3_1 t111 _ A7.out).mono ?_); rintro e w' ⟨rfl, ⟨nd, rfl⟩⟩; refine ⟨_, rfl, ?_⟩))
            go_roundg k1
            case measure => have := HK1.out; omega
            case rel => exact ⟨(t111), (x4_1), (wrap64 (x5_1 + 1)), (wrap64 (x6_1 + 1)), (by first | rfl | (simp; done) | (simp [*]; done)), (by first | rfl | (simp; done) | (simp [*]; done)), (by first | rfl | (simp; done) | (simp [*]; done)), (by first | rfl | (simp; done) | (simp [*]; done)), H', ⟨by have := HK1.out; omega⟩, by repeat (first | exact Drawn0.refl _ | apply Drawn0.step)⟩
          · rw [if_neg c6] at H
            have c6b0 : ((Int.tmod t110 3) == 0) = false := beq_eq_false_iff_ne.mpr c6
            have c6b1 : ((Int.tmod t110 3) != 0) = true := bne_iff_ne.mpr c6
            replace H := Option.bind_eq_some_iff.mp H
            obtain ⟨t112, A80, H⟩ := H
            replace H : ((impl_Spend.f x3_1 (wrap64 ((Int.tmod t112 25) - 1))).bind fun bt113 => ((spec_Cost.f (wrap64 ((Int.tmod t112 25) - 1))).bind fun t115 => (if t115 > 0 then ((spec_Cost.f (wrap64 ((Int.tmod t112 25) - 1))).bind fun t116 => (if (bt113.2 != (decide (t116 ≤ x3_1))) = true then (laws_FnMeter.j1 k1 l0 x4_1 x5_1 x6_1 (wrap64 ((Int.tmod t112 25) - 1)) bt113.1 bt113.2 true) else (if bt113.2 = true then ((impl_Cost.f (wrap64 ((Int.tmod t112 25) - 1))).bind fun t117 => (laws_FnMeter.j1 k1 l0 x4_1 x5_1 x6_1 (wrap64 ((Int.tmod t112 25) - 1)) bt113.1 bt113.2 (bt113.1 != (wrap64 (x3_1 - t117))))) else (if bt113.1 = x3_1 then (laws_FnMeter.j1 k1 l0 x4_1 x5_1 x6_1 (wrap64 ((Int.tmod t112 25) - 1)) bt113.1 bt113.2 false) else (laws_FnMeter.j1 k1 l0 x4_1 x5_1 x6_1 (wrap64 ((Int.tmod t112 25) - 1)) bt113.1 bt113.2 true))))) else (if (bt113.2 != false) = true then (laws_FnMeter.j1 k1 l0 x4_1 x5_1 x6_1 (wrap64 ((Int.tmod t112 25) - 1)) bt113.1 bt113.2 true) else (if bt113.2 = true then ((impl_Cost.f (wrap64 ((Int.tmod t112 25) - 1))).bind fun t118 => (laws_FnMeter.j1 k1 l0 x4_1 x5_1 x6_1 (wrap64 ((Int.tmod t112 25) - 1)) bt113.1 bt113.2 (bt113.1 != (wrap64 (x3_1 - t118))))) else (if bt113.1 = x3_1 then (laws_FnMeter.j1 k1 l0 x4_1 x5_1 x6_1 (wrap64 ((Int.tmod t112 25) - 1)) bt113.1 bt113.2 false) else (laws_FnMeter.j1 k1 l0 x4_1 x5_1 x6_1 (wrap64 ((Int.tmod t112 25) - 1)) bt113.1 bt113.2 true))))))) = some r := H
            have A8 := Aside0.mk A80
            clear A80
            replace H := Option.bind_eq_some_iff.mp H
            obtain ⟨⟨t113, t114⟩, A90, H⟩ := H
            replace H : ((spec_Cost.f (wrap64 ((Int.tmod t112 25) - 1))).bind fun t115 => (if t115 > 0 then ((spec_Cost.f (wrap64 ((Int.tmod t112 25) - 1))).bind fun t116 => (if (t114 != (decide (t116 ≤ x3_1))) = true then (laws_FnMeter.j1 k1 l0 x4_1 x5_1 x6_1 (wrap64 ((Int.tmod t112 25) - 1)) t113 t114 true) else (if t114 = true then ((impl_Cost.f (wrap64 ((Int.tmod t112 25) - 1))).bind fun t117 => (laws_FnMeter.j1 k1 l0 x4_1 x5_1 x6_1 (wrap64 ((Int.tmod t112 25) - 1)) t113 t114 (t113 != (wrap64 (x3_1 - t117))))) else (if t113 = x3_1 then (laws_FnMeter.j1 k1 l0 x4_1 x5_1 x6_1 (wrap64 ((Int.tmod t112 25) - 1)) t113 t114 false) else (laws_FnMeter.j1 k1 l0 x4_1 x5_1 x6_1 (wrap64 ((Int.tmod t112 25) - 1)) t113 t114 true))))) else (if (t114 != false) = true then (laws_FnMeter.j1 k1 l0 x4_1 x5_1 x6_1 (wrap64 ((Int.tmod t112 25) - 1)) t113 t114 true) else (if t114 = true then ((impl_Cost.f (wrap64 ((Int.tmod t112 25) - 1))).bind fun t118 => (laws_FnMeter.j1 k1 l0 x4_1 x5_1 x6_1 (wrap64 ((Int.tmod t112 25) - 1)) t113 t114 (t113 != (wrap64 (x3_1 - t118))))) else (if t113 = x3_1 then (laws_FnMeter.j1 k1 l0 x4_1 x5_1 x6_1 (wrap64 ((Int.tmod t112 25) - 1)) t113 t114 false) else (laws_FnMeter.j1 k1 l0 x4_1 x5_1 x6_1 (wrap64 ((Int.tmod t112 25) - 1)) t113 t114 true)))))) = some r := H
            have A9 := Aside0.mk A90
            clear A90
            have HC10 := Aside0.mk H
            clear H
            go_upto_region 14 with (first | ((with_reducible refine gate_callee (f := 53) rfl ?_); refine goesL_ (some 18) rfl rfl Try.func53 (by kernel_rfl) rfl #[.slice A0 l0.length c0, .int .i64 x6_1] rfl (by (try simp only [List.map_toArray, List.map_cons, List.map_nil]); first | done | rfl | (simp only [List.length_drop, List.length_take]; rfl)) ?_; (with_reducible refine (laws_at.calls _ _ l0 x6_1 t110 _ ?side1 ?side2 A5.out).mono ?_); (case side1 => repeat (first | exact HR0.out | (with_reducible refine Kd.C_alloc ?_ _) | (with_reducible refine Kd.C_drewN ?_ _) | (with_reducible refine Kd.C_drew ?_))); (case side2 => exact HC0.out); rintro e w' ⟨rfl, ⟨nd, rfl⟩⟩; refine ⟨_, rfl, ?_⟩) | ((with_reducible refine gate_callee (f := 53) rfl ?_); refine goesL_ (some 27) rfl rfl Try.func53 (by kernel_rfl) rfl #[.slice A0 l0.length c0, .int .i64 x6_1] rfl (by (try simp only [List.map_toArray, List.map_cons, List.map_nil]); first | done | rfl | (simp only [List.length_drop, List.length_take]; rfl)) ?_; (with_reducible refine (laws_at.calls _ _ l0 x6_1 t112 _ ?side1 ?side2 A8.out).mono ?_); (case side1 => repeat (first | exact HR0.out | (with_reducible refine Kd.C_alloc ?_ _) | (with_reducible refine Kd.C_drewN ?_ _) | (with_reducible refine Kd.C_drew ?_))); (case side2 => exact HC0.out); rintro e w' ⟨rfl, ⟨nd, rfl⟩⟩; refine ⟨_, rfl, ?_⟩) | ((with_reducible refine gate_callee (f := 55) rfl ?_); refine goesL_ (some 33) rfl rfl Try.func55 (by kernel_rfl) rfl #[.int .i64 x3_1, .int .i64 (wrap64 ((Int.tmod t112 25) - 1))] rfl (by (try simp only [List.map_toArray, List.map_cons, List.map_nil]); first | done | rfl | (simp only [List.length_drop, List.length_take]; rfl)) ?_; (with_reducible refine (impl_Spend.calls x3_1 (wrap64 ((Int.tmod t112 25) - 1)) t113 t114 _ A9.out).mono ?_); rintro e w' ⟨rfl, ⟨nd, rfl⟩⟩; refine ⟨_, rfl, ?_⟩))
            (try simp only [Act.put, List.setIfInBounds_toArray, List.set_cons_zero, List.set_cons_succ])
            go_cut [66] (fun v66 wc => ∃ (kq : Nat) (x66_9 : Bool), v66 = .bool x66_9 ∧ Aside0 (laws_FnMeter.j1 kq l0 x4_1 x5_1 x6_1 (wrap64 ((Int.tmod t112 25) - 1)) t113 t114 x66_9 = some r) ∧ Aside0 (kq ≤ k1) ∧ Drawn0 w wc)
            case first =>
              have H := HC10.out
              clear HC10
              replace H := Option.bind_eq_some_iff.mp H
              obtain ⟨t115, A110, H⟩ := H
              replace H : (if t115 > 0 then ((spec_Cost.f (wrap64 ((Int.tmod t112 25) - 1))).bind fun t116 => (if (t114 != (decide (t116 ≤ x3_1))) = true then (laws_FnMeter.j1 k1 l0 x4_1 x5_1 x6_1 (wrap64 ((Int.tmod t112 25) - 1)) t113 t114 true) else (if t114 = true then ((impl_Cost.f (wrap64 ((Int.tmod t112 25) - 1))).bind fun t117 => (laws_FnMeter.j1 k1 l0 x4_1 x5_1 x6_1 (wrap64 ((Int.tmod t112 25) - 1)) t113 t114 (t113 != (wrap64 (x3_1 - t117))))) else (if t113 = x3_1 then (laws_FnMeter.j1 k1 l0 x4_1 x5_1 x6_1 (wrap64 ((Int.tmod t112 25) - 1)) t113 t114 false) else (laws_FnMeter.j1 k1 l0 x4_1 x5_1 x6_1 (wrap64 ((Int.tmod t112 25) - 1)) t113 t114 true))))) else (if (t114 != false) = true then (laws_FnMeter.j1 k1 l0 x4_1 x5_1 x6_1 (wrap64 ((Int.tmod t112 25) - 1)) t113 t114 true) else (if t114 = true then ((impl_Cost.f (wrap64 ((Int.tmod t112 25) - 1))).bind fun t118 => (laws_FnMeter.j1 k1 l0 x4_1 x5_1 x6_1 (wrap64 ((Int.tmod t112 25) - 1)) t113 t114 (t113 != (wrap64 (x3_1 - t118))))) else (if t113 = x3_1 then (laws_FnMeter.j1 k1 l0 x4_1 x5_1 x6_1 (wrap64 ((Int.tmod t112 25) - 1)) t113 t114 false) else (laws_FnMeter.j1 k1 l0 x4_1 x5_1 x6_1 (wrap64 ((Int.tmod t112 25) - 1)) t113 t114 true))))) = some r := H
              have A11 := Aside0.mk A110
              clear A110
              by_cases c12 : t115 > 0
              · rw [if_pos c12] at H
                have c12b0 : decide (0 < t115) = true := decide_eq_true c12
                clear c12
                (first | rw [c12b0] | (simp only [i64_w, i32_w]; rw [c12b0]) | skip)
                replace H := Option.bind_eq_some_iff.mp H
                obtain ⟨t116, A130, H⟩ := H
                replace H : (if (t114 != (decide (t116 ≤ x3_1))) = true then (laws_FnMeter.j1 k1 l0 x4_1 x5_1 x6_1 (wrap64 ((Int.tmod t112 25) - 1)) t113 t114 true) else (if t114 = true then ((impl_Cost.f (wrap64 ((Int.tmod t112 25) - 1))).bind fun t117 => (laws_FnMeter.j1 k1 l0 x4_1 x5_1 x6_1 (wrap64 ((Int.tmod t112 25) - 1)) t113 t114 (t113 != (wrap64 (x3_1 - t117))))) else (if t113 = x3_1 then (laws_FnMeter.j1 k1 l0 x4_1 x5_1 x6_1 (wrap64 ((Int.tmod t112 25) - 1)) t113 t114 false) else (laws_FnMeter.j1 k1 l0 x4_1 x5_1 x6_1 (wrap64 ((Int.tmod t112 25) - 1)) t113 t114 true)))) = some r := H
                have A13 := Aside0.mk A130
                clear A130
                by_cases c14 : (t114 != (decide (t116 ≤ x3_1))) = true
                · rw [if_pos c14] at H
                  have c14b0 : (t114 != (decide (t116 ≤ x3_1))) = true := c14
                  (try (have c14b1 : decide (t114 = (decide (t116 ≤ x3_1))) = false := by simpa using c14))
                  (try (have c14b2 : (t114 == (decide (t116 ≤ x3_1))) = false := by simpa using c14))
                  (try (have c14b3 : ¬ (t114 = (decide (t116 ≤ x3_1))) := by simpa using c14))
                  clear c14
                  have H' := Aside0.mk H
                  clear H
                  go_wp2_with (first | ((with_reducible refine gate_callee (f := 56) rfl ?_); refine goesL_ (some 38) rfl rfl Try.func56 (by kernel_rfl) rfl #[.int .i64 (wrap64 ((Int.tmod t112 25) - 1))] rfl (by (try simp only [List.map_toArray, List.map_cons, List.map_nil]); first | done | rfl | (simp only [List.length_drop, List.length_take]; rfl)) ?_; (with_reducible refine (spec_Cost.calls (wrap64 ((Int.tmod t112 25) - 1)) t115 _ A11.out).mono ?_); rintro e w' ⟨rfl, ⟨nd, rfl⟩⟩; refine ⟨_, rfl, ?_⟩) | (go_at_call 56; (with_reducible refine (spec_Cost.calls (wrap64 ((Int.tmod t112 25) - 1)) t116 _ A13.out).mono ?_); rintro e w' ⟨rfl, ⟨nd, rfl⟩⟩))
                  go_meet
                  case rel => exact ⟨_, (true), (by first | rfl | (simp; done) | (simp [*]; done)), H', ⟨by have := HK1.out; first | omega | exact Nat.le_refl _⟩, by repeat (first | exact Drawn0.refl _ | apply Drawn0.step)⟩
                · rw [if_neg c14] at H
                  have c14b0 : (t114 != (decide (t116 ≤ x3_1))) = false := by simpa using c14
                  (try (have c14b1 : decide (t114 = (decide (t116 ≤ x3_1))) = true := by simpa using c14))
                  (try (have c14b2 : (t114 == (decide (t116 ≤ x3_1))) = true := by simpa using c14))
                  clear c14
                  by_cases c15 : t114 = true
                  · subst c15
                    have H1 : ((impl_Cost.f (wrap64 ((Int.tmod t112 25) - 1))).bind fun t117 => (laws_FnMeter.j1 k1 l0 x4_1 x5_1 x6_1 (wrap64 ((Int.tmod t112 25) - 1)) t113 true (t113 != (wrap64 (x3_1 - t117))))) = some r := by rw [if_pos rfl] at H; exact H
                    clear H
                    have H := H1
                    clear H1
                    replace H := Option.bind_eq_some_iff.mp H
                    obtain ⟨t117, A160, H⟩ := H
                    replace H : (laws_FnMeter.j1 k1 l0 x4_1 x5_1 x6_1 (wrap64 ((Int.tmod t112 25) - 1)) t113 true (t113 != (wrap64 (x3_1 - t117)))) = some r := H
                    have A16 := Aside0.mk A160
                    clear A160
                    have H' := Aside0.mk H
                    clear H
                    go_wp2_with (first | ((with_reducible refine gate_callee (f := 56) rfl ?_); refine goesL_ (some 38) rfl rfl Try.func56 (by kernel_rfl) rfl #[.int .i64 (wrap64 ((Int.tmod t112 25) - 1))] rfl (by (try simp only [List.map_toArray, List.map_cons, List.map_nil]); first | done | rfl | (simp only [List.length_drop, List.length_take]; rfl)) ?_; (with_reducible refine (spec_Cost.calls (wrap64 ((Int.tmod t112 25) - 1)) t115 _ A11.out).mono ?_); rintro e w' ⟨rfl, ⟨nd, rfl⟩⟩; refine ⟨_, rfl, ?_⟩) | (go_at_call 56; (with_reducible refine (spec_Cost.calls (wrap64 ((Int.tmod t112 25) - 1)) t116 _ A13.out).mono ?_); rintro e w' ⟨rfl, ⟨nd, rfl⟩⟩) | (go_at_call 57; (with_reducible refine (impl_Cost.calls (wrap64 ((Int.tmod t112 25) - 1)) t117 _ A16.out).mono ?_); rintro e w' ⟨rfl, ⟨nd, rfl⟩⟩))
                    go_meet
                    case rel => exact ⟨_, ((t113 != (wrap64 (x3_1 - t117)))), (by first | rfl | (simp; done) | (simp [*]; done)), H', ⟨by have := HK1.out; first | omega | exact Nat.le_refl _⟩, by repeat (first | exact Drawn0.refl _ | apply Drawn0.step)⟩
                  · replace c15 := Bool.eq_false_iff.mpr c15
                    subst c15
                    have H1 : (if t113 = x3_1 then (laws_FnMeter.j1 k1 l0 x4_1 x5_1 x6_1 (wrap64 ((Int.tmod t112 25) - 1)) t113 false false) else (laws_FnMeter.j1 k1 l0 x4_1 x5_1 x6_1 (wrap64 ((Int.tmod t112 25) - 1)) t113 false true)) = some r := by rw [if_neg (show ¬ (false = true) by decide)] at H; exact H
                    clear H
                    have H := H1
                    clear H1
                    by_cases c17 : t113 = x3_1
                    · rw [if_pos c17] at H
                      have c17b0 : (t113 == x3_1) = true := beq_iff_eq.mpr c17
                      have c17b1 : (t113 != x3_1) = false := bne_eq_false_iff_eq.mpr c17
                      clear c17
                      have H' := Aside0.mk H
                      clear H
                      go_wp2_with (first | ((with_reducible refine gate_callee (f := 56) rfl ?_); refine goesL_ (some 38) rfl rfl Try.func56 (by kernel_rfl) rfl #[.int .i64 (wrap64 ((Int.tmod t112 25) - 1))] rfl (by (try simp only [List.map_toArray, List.map_cons, List.map_nil]); first | done | rfl | (simp only [List.length_drop, List.length_take]; rfl)) ?_; (with_reducible refine (spec_Cost.calls (wrap64 ((Int.tmod t112 25) - 1)) t115 _ A11.out).mono ?_); rintro e w' ⟨rfl, ⟨nd, rfl⟩⟩; refine ⟨_, rfl, ?_⟩) | (go_at_call 56; (with_reducible refine (spec_Cost.calls (wrap64 ((Int.tmod t112 25) - 1)) t116 _ A13.out).mono ?_); rintro e w' ⟨rfl, ⟨nd, rfl⟩⟩))
                      go_meet
                      case rel => exact ⟨_, (false), (by first | rfl | (simp; done) | (simp [*]; done)), H', ⟨by have := HK1.out; first | omega | exact Nat.le_refl _⟩, by repeat (first | exact Drawn0.refl _ | apply Drawn0.step)⟩
                    · rw [if_neg c17] at H
                      have c17b0 : (t113 == x3_1) = false := beq_eq_false_iff_ne.mpr c17
                      have c17b1 : (t113 != x3_1) = true := bne_iff_ne.mpr c17
                      have H' := Aside0.mk H
                      clear H
                      go_wp2_with (first | ((with_reducible refine gate_callee (f := 56) rfl ?_); refine goesL_ (some 38) rfl rfl Try.func56 (by kernel_rfl) rfl #[.int .i64 (wrap64 ((Int.tmod t112 25) - 1))] rfl (by (try simp only [List.map_toArray, List.map_cons, List.map_nil]); first | done | rfl | (simp only [List.length_drop, List.length_take]; rfl)) ?_; (with_reducible refine (spec_Cost.calls (wrap64 ((Int.tmod t112 25) - 1)) t115 _ A11.out).mono ?_); rintro e w' ⟨rfl, ⟨nd, rfl⟩⟩; refine ⟨_, rfl, ?_⟩) | (go_at_call 56; (with_reducible refine (spec_Cost.calls (wrap64 ((Int.tmod t112 25) - 1)) t116 _ A13.out).mono ?_); rintro e w' ⟨rfl, ⟨nd, rfl⟩⟩))
                      go_meet
                      case rel => exact ⟨_, (true), (by first | rfl | (simp; done) | (simp [*]; done)), H', ⟨by have := HK1.out; first | omega | exact Nat.le_refl _⟩, by repeat (first | exact Drawn0.refl _ | apply Drawn0.step)⟩
              · rw [if_neg c12] at H
                have c12b0 : decide (0 < t115) = false := decide_eq_false c12
                clear c12
                (first | rw [c12b0] | (simp only [i64_w, i32_w]; rw [c12b0]) | skip)
                by_cases c18 : (t114 != false) = true
                · rw [if_pos c18] at H
                  obtain rfl : t114 = true := by simpa using c18
                  have c18b0 : (true != false) = true := c18
                  clear c18 c18b0
                  have H' := Aside0.mk H
                  clear H
                  go_wp2_with (first | ((with_reducible refine gate_callee (f := 56) rfl ?_); refine goesL_ (some 38) rfl rfl Try.func56 (by kernel_rfl) rfl #[.int .i64 (wrap64 ((Int.tmod t112 25) - 1))] rfl (by (try simp only [List.map_toArray, List.map_cons, List.map_nil]); first | done | rfl | (simp only [List.length_drop, List.length_take]; rfl)) ?_; (with_reducible refine (spec_Cost.calls (wrap64 ((Int.tmod t112 25) - 1)) t115 _ A11.out).mono ?_); rintro e w' ⟨rfl, ⟨nd, rfl⟩⟩; refine ⟨_, rfl, ?_⟩))
                  go_meet
                  case rel => exact ⟨_, (true), (by first | rfl | (simp; done) | (simp [*]; done)), H', ⟨by have := HK1.out; first | omega | exact Nat.le_refl _⟩, by repeat (first | exact Drawn0.refl _ | apply Drawn0.step)⟩
                · rw [if_neg c18] at H
                  have c18b0 : (t114 != false) = false := by simpa using c18
                  (try (have c18b1 : decide (t114 = false) = true := by simpa using c18))
                  (try (have c18b2 : (t114 == false) = true := by simpa using c18))
                  clear c18
                  by_cases c19 : t114 = true
                  · subst c19
                    have H1 : ((impl_Cost.f (wrap64 ((Int.tmod t112 25) - 1))).bind fun t118 => (laws_FnMeter.j1 k1 l0 x4_1 x5_1 x6_1 (wrap64 ((Int.tmod t112 25) - 1)) t113 true (t113 != (wrap64 (x3_1 - t118))))) = some r := by rw [if_pos rfl] at H; exact H
                    clear H
                    have H := H1
                    clear H1
                    replace H := Option.bind_eq_some_iff.mp H
                    obtain ⟨t118, A200, H⟩ := H
                    replace H : (laws_FnMeter.j1 k1 l0 x4_1 x5_1 x6_1 (wrap64 ((Int.tmod t112 25) - 1)) t113 true (t113 != (wrap64 (x3_1 - t118)))) = some r := H
                    have A20 := Aside0.mk A200
                    clear A200
                    have H' := Aside0.mk H
                    clear H
                    go_wp2_with (first | ((with_reducible refine gate_callee (f := 56) rfl ?_); refine goesL_ (some 38) rfl rfl Try.func56 (by kernel_rfl) rfl #[.int .i64 (wrap64 ((Int.tmod t112 25) - 1))] rfl (by (try simp only [List.map_toArray, List.map_cons, List.map_nil]); first | done | rfl | (simp only [List.length_drop, List.length_take]; rfl)) ?_; (with_reducible refine (spec_Cost.calls (wrap64 ((Int.tmod t112 25) - 1)) t115 _ A11.out).mono ?_); rintro e w' ⟨rfl, ⟨nd, rfl⟩⟩; refine ⟨_, rfl, ?_⟩) | (go_at_call 57; (with_reducible refine (impl_Cost.calls (wrap64 ((Int.tmod t112 25) - 1)) t118 _ A20.out).mono ?_); rintro e w' ⟨rfl, ⟨nd, rfl⟩⟩))
                    go_meet
                    case rel => exact ⟨_, ((t113 != (wrap64 (x3_1 - t118)))), (by first | rfl | (simp; done) | (simp [*]; done)), H', ⟨by have := HK1.out; first | omega | exact Nat.le_refl _⟩, by repeat (first | exact Drawn0.refl _ | apply Drawn0.step)⟩
                  · replace c19 := Bool.eq_false_iff.mpr c19
                    subst c19
                    have H1 : (if t113 = x3_1 then (laws_FnMeter.j1 k1 l0 x4_1 x5_1 x6_1 (wrap64 ((Int.tmod t112 25) - 1)) t113 false false) else (laws_FnMeter.j1 k1 l0 x4_1 x5_1 x6_1 (wrap64 ((Int.tmod t112 25) - 1)) t113 false true)) = some r := by rw [if_neg (show ¬ (false = true) by decide)] at H; exact H
                    clear H
                    have H := H1
                    clear H1
                    by_cases c21 : t113 = x3_1
                    · rw [if_pos c21] at H
                      have c21b0 : (t113 == x3_1) = true := beq_iff_eq.mpr c21
                      have c21b1 : (t113 != x3_1) = false := bne_eq_false_iff_eq.mpr c21
                      clear c21
                      have H' := Aside0.mk H
                      clear H
                      go_wp2_with (first | ((with_reducible refine gate_callee (f := 56) rfl ?_); refine goesL_ (some 38) rfl rfl Try.func56 (by kernel_rfl) rfl #[.int .i64 (wrap64 ((Int.tmod t112 25) - 1))] rfl (by (try simp only [List.map_toArray, List.map_cons, List.map_nil]); first | done | rfl | (simp only [List.length_drop, List.length_take]; rfl)) ?_; (with_reducible refine (spec_Cost.calls (wrap64 ((Int.tmod t112 25) - 1)) t115 _ A11.out).mono ?_); rintro e w' ⟨rfl, ⟨nd, rfl⟩⟩; refine ⟨_, rfl, ?_⟩))
                      go_meet
                      case rel => exact ⟨_, (false), (by first | rfl | (simp; done) | (simp [*]; done)), H', ⟨by have := HK1.out; first | omega | exact Nat.le_refl _⟩, by repeat (first | exact Drawn0.refl _ | apply Drawn0.step)⟩
                    · rw [if_neg c21] at H
                      have c21b0 : (t113 == x3_1) = false := beq_eq_false_iff_ne.mpr c21
                      have c21b1 : (t113 != x3_1) = true := bne_iff_ne.mpr c21
                      have H' := Aside0.mk H
                      clear H
                      go_wp2_with (first | ((with_reducible refine gate_callee (f := 56) rfl ?_); refine goesL_ (some 38) rfl rfl Try.func56 (by kernel_rfl) rfl #[.int .i64 (wrap64 ((Int.tmod t112 25) - 1))] rfl (by (try simp only [List.map_toArray, List.map_cons, List.map_nil]); first | done | rfl | (simp only [List.length_drop, List.length_take]; rfl)) ?_; (with_reducible refine (spec_Cost.calls (wrap64 ((Int.tmod t112 25) - 1)) t115 _ A11.out).mono ?_); rintro e w' ⟨rfl, ⟨nd, rfl⟩⟩; refine ⟨_, rfl, ?_⟩))
                      go_meet
                      case rel => exact ⟨_, (true), (by first | rfl | (simp; done) | (simp [*]; done)), H', ⟨by have := HK1.out; first | omega | exact Nat.le_refl _⟩, by repeat (first | exact Drawn0.refl _ | apply Drawn0.step)⟩
            case rest =>
              clear HC10
              try clear c1
              try clear c2
              try clear p2
              try clear c3
              try clear c4
              try clear c4b0
              try clear c5
              try clear c6
              try clear c6b0
              try clear c6b1
              try clear p6
              try clear c12
              try clear c12b0
              try clear c14
              try clear c14b0
              try clear c14b1
              try clear c14b2
              try clear c15
              try clear c17
              try clear c17b0
              try clear c17b1
              try clear c18
              try clear c18b0
              try clear c18b1
              try clear c18b2
              try clear c19
              try clear c21
              try clear c21b0
              try clear c21b1
              try clear p2
              obtain ⟨kq, x66_9, rfl, HA, HJ9, ⟨mc9, rfl⟩⟩ := hcut
              cases kq with
              | zero => exact absurd HA.out (by simp [laws_FnMeter.j1])
              | succ kj9 =>
                have H := HA.out
                clear HA
                simp only [laws_FnMeter.j1] at H
                by_cases c22 : x66_9 = true
                · subst c22
                  have H1 : (some false) = some r := by rw [if_pos rfl] at H; exact H
                  clear H
                  have H := H1
                  clear H1
                  obtain rfl := Option.some.inj H
                  go_wp2
                  go_ret
                  exact ⟨by first | rfl | (simp; done) | (simp [*]; done), by repeat (first | exact Drawn0.refl _ | apply Drawn0.step)⟩
                · replace c22 := Bool.eq_false_iff.mpr c22
                  subst c22
                  have H1 : (if t114 = true then ((spec_Cost.f (wrap64 ((Int.tmod t112 25) - 1))).bind fun t119 => (if t113 < 0 then (some false) else (if t113 > 30 then (some false) else (if (wrap64 (x4_1 + t119)) > (wrap64 (30 + (wrap64 (4 * x5_1)))) then (some false) else (laws_FnMeter.l0 kj9 l0 t113 (wrap64 (x4_1 + t119)) x5_1 (wrap64 (x6_1 + 1))))))) else (if t113 < 0 then (some false) else (if t113 > 30 then (some false) else (if x4_1 > (wrap64 (30 + (wrap64 (4 * x5_1)))) then (some false) else (laws_FnMeter.l0 kj9 l0 t113 x4_1 x5_1 (wrap64 (x6_1 + 1))))))) = some r := by rw [if_neg (show ¬ (false = true) by decide)] at H; exact H
                  clear H
                  have H := H1
                  clear H1
                  by_cases c23 : t114 = true
                  · subst c23
                    have H1 : ((spec_Cost.f (wrap64 ((Int.tmod t112 25) - 1))).bind fun t119 => (if t113 < 0 then (some false) else (if t113 > 30 then (some false) else (if (wrap64 (x4_1 + t119)) > (wrap64 (30 + (wrap64 (4 * x5_1)))) then (some false) else (laws_FnMeter.l0 kj9 l0 t113 (wrap64 (x4_1 + t119)) x5_1 (wrap64 (x6_1 + 1))))))) = some r := by rw [if_pos rfl] at H; exact H
                    clear H
                    have H := H1
                    clear H1
                    replace H := Option.bind_eq_some_iff.mp H
                    obtain ⟨t119, A240, H⟩ := H
                    replace H : (if t113 < 0 then (some false) else (if t113 > 30 then (some false) else (if (wrap64 (x4_1 + t119)) > (wrap64 (30 + (wrap64 (4 * x5_1)))) then (some false) else (laws_FnMeter.l0 kj9 l0 t113 (wrap64 (x4_1 + t119)) x5_1 (wrap64 (x6_1 + 1)))))) = some r := H
                    have A24 := Aside0.mk A240
                    clear A240
                    by_cases c25 : t113 < 0
                    · rw [if_pos c25] at H
                      have c25b0 : decide (t113 < 0) = true := decide_eq_true c25
                      clear c25
                      obtain rfl := Option.some.inj H
                      go_wp2_with (first | ((with_reducible refine gate_callee (f := 56) rfl ?_); refine goesL_ (some 70) rfl rfl Try.func56 (by kernel_rfl) rfl #[.int .i64 (wrap64 ((Int.tmod t112 25) - 1))] rfl (by (try simp only [List.map_toArray, List.map_cons, List.map_nil]); first | done | rfl | (simp only [List.length_drop, List.length_take]; rfl)) ?_; (with_reducible refine (spec_Cost.calls (wrap64 ((Int.tmod t112 25) - 1)) t119 _ A24.out).mono ?_); rintro e w' ⟨rfl, ⟨nd, rfl⟩⟩; refine ⟨_, rfl, ?_⟩))
                      go_ret
                      exact ⟨by first | rfl | (simp; done) | (simp [*]; done), by repeat (first | exact Drawn0.refl _ | apply Drawn0.step)⟩
                    · rw [if_neg c25] at H
                      have c25b0 : decide (t113 < 0) = false := decide_eq_false c25
                      clear c25
                      by_cases c26 : t113 > 30
                      · rw [if_pos c26] at H
                        have c26b0 : decide (30 < t113) = true := decide_eq_true c26
                        clear c26
                        obtain rfl := Option.some.inj H
                        go_wp2_with (first | ((with_reducible refine gate_callee (f := 56) rfl ?_); refine goesL_ (some 70) rfl rfl Try.func56 (by kernel_rfl) rfl #[.int .i64 (wrap64 ((Int.tmod t112 25) - 1))] rfl (by (try simp only [List.map_toArray, List.map_cons, List.map_nil]); first | done | rfl | (simp only [List.length_drop, List.length_take]; rfl)) ?_; (with_reducible refine (spec_Cost.calls (wrap64 ((Int.tmod t112 25) - 1)) t119 _ A24.out).mono ?_); rintro e w' ⟨rfl, ⟨nd, rfl⟩⟩; refine ⟨_, rfl, ?_⟩))
                        go_ret
                        exact ⟨by first | rfl | (simp; done) | (simp [*]; done), by repeat (first | exact Drawn0.refl _ | apply Drawn0.step)⟩
                      · rw [if_neg c26] at H
                        have c26b0 : decide (30 < t113) = false := decide_eq_false c26
                        clear c26
                        by_cases c27 : (wrap64 (x4_1 + t119)) > (wrap64 (30 + (wrap64 (4 * x5_1))))
                        · rw [if_pos c27] at H
                          have c27b0 : decide ((wrap64 (30 + (wrap64 (4 * x5_1)))) < (wrap64 (x4_1 + t119))) = true := decide_eq_true c27
                          clear c27
                          obtain rfl := Option.some.inj H
                          go_wp2_with (first | ((with_reducible refine gate_callee (f := 56) rfl ?_); refine goesL_ (some 70) rfl rfl Try.func56 (by kernel_rfl) rfl #[.int .i64 (wrap64 ((Int.tmod t112 25) - 1))] rfl (by (try simp only [List.map_toArray, List.map_cons, List.map_nil]); first | done | rfl | (simp only [List.length_drop, List.length_take]; rfl)) ?_; (with_reducible refine (spec_Cost.calls (wrap64 ((Int.tmod t112 25) - 1)) t119 _ A24.out).mono ?_); rintro e w' ⟨rfl, ⟨nd, rfl⟩⟩; refine ⟨_, rfl, ?_⟩))
                          go_ret
                          exact ⟨by first | rfl | (simp; done) | (simp [*]; done), by repeat (first | exact Drawn0.refl _ | apply Drawn0.step)⟩
                        · rw [if_neg c27] at H
                          have c27b0 : decide ((wrap64 (30 + (wrap64 (4 * x5_1)))) < (wrap64 (x4_1 + t119))) = false := decide_eq_false c27
                          clear c27
                          have H' := Aside0.mk H
                          clear H
                          go_wp2_with (first | ((with_reducible refine gate_callee (f := 56) rfl ?_); refine goesL_ (some 70) rfl rfl Try.func56 (by kernel_rfl) rfl #[.int .i64 (wrap64 ((Int.tmod t112 25) - 1))] rfl (by (try simp only [List.map_toArray, List.map_cons, List.map_nil]); first | done | rfl | (simp only [List.length_drop, List.length_take]; rfl)) ?_; (with_reducible refine (spec_Cost.calls (wrap64 ((Int.tmod t112 25) - 1)) t119 _ A24.out).mono ?_); rintro e w' ⟨rfl, ⟨nd, rfl⟩⟩; refine ⟨_, rfl, ?_⟩))
                          go_roundg kj9
                          case measure => have := HK1.out; have := HJ9.out; omega
                          case rel => exact ⟨(t113), (wrap64 (x4_1 + t119)), (x5_1), (wrap64 (x6_1 + 1)), (by first | rfl | (simp; done) | (simp [*]; done)), (by first | rfl | (simp; done) | (simp [*]; done)), (by first | rfl | (simp; done) | (simp [*]; done)), (by first | rfl | (simp; done) | (simp [*]; done)), H', ⟨by have := HK1.out; have := HJ9.out; omega⟩, by repeat (first | exact Drawn0.refl _ | apply Drawn0.step)⟩
                  · replace c23 := Bool.eq_false_iff.mpr c23
                    subst c23
                    have H1 : (if t113 < 0 then (some false) else (if t113 > 30 then (some false) else (if x4_1 > (wrap64 (30 + (wrap64 (4 * x5_1)))) then (some false) else (laws_FnMeter.l0 kj9 l0 t113 x4_1 x5_1 (wrap64 (x6_1 + 1)))))) = some r := by rw [if_neg (show ¬ (false = true) by decide)] at H; exact H
                    clear H
                    have H := H1
                    clear H1
                    by_cases c28 : t113 < 0
                    · rw [if_pos c28] at H
                      have c28b0 : decide (t113 < 0) = true := decide_eq_true c28
                      clear c28
                      obtain rfl := Option.some.inj H
                      go_wp2
                      go_ret
                      exact ⟨by first | rfl | (simp; done) | (simp [*]; done), by repeat (first | exact Drawn0.refl _ | apply Drawn0.step)⟩
                    · rw [if_neg c28] at H
                      have c28b0 : decide (t113 < 0) = false := decide_eq_false c28
                      clear c28
                      by_cases c29 : t113 > 30
                      · rw [if_pos c29] at H
                        have c29b0 : decide (30 < t113) = true := decide_eq_true c29
                        clear c29
                        obtain rfl := Option.some.inj H
                        go_wp2
                        go_ret
                        exact ⟨by first | rfl | (simp; done) | (simp [*]; done), by repeat (first | exact Drawn0.refl _ | apply Drawn0.step)⟩
                      · rw [if_neg c29] at H
                        have c29b0 : decide (30 < t113) = false := decide_eq_false c29
                        clear c29
                        by_cases c30 : x4_1 > (wrap64 (30 + (wrap64 (4 * x5_1))))
                        · rw [if_pos c30] at H
                          have c30b0 : decide ((wrap64 (30 + (wrap64 (4 * x5_1)))) < x4_1) = true := decide_eq_true c30
                          clear c30
                          obtain rfl := Option.some.inj H
                          go_wp2
                          go_ret
                          exact ⟨by first | rfl | (simp; done) | (simp [*]; done), by repeat (first | exact Drawn0.refl _ | apply Drawn0.step)⟩
                        · rw [if_neg c30] at H
                          have c30b0 : decide ((wrap64 (30 + (wrap64 (4 * x5_1)))) < x4_1) = false := decide_eq_false c30
                          clear c30
                          have H' := Aside0.mk H
                          clear H
                          go_wp2
                          go_roundg kj9
                          case measure => have := HK1.out; have := HJ9.out; omega
                          case rel => exact ⟨(t113), (x4_1), (x5_1), (wrap64 (x6_1 + 1)), (by first | rfl | (simp; done) | (simp [*]; done)), (by first | rfl | (simp; done) | (simp [*]; done)), (by first | rfl | (simp; done) | (simp [*]; done)), (by first | rfl | (simp; done) | (simp [*]; done)), H', ⟨by have := HK1.out; have := HJ9.out; omega⟩, by repeat (first | exact Drawn0.refl _ | apply Drawn0.step)⟩
        · rw [if_neg c4] at H
          have c4b0 : decide (x6_1 < 60) = false := decide_eq_false c4
          clear c4
          replace H := Option.bind_eq_some_iff.mp H
          obtain ⟨t108, A310, H⟩ := H
          replace H : (if t108 = 3 then ((impl_Tells.f 4).bind fun t109 => (some t109)) else (some false)) = some r := H
          have A31 := Aside0.mk A310
          clear A310
          by_cases c32 : t108 = 3
          · rw [if_pos c32] at H
            have c32b0 : (t108 == 3) = true := beq_iff_eq.mpr c32
            have c32b1 : (t108 != 3) = false := bne_eq_false_iff_eq.mpr c32
            clear c32
            replace H := Option.bind_eq_some_iff.mp H
            obtain ⟨t109, A330, H⟩ := H
            replace H : (some t109) = some r := H
            have A33 := Aside0.mk A330
            clear A330
            obtain rfl := Option.some.inj H
            go_wp2_with (first | ((with_reducible refine gate_callee (f := 57) rfl ?_); refine goesL_ (some 86) rfl rfl Try.func57 (by kernel_rfl) rfl #[.int .i64 1] rfl (by (try simp only [List.map_toArray, List.map_cons, List.map_nil]); first | done | rfl | (simp only [List.length_drop, List.length_take]; rfl)) ?_; (with_reducible refine (impl_Cost.calls 1 t108 _ A31.out).mono ?_); rintro e w' ⟨rfl, ⟨nd, rfl⟩⟩; refine ⟨_, rfl, ?_⟩) | (go_at_call 58; (with_reducible refine (impl_Tells.calls 4 t109 _ A33.out).mono ?_); rintro e w' ⟨rfl, ⟨nd, rfl⟩⟩))
            go_ret
            exact ⟨by first | rfl | (simp; done) | (simp [*]; done), by repeat (first | exact Drawn0.refl _ | apply Drawn0.step)⟩
          · rw [if_neg c32] at H
            have c32b0 : (t108 == 3) = false := beq_eq_false_iff_ne.mpr c32
            have c32b1 : (t108 != 3) = true := bne_iff_ne.mpr c32
            obtain rfl := Option.some.inj H
            go_wp2_with (first | ((with_reducible refine gate_callee (f := 57) rfl ?_); refine goesL_ (some 86) rfl rfl Try.func57 (by kernel_rfl) rfl #[.int .i64 1] rfl (by (try simp only [List.map_toArray, List.map_cons, List.map_nil]); first | done | rfl | (simp only [List.length_drop, List.length_take]; rfl)) ?_; (with_reducible refine (impl_Cost.calls 1 t108 _ A31.out).mono ?_); rintro e w' ⟨rfl, ⟨nd, rfl⟩⟩; refine ⟨_, rfl, ?_⟩))
            go_ret
            exact ⟨by first | rfl | (simp; done) | (simp [*]; done), by repeat (first | exact Drawn0.refl _ | apply Drawn0.step)⟩

/-- THE ONE PURE STATEMENT of laws_FnMeter: yours. -/
def laws_FnMeter.Pure : Prop := ∀ (l0 : List Int), l0.length ≤ maxLen → l0.length * 1 ≤ 140737488351232 → (∀ x ∈ l0, (Lit.int .u8 x).wf = true) → ∃ k, laws_FnMeter.f k l0 = some true
theorem laws_FnMeter.walk (P : laws_FnMeter.Pure) (a0 : Option Addr) (len0 cap0 : Nat) (z0 : List Int) (w : World) (w0 : (a0 = none ∧ len0 = 0 ∧ cap0 = 0 ∧ z0 = []) ∨ ∃ x, a0 = some x ∧ len0 ≤ cap0 ∧ cap0 ≤ maxLen ∧ z0.length = cap0 ∧ (∀ i, i < z0.length → w.cell? (x.add i) = some (.int .u8 (z0.getD i 0))) ∧ ∀ n ∈ z0, (Lit.int .u8 n).wf = true) (y0 : len0 * 1 ≤ 140737488351232) :
    Calls Try.prog 14 #[.slice a0 len0 cap0] w fun e w' => e = .returned (.bool true) ∧ Below w.heap.size w w' := by
  obtain ⟨l0, rfl, hr0, hm0, hw0, hc0⟩ := ReadsInt.ofRowC w0
  obtain ⟨k, h⟩ := P l0 hm0 y0 hw0
  refine (laws_FnMeter.calls k _ _ l0 true w (Kd.C_of_reads (d := (0 : Int)) (h1 := fun _ => rfl) hr0) hc0 h).mono ?_
  rintro e w' ⟨rfl, hd⟩
  exact ⟨rfl, hd.below⟩

end Go.Proofs.Ytgpcgfmmmnmfhaa.PFnMeter
