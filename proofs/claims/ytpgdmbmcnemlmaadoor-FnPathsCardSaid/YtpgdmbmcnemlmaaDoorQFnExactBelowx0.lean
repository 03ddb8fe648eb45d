/- Written by programs of mine (qprint.py, over the kit's print.py; pickq.py): functions that the law FnExactBelow reaches, as Lean functions, and that the program answers as they do. -/
import Derived.Test.YtpgdmbmcnemlmaaDoorXFnExactClean
namespace Go.Proofs.YtpgdmbmcnemlmaaDoor.PFnExactParts
open Go.RowKit Go.Proofs.YtpgdmbmcnemlmaaDoorW.PrintWords Go.Proofs.YtpgdmbmcnemlmaaDoorW.PrintLast Go.Proofs.YtpgdmbmcnemlmaaDoorW.PrintMore
attribute [local go_sem] max2_int min2_int max_two min_two max_three min_three max_four min_four   -- for this text's walks alone
set_option linter.unusedVariables false
set_option linter.unusedSimpArgs false

/-! ### spec_Below: function 14 -/
def spec_Below.j0 : Nat → ByteArray → ByteArray → Bool → Option (Bool)
  | 0, _, _, _ => none
  | k + 1, x5, x6, x16 => if x16 = true then (some false) else (if x6.toList = ([47] : List UInt8) then (some true) else (if x5.toList = x6.toList then (some true) else (if (x5.size : Int) > (x6.size : Int) then (if 0 ≤ (wrap64 ((x6.size : Int) + 1)) then (if (wrap64 ((x6.size : Int) + 1)) ≤ (x5.size : Int) then (if x6.size + 1 ≤ 9223372036854775807 then (some ((x5.extract 0 ((wrap64 ((x6.size : Int) + 1)) : Int).toNat).toList == (x6 ++ (⟨#[47]⟩ : ByteArray)).toList)) else (none)) else (none)) else (none)) else (some false))))
def spec_Below.f (k : Nat) (a0 : ByteArray) (a1 : ByteArray) : Option (Bool) := (spec_Clean.f k a0).bind fun t128 => ((spec_Clean.f k a1).bind fun t129 => (if t128.toList = ([] : List UInt8) then (spec_Below.j0 k t128 t129 true) else (spec_Below.j0 k t128 t129 (t129.toList == ([] : List UInt8)))))
theorem spec_Below.mono_l : ∀ k, (∀ y0 y1 y2, LeO (spec_Below.j0 k y0 y1 y2) (spec_Below.j0 (k + 1) y0 y1 y2))
  | 0 => fun _ _ _ r h => by simp [spec_Below.j0] at h
  | k + 1 => by
    have ih0 := spec_Below.mono_l k
    · intro y0 y1 y2
      unfold spec_Below.j0
      repeat' first
      | (with_reducible exact ih0 _ _ _)
      | (with_reducible exact spec_Clean.mono _ _)
      | (with_reducible exact LeO.refl _)
      | (with_reducible exact LeO.none _)
      | (with_reducible refine LeO.ite ?_ ?_)
      | (with_reducible refine LeO.bind ?_ (fun _ => ?_))
      | exact ih0 _ _ _
      | exact spec_Clean.mono _ _
      | exact LeO.none _
      | refine LeO.ite ?_ ?_
      | refine LeO.bind ?_ (fun _ => ?_)
theorem spec_Below.mono : ∀ a0 a1 k, LeO (spec_Below.f k a0 a1) (spec_Below.f (k + 1) a0 a1) := by
  intro a0 a1 k
  have ih0 := spec_Below.mono_l k
  unfold spec_Below.f
  repeat' first
      | (with_reducible exact ih0 _ _ _)
      | (with_reducible exact spec_Clean.mono _ _)
      | (with_reducible exact LeO.refl _)
      | (with_reducible exact LeO.none _)
      | (with_reducible refine LeO.ite ?_ ?_)
      | (with_reducible refine LeO.bind ?_ (fun _ => ?_))
      | exact ih0 _ _ _
      | exact spec_Clean.mono _ _
      | exact LeO.none _
      | refine LeO.ite ?_ ?_
      | refine LeO.bind ?_ (fun _ => ?_)
set_option maxHeartbeats 8000000 in
set_option maxRecDepth 100000 in
theorem spec_Below.calls (k : Nat) (a0 : ByteArray) (a1 : ByteArray) (r : Bool) (w : World) (h : spec_Below.f k a0 a1 = some r) :
    Calls Tryd.prog 14 #[.string a0, .string a1] w fun e w' => e = .returned (.bool r) ∧ Below w.heap.size w w' := by
  have HB := Aside0.mk (Below.refl w.heap.size w)
  have H : ((spec_Clean.f k a0).bind fun t128 => ((spec_Clean.f k a1).bind fun t129 => (if t128.toList = ([] : List UInt8) then (spec_Below.j0 k t128 t129 true) else (spec_Below.j0 k t128 t129 (t129.toList == ([] : List UInt8)))))) = some r := h
  clear h
  replace H := Option.bind_eq_some_iff.mp H
  obtain ⟨t128, A30, H⟩ := H
  replace H : ((spec_Clean.f k a1).bind fun t129 => (if t128.toList = ([] : List UInt8) then (spec_Below.j0 k t128 t129 true) else (spec_Below.j0 k t128 t129 (t129.toList == ([] : List UInt8))))) = some r := H
  have A3 := Aside0.mk A30
  clear A30
  replace H := Option.bind_eq_some_iff.mp H
  obtain ⟨t129, A40, H⟩ := H
  replace H : (if t128.toList = ([] : List UInt8) then (spec_Below.j0 k t128 t129 true) else (spec_Below.j0 k t128 t129 (t129.toList == ([] : List UInt8)))) = some r := H
  have A4 := Aside0.mk A40
  clear A40
  have HC5 := Aside0.mk H
  clear H
  go_enter Tryd.func14, Tryd.ntmps14
  go_upto_region 3 with (first | ((with_reducible refine gate_callee (f := 12) rfl ?_); refine goesL_ (some 8) rfl rfl Tryd.func12 (by kernel_rfl) rfl #[.string a0] rfl (by (try simp only [List.map_toArray, List.map_cons, List.map_nil]); first | done | rfl | (simp only [List.length_drop, List.length_take]; rfl)) ?_; (with_reducible refine (spec_Clean.calls k a0 t128 _ A3.out).mono ?_); rintro e w6 ⟨rfl, hb⟩; refine ⟨_, rfl, ?_⟩; have n0_ := Aside0.mk (below_step (by repeat (first | (with_reducible first | exact HB.out | apply below_alloc | apply pw_below_drewN | apply below_drew1) | exact HB.out)) hb); clear HB; have HB := n0_; clear n0_; (try clear hb); (try clear hb2); (try clear hk); (try clear hi)) | ((with_reducible refine gate_callee (f := 12) rfl ?_); refine goesL_ (some 10) rfl rfl Tryd.func12 (by kernel_rfl) rfl #[.string a1] rfl (by (try simp only [List.map_toArray, List.map_cons, List.map_nil]); first | done | rfl | (simp only [List.length_drop, List.length_take]; rfl)) ?_; (with_reducible refine (spec_Clean.calls k a1 t129 _ A4.out).mono ?_); rintro e w7 ⟨rfl, hb⟩; refine ⟨_, rfl, ?_⟩; have n0_ := Aside0.mk (below_step (by repeat (first | (with_reducible first | exact HB.out | apply below_alloc | apply pw_below_drewN | apply below_drew1) | exact HB.out)) hb); clear HB; have HB := n0_; clear n0_; (try clear hb); (try clear hb2); (try clear hk); (try clear hi)))
  (try simp only [Act.put, List.setIfInBounds_toArray, List.set_cons_zero, List.set_cons_succ])
  go_cut [16] (fun v16 wc => ∃ (kq : Nat) (x16_4 : Bool), v16 = .bool x16_4 ∧ Aside0 (spec_Below.j0 kq t128 t129 x16_4 = some r) ∧ Aside0 (kq ≤ k) ∧ Aside0 (Below w.heap.size w wc))
  case first =>
    have H := HC5.out
    clear HC5
    by_cases c8 : t128.toList = ([] : List UInt8)
    · rw [if_pos c8] at H
      have c8b0 : (t128.toList == ([] : List UInt8)) = true := beq_iff_eq.mpr c8
      have c8b9 : t128.toList.isEmpty = true := by
        have e_ : ∀ l : List UInt8, (l == ([] : List UInt8)) = l.isEmpty := fun l => by cases l <;> rfl
        have h_ := c8b0
        rw [e_] at h_
        exact h_
      have c8b1 : (t128.toList != ([] : List UInt8)) = false := bne_eq_false_iff_eq.mpr c8
      clear c8
      (first | rw [c8b0] | (simp only [i64_w, i32_w]; rw [c8b0]) | skip)
      have H' := Aside0.mk H
      clear H
      go_wp2
      go_meet
      case rel => exact ⟨_, (true), (by first | rfl | (simp; done) | (simp [*]; done) | (simp; exact (fun (l : List UInt8) => (by cases l <;> rfl : l.isEmpty = !(l != []))) _)), H', ⟨by first | omega | exact Nat.le_refl _⟩, ⟨by repeat (first | (with_reducible first | exact HB.out | apply below_alloc | apply pw_below_drewN | apply below_drew1) | exact HB.out)⟩⟩
    · rw [if_neg c8] at H
      have c8b0 : (t128.toList == ([] : List UInt8)) = false := beq_eq_false_iff_ne.mpr c8
      have c8b9 : t128.toList.isEmpty = false := by
        have e_ : ∀ l : List UInt8, (l == ([] : List UInt8)) = l.isEmpty := fun l => by cases l <;> rfl
        have h_ := c8b0
        rw [e_] at h_
        exact h_
      have c8b1 : (t128.toList != ([] : List UInt8)) = true := bne_iff_ne.mpr c8
      (first | rw [c8b0] | (simp only [i64_w, i32_w]; rw [c8b0]) | skip)
      have H' := Aside0.mk H
      clear H
      go_wp2
      go_meet
      case rel => exact ⟨_, ((t129.toList == ([] : List UInt8))), (by first | rfl | (simp; done) | (simp [*]; done) | (simp; exact (fun (l : List UInt8) => (by cases l <;> rfl : l.isEmpty = !(l != []))) _)), H', ⟨by first | omega | exact Nat.le_refl _⟩, ⟨by repeat (first | (with_reducible first | exact HB.out | apply below_alloc | apply pw_below_drewN | apply below_drew1) | exact HB.out)⟩⟩
  case rest =>
    clear HC5
    try clear c1
    try clear p2
    try clear c8
    try clear c8b0
    try clear c8b1
    obtain ⟨kq, x16_4, rfl, HA, HJ4, HB⟩ := hcut
    cases kq with
    | zero => exact absurd HA.out (by simp [spec_Below.j0])
    | succ kj4 =>
      have H := HA.out
      clear HA
      simp only [spec_Below.j0] at H
      by_cases c9 : x16_4 = true
      · subst c9
        have H1 : (some false) = some r := by rw [if_pos rfl] at H; exact H
        clear H
        have H := H1
        clear H1
        obtain rfl := Option.some.inj H
        go_wp2
        go_ret
        exact ⟨by first | rfl | (simp [errW_none, errW_some] <;> rfl) | (simp [*, errW_none, errW_some] <;> rfl), by repeat (first | (with_reducible first | exact HB.out | apply below_alloc | apply pw_below_drewN | apply below_drew1) | exact HB.out)⟩
      · replace c9 := Bool.eq_false_iff.mpr c9
        subst c9
        have H1 : (if t129.toList = ([47] : List UInt8) then (some true) else (if t128.toList = t129.toList then (some true) else (if (t128.size : Int) > (t129.size : Int) then (if 0 ≤ (wrap64 ((t129.size : Int) + 1)) then (if (wrap64 ((t129.size : Int) + 1)) ≤ (t128.size : Int) then (if t129.size + 1 ≤ 9223372036854775807 then (some ((t128.extract 0 ((wrap64 ((t129.size : Int) + 1)) : Int).toNat).toList == (t129 ++ (⟨#[47]⟩ : ByteArray)).toList)) else (none)) else (none)) else (none)) else (some false)))) = some r := by rw [if_neg (show ¬ (false = true) by decide)] at H; exact H
        clear H
        have H := H1
        clear H1
        by_cases c10 : t129.toList = ([47] : List UInt8)
        · rw [if_pos c10] at H
          have c10b0 : (t129.toList == ([47] : List UInt8)) = true := beq_iff_eq.mpr c10
          have c10b1 : (t129.toList != ([47] : List UInt8)) = false := bne_eq_false_iff_eq.mpr c10
          clear c10
          obtain rfl := Option.some.inj H
          go_wp2
          go_ret
          exact ⟨by first | rfl | (simp [errW_none, errW_some] <;> rfl) | (simp [*, errW_none, errW_some] <;> rfl), by repeat (first | (with_reducible first | exact HB.out | apply below_alloc | apply pw_below_drewN | apply below_drew1) | exact HB.out)⟩
        · rw [if_neg c10] at H
          have c10b0 : (t129.toList == ([47] : List UInt8)) = false := beq_eq_false_iff_ne.mpr c10
          have c10b1 : (t129.toList != ([47] : List UInt8)) = true := bne_iff_ne.mpr c10
          by_cases c11 : t128.toList = t129.toList
          · rw [if_pos c11] at H
            have c11b0 : (t128.toList == t129.toList) = true := beq_iff_eq.mpr c11
            have c11b1 : (t128.toList != t129.toList) = false := bne_eq_false_iff_eq.mpr c11
            clear c11
            obtain rfl := Option.some.inj H
            go_wp2
            go_ret
            exact ⟨by first | rfl | (simp [errW_none, errW_some] <;> rfl) | (simp [*, errW_none, errW_some] <;> rfl), by repeat (first | (with_reducible first | exact HB.out | apply below_alloc | apply pw_below_drewN | apply below_drew1) | exact HB.out)⟩
          · rw [if_neg c11] at H
            have c11b0 : (t128.toList == t129.toList) = false := beq_eq_false_iff_ne.mpr c11
            have c11b1 : (t128.toList != t129.toList) = true := bne_iff_ne.mpr c11
            by_cases c12 : (t128.size : Int) > (t129.size : Int)
            · rw [if_pos c12] at H
              have c12b0 : decide ((t129.size : Int) < (t128.size : Int)) = true := decide_eq_true c12
              have c12b1 : decide (t129.size < t128.size) = true := decide_eq_true (Int.ofNat_lt.mp c12)
              clear c12
              obtain ⟨ji13, hji13⟩ : ∃ j_ : Int, (wrap64 ((t129.size : Int) + 1)) = j_ := ⟨_, rfl⟩
              replace H : (if 0 ≤ (ji13) then (if (ji13) ≤ (t128.size : Int) then (if t129.size + 1 ≤ 9223372036854775807 then (some ((t128.extract 0 ((ji13) : Int).toNat).toList == (t129 ++ (⟨#[47]⟩ : ByteArray)).toList)) else (none)) else (none)) else (none)) = some r := by first | (rw [hji13] at H; exact H) | (simp only [hji13] at H ⊢; exact H)
              have hji13w : (IntKind.i64.wrap ((t129.size : Int) + 1)) = ji13 := (i64_w _).trans hji13
              by_cases c14 : 0 ≤ (ji13)
              · rw [if_pos c14] at H
                have c14b0 := eq_true c14
                have c14b1 : decide (0 ≤ (ji13)) = true := decide_eq_true c14
                clear c14
                by_cases c15 : (ji13) ≤ (t128.size : Int)
                · rw [if_pos c15] at H
                  have c15b0 := eq_true c15
                  have c15b1 : decide ((ji13) ≤ (t128.size : Int)) = true := decide_eq_true c15
                  clear c15
                  by_cases c16 : t129.size + 1 ≤ 9223372036854775807
                  · rw [if_pos c16] at H
                    have c16b0 := eq_true c16
                    have c16b1 : decide (t129.size + 1 ≤ 9223372036854775807) = true := decide_eq_true c16
                    try have c16b2 : (9223372036854775807 < t129.size + 1) = False := eq_false (Nat.not_lt.2 c16)
                    obtain rfl := Option.some.inj H
                    go_wp2
                    go_ret
                    exact ⟨by first | rfl | (simp [errW_none, errW_some] <;> rfl) | (simp only [← hji13]; first | rfl | (simp [errW_none, errW_some] <;> rfl)) | (simp [*, errW_none, errW_some] <;> rfl), by repeat (first | (with_reducible first | exact HB.out | apply below_alloc | apply pw_below_drewN | apply below_drew1) | exact HB.out)⟩
                  · rw [if_neg c16] at H
                    exact absurd H (by simp)
                · rw [if_neg c15] at H
                  exact absurd H (by simp)
              · rw [if_neg c14] at H
                exact absurd H (by simp)
            · rw [if_neg c12] at H
              have c12b0 : decide ((t129.size : Int) < (t128.size : Int)) = false := decide_eq_false c12
              have c12b1 : decide (t129.size < t128.size) = false := decide_eq_false (fun h => c12 (Int.ofNat_lt.mpr h))
              clear c12
              obtain rfl := Option.some.inj H
              go_wp2
              go_ret
              exact ⟨by first | rfl | (simp [errW_none, errW_some] <;> rfl) | (simp [*, errW_none, errW_some] <;> rfl), by repeat (first | (with_reducible first | exact HB.out | apply below_alloc | apply pw_below_drewN | apply below_drew1) | exact HB.out)⟩


end Go.Proofs.YtpgdmbmcnemlmaaDoor.PFnExactParts
