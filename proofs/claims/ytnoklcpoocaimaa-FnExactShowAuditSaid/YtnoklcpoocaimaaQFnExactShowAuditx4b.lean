/- Written by a program of mine (qprint.py, over the kit's print.py, and texts by hand) for the law FnExactShowAudit: the functions that it reaches, as Lean functions, and that the program answers as they do. -/
import Derived.Test.YtnoklcpoocaimaaQFnExactShowAuditx0
import Derived.Test.YtnoklcpoocaimaaQFnExactShowAuditx4a
namespace Go.Proofs.Ytnoklcpoocaimaa.PFnExactShowAudit
open Go.RowKit Go.Proofs.YtnoklcpoocaimaaW.PrintWords Go.Proofs.YtnoklcpoocaimaaW.PrintLast Go.Proofs.YtnoklcpoocaimaaW.PrintMore
attribute [local go_sem] max2_int min2_int max_two min_two max_three min_three max_four min_four   -- for this text's walks alone
set_option linter.unusedVariables false
set_option linter.unusedSimpArgs false

theorem set_off_xactShowAuditx4b {W : World} {g i j : Nat} {v u : Value} (h : i ≠ j) (hc : W.cell? ⟨g, j, none⟩ = some u) : (W.setCell ⟨g, i, none⟩ v).cell? ⟨g, j, none⟩ = some u :=
  (World.cell?_setCell_other W _ _ v (fun e => h (by injection e))).trans hc
theorem set_same_xactShowAuditx4b {W : World} {p : Addr} {v u : Value} (h : W.cell? p = some u) : (W.setCell p v).cell? p = some v := World.cell?_setCell_same W p v h
/-! ### impl_AuditOk: function 22 -/
def impl_AuditOk.l0 : Nat → List (S94) → List (S94) → Int → Int → Option (Bool)
  | 0, _, _, _, _ => none
  | k + 1, x0, x5, x6, x7 => if x7 < x6 then (if 0 ≤ x7 then (if x7 < (x5.length : Int) then ((impl_within.f ((rd_T94 x5 x7).f0) 1 100000).bind fun t150 => (if t150 = true then (if x7 > 0 then (if 0 ≤ (wrap64 (x7 - 1)) then (if (wrap64 (x7 - 1)) < (x0.length : Int) then (if ((rd_T94 x0 (wrap64 (x7 - 1))).f0) > ((rd_T94 x5 x7).f0) then (some false) else ((impl_within.f ((rd_T94 x5 x7).f1) 1 3).bind fun t152 => (if t152 = true then ((impl_within.f ((rd_T94 x5 x7).f2) 1 1000000).bind fun t153 => (if t153 = true then ((impl_within.f ((rd_T94 x5 x7).f3) 1 22).bind fun t154 => (if t154 = true then ((impl_within.f ((rd_T94 x5 x7).f4) 0 200).bind fun t155 => (if t155 = true then (impl_AuditOk.l0 k x0 x5 x6 (wrap64 (x7 + 1))) else (some false))) else (some false))) else (some false))) else (some false)))) else (none)) else (none)) else ((impl_within.f ((rd_T94 x5 x7).f1) 1 3).bind fun t156 => (if t156 = true then ((impl_within.f ((rd_T94 x5 x7).f2) 1 1000000).bind fun t157 => (if t157 = true then ((impl_within.f ((rd_T94 x5 x7).f3) 1 22).bind fun t158 => (if t158 = true then ((impl_within.f ((rd_T94 x5 x7).f4) 0 200).bind fun t159 => (if t159 = true then (impl_AuditOk.l0 k x0 x5 x6 (wrap64 (x7 + 1))) else (some false))) else (some false))) else (some false))) else (some false)))) else (some false))) else (none)) else (none)) else (some (decide ((x0.length : Int) ≤ 20)))
def impl_AuditOk.f (k : Nat) (l0 : List (S94)) : Option (Bool) := impl_AuditOk.l0 k l0 l0 (l0.length : Int) 0
theorem impl_AuditOk.mono_l : ∀ k, (∀ y0 y1 y2 y3, LeO (impl_AuditOk.l0 k y0 y1 y2 y3) (impl_AuditOk.l0 (k + 1) y0 y1 y2 y3))
  | 0 => fun _ _ _ _ r h => by simp [impl_AuditOk.l0] at h
  | k + 1 => by
    have ih0 := impl_AuditOk.mono_l k
    · intro y0 y1 y2 y3
      unfold impl_AuditOk.l0
      repeat' first
      | (with_reducible exact ih0 _ _ _ _)
      | (with_reducible exact LeO.refl _)
      | (with_reducible exact LeO.none _)
      | (with_reducible refine LeO.ite ?_ ?_)
      | (with_reducible refine LeO.bind ?_ (fun _ => ?_))
      | exact ih0 _ _ _ _
      | exact LeO.none _
      | refine LeO.ite ?_ ?_
      | refine LeO.bind ?_ (fun _ => ?_)
theorem impl_AuditOk.mono : ∀ a0 k, LeO (impl_AuditOk.f k a0) (impl_AuditOk.f (k + 1) a0) := by
  intro a0 k
  have ih0 := impl_AuditOk.mono_l k
  unfold impl_AuditOk.f
  repeat' first
      | (with_reducible exact ih0 _ _ _ _)
      | (with_reducible exact LeO.refl _)
      | (with_reducible exact LeO.none _)
      | (with_reducible refine LeO.ite ?_ ?_)
      | (with_reducible refine LeO.bind ?_ (fun _ => ?_))
      | exact ih0 _ _ _ _
      | exact LeO.none _
      | refine LeO.ite ?_ ?_
      | refine LeO.bind ?_ (fun _ => ?_)
set_option maxHeartbeats 8000000 in
set_option maxRecDepth 100000 in
theorem impl_AuditOk.calls (k : Nat) (A0 : Option Addr) (c0 : Nat) (l0 : List (S94)) (r : Bool) (w : World) (hr0 : Kd.C k94 w A0 l0.length l0) (hc0 : l0.length ≤ c0) (h : impl_AuditOk.f k l0 = some r) :
    Calls Try.prog 22 #[.slice A0 l0.length c0] w fun e w' => e = .returned (.bool r) ∧ Below w.heap.size w w' := by
  have hu94 := Try.underlying94
  have HR0 := Aside0.mk hr0
  have HC0 := Aside0.mk hc0
  clear hr0 hc0
  have HB := Aside0.mk (Below.refl w.heap.size w)
  have H : (impl_AuditOk.l0 k l0 l0 (l0.length : Int) 0) = some r := h
  clear h
  have H' := Aside0.mk H
  clear H
  go_enter Try.func22, Try.ntmps22
  go_wp2
  repeat (go_quiet (fail); try go_wp2)
  go_loopg [7] k (fun kq v7 w' => ∃ (x7_1 : Int), v7 = .int .i64 x7_1 ∧ Aside0 (impl_AuditOk.l0 kq l0 l0 (l0.length : Int) x7_1 = some r) ∧ Aside0 (kq ≤ k) ∧ Aside0 (Below w.heap.size w w'))
  case atStart => exact ⟨(0), (by first | rfl | (simp; done) | (simp [*]; done) | (simp; exact (fun (l : List UInt8) => (by cases l <;> rfl : l.isEmpty = !(l != []))) _)), H', ⟨Nat.le_refl _⟩, ⟨by repeat (first | (with_reducible first | exact HB.out | apply below_alloc | apply pw_below_drewN | apply below_drew1) | exact HB.out)⟩⟩
  case round =>
    clear H'
    obtain ⟨x7_1, rfl, HA, HK1, HB⟩ := hrel
    cases gk with
    | zero => exact absurd HA.out (by simp [impl_AuditOk.l0])
    | succ k1 =>
      have H := HA.out
      clear HA
      simp only [impl_AuditOk.l0] at H
      by_cases c2 : x7_1 < (l0.length : Int)
      · rw [if_pos c2] at H
        have c2b0 : decide (x7_1 < (l0.length : Int)) = true := decide_eq_true c2
        clear c2
        by_cases c3 : 0 ≤ x7_1
        · rw [if_pos c3] at H
          have c3b0 : decide (0 ≤ x7_1) = true := decide_eq_true c3
          clear c3
          by_cases c4 : x7_1 < (l0.length : Int)
          · rw [if_pos c4] at H
            have c4b0 : decide (x7_1 < (l0.length : Int)) = true := decide_eq_true c4
            clear c4
            replace H := Option.bind_eq_some_iff.mp H
            obtain ⟨t150, A50, H⟩ := H
            try dsimp only at H
            have A5 := Aside0.mk A50
            clear A50
            by_cases c6 : t150 = true
            · subst c6
              rw [if_pos rfl] at H
              by_cases c7 : x7_1 > 0
              · rw [if_pos c7] at H
                have c7b0 : decide (0 < x7_1) = true := decide_eq_true c7
                clear c7
                obtain ⟨ji8, hji8⟩ : ∃ j_ : Int, (wrap64 (x7_1 - 1)) = j_ := ⟨_, rfl⟩
                replace H : (if 0 ≤ (ji8) then (if (ji8) < (l0.length : Int) then (if ((rd_T94 l0 (ji8)).f0) > ((rd_T94 l0 x7_1).f0) then (some false) else ((impl_within.f ((rd_T94 l0 x7_1).f1) 1 3).bind fun t152 => (if t152 = true then ((impl_within.f ((rd_T94 l0 x7_1).f2) 1 1000000).bind fun t153 => (if t153 = true then ((impl_within.f ((rd_T94 l0 x7_1).f3) 1 22).bind fun t154 => (if t154 = true then ((impl_within.f ((rd_T94 l0 x7_1).f4) 0 200).bind fun t155 => (if t155 = true then (impl_AuditOk.l0 k1 l0 l0 (l0.length : Int) (wrap64 (x7_1 + 1))) else (some false))) else (some false))) else (some false))) else (some false)))) else (none)) else (none)) = some r := by first | (rw [hji8] at H; exact H) | (simp only [hji8] at H ⊢; exact H)
                (try rw [hji8] at A5)
                have hji8w : (IntKind.i64.wrap (x7_1 - 1)) = ji8 := (i64_w _).trans hji8
                by_cases c9 : 0 ≤ (ji8)
                · rw [if_pos c9] at H
                  have c9b0 : decide (0 ≤ (ji8)) = true := decide_eq_true c9
                  clear c9
                  by_cases c10 : (ji8) < (l0.length : Int)
                  · rw [if_pos c10] at H
                    have c10b0 : decide ((ji8) < (l0.length : Int)) = true := decide_eq_true c10
                    clear c10
                    by_cases c11 : ((rd_T94 l0 (ji8)).f0) > ((rd_T94 l0 x7_1).f0)
                    · rw [if_pos c11] at H
                      have c11b0 : decide (((rd_T94 l0 x7_1).f0) < ((rd_T94 l0 (ji8)).f0)) = true := decide_eq_true c11
                      clear c11
                      obtain rfl := Option.some.inj H
                      have p148 : 0 ≤ (x7_1 : Int) := of_decide_eq_true (by first | (with_reducible assumption) | assumption)
                      have q148 : x7_1 < (l0.length : Int) := of_decide_eq_true (by first | (with_reducible assumption) | assumption)
                      obtain ⟨ad148, e148, hx148_0, hx148_1, hx148_2, hx148_3, hx148_4⟩ := at_T94 HR0.out x7_1 p148 q148
                      cases e148
                      replace hx148_0 := (HB.out.cell (World.block_lt_of_cell? w _ hx148_0)).trans hx148_0
                      replace hx148_1 := (HB.out.cell (World.block_lt_of_cell? w _ hx148_1)).trans hx148_1
                      replace hx148_2 := (HB.out.cell (World.block_lt_of_cell? w _ hx148_2)).trans hx148_2
                      replace hx148_3 := (HB.out.cell (World.block_lt_of_cell? w _ hx148_3)).trans hx148_3
                      replace hx148_4 := (HB.out.cell (World.block_lt_of_cell? w _ hx148_4)).trans hx148_4
                      replace p148 := eq_true p148
                      replace q148 := eq_true q148
                      go_wp2_with (first | ((with_reducible refine gate_dst (N := 4) rfl ?_); refine box_event ?hg (N := 4) ?hd (cs := #[.int .i64 0, .int .i64 0, .int .i64 0, .int .i64 0, .int .i64 0]) (t := 94) ?hr ?_; (case hd => rfl); (case hg => rfl); (case hr => first | (go_simp; done) | (go_simp; rfl)); intro gb149 hg w12 hbox hb; have n0_ := Aside0.mk (below_step (by repeat (first | exact HB.out | apply below_alloc | apply pw_below_drewN | apply below_drew1)) hb); have n1_ := Aside0.mk (hbox); have n2_ := Aside0.mk ((by rw [hg]; exact (below_size (by repeat (first | exact HB.out | apply below_alloc | apply pw_below_drewN | apply below_drew1))) : w.heap.size ≤ gb149)); have n3_ := Aside0.mk ((by rw [hg]; exact (below_size (by repeat (first | exact HB.out | apply below_alloc | apply pw_below_drewN | apply below_drew1))) : w.heap.size ≤ gb149)); clear HB; have HB := n0_; have BK149 := n1_; have GW149 := n2_; have GE149 := n3_; clear n0_ n1_ n2_ n3_; clear hb hbox hg; have hcz13_0 : w12.cell? ⟨gb149, 0, none⟩ = some (.int .i64 0) := (blk_cell BK149.out 0).trans rfl; have hcz13_1 : w12.cell? ⟨gb149, 1, none⟩ = some (.int .i64 0) := (blk_cell BK149.out 1).trans rfl; have hcz13_2 : w12.cell? ⟨gb149, 2, none⟩ = some (.int .i64 0) := (blk_cell BK149.out 2).trans rfl; have hcz13_3 : w12.cell? ⟨gb149, 3, none⟩ = some (.int .i64 0) := (blk_cell BK149.out 3).trans rfl; have hcz13_4 : w12.cell? ⟨gb149, 4, none⟩ = some (.int .i64 0) := (blk_cell BK149.out 4).trans rfl; have hfz13_0 := blk_frozen BK149.out 0; have hfz13_1 := blk_frozen BK149.out 1; have hfz13_2 := blk_frozen BK149.out 2; have hfz13_3 := blk_frozen BK149.out 3; have hfz13_4 := blk_frozen BK149.out 4))
                      generalize hW : World.setCell _ ⟨gb149, 4, none⟩ _ = W9
                      have HB9 := Aside0.mk (show Below w.heap.size w W9 from by rw [← hW]; repeat (first | exact HB.out | refine below_set ?_ GE149.out))
                      have k3_0 : W9.cell? ⟨gb149, 0, none⟩ = some (.int .i64 ((rd_T94 l0 x7_1).f0)) := by rw [← hW]; repeat (with_reducible first | exact hcz13_0 | refine set_off_xactShowAuditx4b (by decide) ?_ | refine set_same_xactShowAuditx4b (u := .int .i64 0) ?_)
                      have k3_1 : W9.cell? ⟨gb149, 1, none⟩ = some (.int .i64 ((rd_T94 l0 x7_1).f1)) := by rw [← hW]; repeat (with_reducible first | exact hcz13_1 | refine set_off_xactShowAuditx4b (by decide) ?_ | refine set_same_xactShowAuditx4b (u := .int .i64 0) ?_)
                      have k3_2 : W9.cell? ⟨gb149, 2, none⟩ = some (.int .i64 ((rd_T94 l0 x7_1).f2)) := by rw [← hW]; repeat (with_reducible first | exact hcz13_2 | refine set_off_xactShowAuditx4b (by decide) ?_ | refine set_same_xactShowAuditx4b (u := .int .i64 0) ?_)
                      have k3_3 : W9.cell? ⟨gb149, 3, none⟩ = some (.int .i64 ((rd_T94 l0 x7_1).f3)) := by rw [← hW]; repeat (with_reducible first | exact hcz13_3 | refine set_off_xactShowAuditx4b (by decide) ?_ | refine set_same_xactShowAuditx4b (u := .int .i64 0) ?_)
                      have k3_4 : W9.cell? ⟨gb149, 4, none⟩ = some (.int .i64 ((rd_T94 l0 x7_1).f4)) := by rw [← hW]; repeat (with_reducible first | exact hcz13_4 | refine set_off_xactShowAuditx4b (by decide) ?_ | refine set_same_xactShowAuditx4b (u := .int .i64 0) ?_)
                      have pJ : 0 ≤ (ji8 : Int) := of_decide_eq_true (by first | (with_reducible assumption) | assumption)
                      have qJ : ji8 < (l0.length : Int) := of_decide_eq_true (by first | (with_reducible assumption) | assumption)
                      obtain ⟨adJ, eJ, hxJ_0, hxJ_1, hxJ_2, hxJ_3, hxJ_4⟩ := at_T94 HR0.out ji8 pJ qJ
                      obtain rfl : ad148 = adJ := (by injection eJ)
                      replace hxJ_0 := (HB9.out.cell (World.block_lt_of_cell? w _ hxJ_0)).trans hxJ_0
                      clear hxJ_1 hxJ_2 hxJ_3 hxJ_4
                      replace pJ := eq_true pJ
                      replace qJ := eq_true qJ
                      clear hx148_0 hx148_1 hx148_2 hx148_3 hx148_4 hW BK149 HB hcz13_0 hfz13_0 hcz13_1 hfz13_1 hcz13_2 hfz13_2 hcz13_3 hfz13_3 hcz13_4 hfz13_4
                      have HB := HB9
                      clear HB9
                      go_quiet (first | (go_at_call 62; (with_reducible refine (impl_within.calls ((rd_T94 l0 x7_1).f0) 1 100000 true _ A5.out).mono ?_); rintro e w' ⟨rfl, ⟨nd, rfl⟩⟩; (try first | exact ⟨rfl, _, World.drewN_drewN _ _ _⟩ | exact ⟨rfl, _, qA (World.drewN_drewN _ _ _)⟩)))
                      try go_wp2
                      go_ret
                      exact ⟨by first | rfl | (simp [errW_none, errW_some] <;> rfl) | (simp only [← hji8]; first | rfl | (simp [errW_none, errW_some] <;> rfl)) | (simp [*, errW_none, errW_some] <;> rfl), by repeat (first | (with_reducible first | exact HB.out | apply below_alloc | apply pw_below_drewN | apply below_drew1 | refine below_set ?_ GE149.out) | exact HB.out)⟩
                    · rw [if_neg c11] at H
                      have c11b0 : decide (((rd_T94 l0 x7_1).f0) < ((rd_T94 l0 (ji8)).f0)) = false := decide_eq_false c11
                      clear c11
                      replace H := Option.bind_eq_some_iff.mp H
                      obtain ⟨t152, A140, H⟩ := H
                      try dsimp only at H
                      have A14 := Aside0.mk A140
                      clear A140
                      by_cases c15 : t152 = true
                      · subst c15
                        rw [if_pos rfl] at H
                        replace H := Option.bind_eq_some_iff.mp H
                        obtain ⟨t153, A160, H⟩ := H
                        try dsimp only at H
                        have A16 := Aside0.mk A160
                        clear A160
                        by_cases c17 : t153 = true
                        · subst c17
                          rw [if_pos rfl] at H
                          replace H := Option.bind_eq_some_iff.mp H
                          obtain ⟨t154, A180, H⟩ := H
                          try dsimp only at H
                          have A18 := Aside0.mk A180
                          clear A180
                          by_cases c19 : t154 = true
                          · subst c19
                            rw [if_pos rfl] at H
                            replace H := Option.bind_eq_some_iff.mp H
                            obtain ⟨t155, A200, H⟩ := H
                            try dsimp only at H
                            have A20 := Aside0.mk A200
                            clear A200
                            by_cases c21 : t155 = true
                            · subst c21
                              rw [if_pos rfl] at H
                              have H' := Aside0.mk H
                              clear H
                              have p148 : 0 ≤ (x7_1 : Int) := of_decide_eq_true (by first | (with_reducible assumption) | assumption)
                              have q148 : x7_1 < (l0.length : Int) := of_decide_eq_true (by first | (with_reducible assumption) | assumption)
                              obtain ⟨ad148, e148, hx148_0, hx148_1, hx148_2, hx148_3, hx148_4⟩ := at_T94 HR0.out x7_1 p148 q148
                              cases e148
                              replace hx148_0 := (HB.out.cell (World.block_lt_of_cell? w _ hx148_0)).trans hx148_0
                              replace hx148_1 := (HB.out.cell (World.block_lt_of_cell? w _ hx148_1)).trans hx148_1
                              replace hx148_2 := (HB.out.cell (World.block_lt_of_cell? w _ hx148_2)).trans hx148_2
                              replace hx148_3 := (HB.out.cell (World.block_lt_of_cell? w _ hx148_3)).trans hx148_3
                              replace hx148_4 := (HB.out.cell (World.block_lt_of_cell? w _ hx148_4)).trans hx148_4
                              replace p148 := eq_true p148
                              replace q148 := eq_true q148
                              go_wp2_with (first | ((with_reducible refine gate_dst (N := 4) rfl ?_); refine box_event ?hg (N := 4) ?hd (cs := #[.int .i64 0, .int .i64 0, .int .i64 0, .int .i64 0, .int .i64 0]) (t := 94) ?hr ?_; (case hd => rfl); (case hg => rfl); (case hr => first | (go_simp; done) | (go_simp; rfl)); intro gb149 hg w22 hbox hb; have n0_ := Aside0.mk (below_step (by repeat (first | exact HB.out | apply below_alloc | apply pw_below_drewN | apply below_drew1)) hb); have n1_ := Aside0.mk (hbox); have n2_ := Aside0.mk ((by rw [hg]; exact (below_size (by repeat (first | exact HB.out | apply below_alloc | apply pw_below_drewN | apply below_drew1))) : w.heap.size ≤ gb149)); have n3_ := Aside0.mk ((by rw [hg]; exact (below_size (by repeat (first | exact HB.out | apply below_alloc | apply pw_below_drewN | apply below_drew1))) : w.heap.size ≤ gb149)); clear HB; have HB := n0_; have BK149 := n1_; have GW149 := n2_; have GE149 := n3_; clear n0_ n1_ n2_ n3_; clear hb hbox hg; have hcz23_0 : w22.cell? ⟨gb149, 0, none⟩ = some (.int .i64 0) := (blk_cell BK149.out 0).trans rfl; have hcz23_1 : w22.cell? ⟨gb149, 1, none⟩ = some (.int .i64 0) := (blk_cell BK149.out 1).trans rfl; have hcz23_2 : w22.cell? ⟨gb149, 2, none⟩ = some (.int .i64 0) := (blk_cell BK149.out 2).trans rfl; have hcz23_3 : w22.cell? ⟨gb149, 3, none⟩ = some (.int .i64 0) := (blk_cell BK149.out 3).trans rfl; have hcz23_4 : w22.cell? ⟨gb149, 4, none⟩ = some (.int .i64 0) := (blk_cell BK149.out 4).trans rfl; have hfz23_0 := blk_frozen BK149.out 0; have hfz23_1 := blk_frozen BK149.out 1; have hfz23_2 := blk_frozen BK149.out 2; have hfz23_3 := blk_frozen BK149.out 3; have hfz23_4 := blk_frozen BK149.out 4))
                              generalize hW : World.setCell _ ⟨gb149, 4, none⟩ _ = W9
                              have HB9 := Aside0.mk (show Below w.heap.size w W9 from by rw [← hW]; repeat (first | exact HB.out | refine below_set ?_ GE149.out))
                              have k3_0 : W9.cell? ⟨gb149, 0, none⟩ = some (.int .i64 ((rd_T94 l0 x7_1).f0)) := by rw [← hW]; repeat (with_reducible first | exact hcz23_0 | refine set_off_xactShowAuditx4b (by decide) ?_ | refine set_same_xactShowAuditx4b (u := .int .i64 0) ?_)
                              have k3_1 : W9.cell? ⟨gb149, 1, none⟩ = some (.int .i64 ((rd_T94 l0 x7_1).f1)) := by rw [← hW]; repeat (with_reducible first | exact hcz23_1 | refine set_off_xactShowAuditx4b (by decide) ?_ | refine set_same_xactShowAuditx4b (u := .int .i64 0) ?_)
                              have k3_2 : W9.cell? ⟨gb149, 2, none⟩ = some (.int .i64 ((rd_T94 l0 x7_1).f2)) := by rw [← hW]; repeat (with_reducible first | exact hcz23_2 | refine set_off_xactShowAuditx4b (by decide) ?_ | refine set_same_xactShowAuditx4b (u := .int .i64 0) ?_)
                              have k3_3 : W9.cell? ⟨gb149, 3, none⟩ = some (.int .i64 ((rd_T94 l0 x7_1).f3)) := by rw [← hW]; repeat (with_reducible first | exact hcz23_3 | refine set_off_xactShowAuditx4b (by decide) ?_ | refine set_same_xactShowAuditx4b (u := .int .i64 0) ?_)
                              have k3_4 : W9.cell? ⟨gb149, 4, none⟩ = some (.int .i64 ((rd_T94 l0 x7_1).f4)) := by rw [← hW]; repeat (with_reducible first | exact hcz23_4 | refine set_off_xactShowAuditx4b (by decide) ?_ | refine set_same_xactShowAuditx4b (u := .int .i64 0) ?_)
                              have pJ : 0 ≤ (ji8 : Int) := of_decide_eq_true (by first | (with_reducible assumption) | assumption)
                              have qJ : ji8 < (l0.length : Int) := of_decide_eq_true (by first | (with_reducible assumption) | assumption)
                              obtain ⟨adJ, eJ, hxJ_0, hxJ_1, hxJ_2, hxJ_3, hxJ_4⟩ := at_T94 HR0.out ji8 pJ qJ
                              obtain rfl : ad148 = adJ := (by injection eJ)
                              replace hxJ_0 := (HB9.out.cell (World.block_lt_of_cell? w _ hxJ_0)).trans hxJ_0
                              clear hxJ_1 hxJ_2 hxJ_3 hxJ_4
                              replace pJ := eq_true pJ
                              replace qJ := eq_true qJ
                              clear hx148_0 hx148_1 hx148_2 hx148_3 hx148_4 hW BK149 HB hcz23_0 hfz23_0 hcz23_1 hfz23_1 hcz23_2 hfz23_2 hcz23_3 hfz23_3 hcz23_4 hfz23_4
                              have HB := HB9
                              clear HB9
                              go_quiet (first | (go_at_call 62; (with_reducible refine (impl_within.calls ((rd_T94 l0 x7_1).f0) 1 100000 true _ A5.out).mono ?_); rintro e w' ⟨rfl, ⟨nd, rfl⟩⟩; (try first | exact ⟨rfl, _, World.drewN_drewN _ _ _⟩ | exact ⟨rfl, _, qA (World.drewN_drewN _ _ _)⟩)) | (go_at_call 62; (with_reducible refine (impl_within.calls ((rd_T94 l0 x7_1).f1) 1 3 true _ A14.out).mono ?_); rintro e w' ⟨rfl, ⟨nd, rfl⟩⟩; (try first | exact ⟨rfl, _, World.drewN_drewN _ _ _⟩ | exact ⟨rfl, _, qA (World.drewN_drewN _ _ _)⟩)) | (go_at_call 62; (with_reducible refine (impl_within.calls ((rd_T94 l0 x7_1).f2) 1 1000000 true _ A16.out).mono ?_); rintro e w' ⟨rfl, ⟨nd, rfl⟩⟩; (try first | exact ⟨rfl, _, World.drewN_drewN _ _ _⟩ | exact ⟨rfl, _, qA (World.drewN_drewN _ _ _)⟩)) | (go_at_call 62; (with_reducible refine (impl_within.calls ((rd_T94 l0 x7_1).f3) 1 22 true _ A18.out).mono ?_); rintro e w' ⟨rfl, ⟨nd, rfl⟩⟩; (try first | exact ⟨rfl, _, World.drewN_drewN _ _ _⟩ | exact ⟨rfl, _, qA (World.drewN_drewN _ _ _)⟩)) | (go_at_call 62; (with_reducible refine (impl_within.calls ((rd_T94 l0 x7_1).f4) 0 200 true _ A20.out).mono ?_); rintro e w' ⟨rfl, ⟨nd, rfl⟩⟩; (try first | exact ⟨rfl, _, World.drewN_drewN _ _ _⟩ | exact ⟨rfl, _, qA (World.drewN_drewN _ _ _)⟩)))
                              try go_wp2
                              go_roundg k1
                              case measure => have := HK1.out; omega
                              case rel => exact ⟨(wrap64 (x7_1 + 1)), (by first | rfl | (simp; done) | (simp [*]; done) | (simp; exact (fun (l : List UInt8) => (by cases l <;> rfl : l.isEmpty = !(l != []))) _)), H', ⟨by have := HK1.out; omega⟩, ⟨by repeat (first | (with_reducible first | exact HB.out | apply below_alloc | apply pw_below_drewN | apply below_drew1 | refine below_set ?_ GE149.out) | exact HB.out)⟩⟩
                            · replace c21 := Bool.eq_false_iff.mpr c21
                              subst c21
                              rw [if_neg (show ¬ (false = true) by decide)] at H
                              obtain rfl := Option.some.inj H
                              have p148 : 0 ≤ (x7_1 : Int) := of_decide_eq_true (by first | (with_reducible assumption) | assumption)
                              have q148 : x7_1 < (l0.length : Int) := of_decide_eq_true (by first | (with_reducible assumption) | assumption)
                              obtain ⟨ad148, e148, hx148_0, hx148_1, hx148_2, hx148_3, hx148_4⟩ := at_T94 HR0.out x7_1 p148 q148
                              cases e148
                              replace hx148_0 := (HB.out.cell (World.block_lt_of_cell? w _ hx148_0)).trans hx148_0
                              replace hx148_1 := (HB.out.cell (World.block_lt_of_cell? w _ hx148_1)).trans hx148_1
                              replace hx148_2 := (HB.out.cell (World.block_lt_of_cell? w _ hx148_2)).trans hx148_2
                              replace hx148_3 := (HB.out.cell (World.block_lt_of_cell? w _ hx148_3)).trans hx148_3
                              replace hx148_4 := (HB.out.cell (World.block_lt_of_cell? w _ hx148_4)).trans hx148_4
                              replace p148 := eq_true p148
                              replace q148 := eq_true q148
                              go_wp2_with (first | ((with_reducible refine gate_dst (N := 4) rfl ?_); refine box_event ?hg (N := 4) ?hd (cs := #[.int .i64 0, .int .i64 0, .int .i64 0, .int .i64 0, .int .i64 0]) (t := 94) ?hr ?_; (case hd => rfl); (case hg => rfl); (case hr => first | (go_simp; done) | (go_simp; rfl)); intro gb149 hg w24 hbox hb; have n0_ := Aside0.mk (below_step (by repeat (first | exact HB.out | apply below_alloc | apply pw_below_drewN | apply below_drew1)) hb); have n1_ := Aside0.mk (hbox); have n2_ := Aside0.mk ((by rw [hg]; exact (below_size (by repeat (first | exact HB.out | apply below_alloc | apply pw_below_drewN | apply below_drew1))) : w.heap.size ≤ gb149)); have n3_ := Aside0.mk ((by rw [hg]; exact (below_size (by repeat (first | exact HB.out | apply below_alloc | apply pw_below_drewN | apply below_drew1))) : w.heap.size ≤ gb149)); clear HB; have HB := n0_; have BK149 := n1_; have GW149 := n2_; have GE149 := n3_; clear n0_ n1_ n2_ n3_; clear hb hbox hg; have hcz25_0 : w24.cell? ⟨gb149, 0, none⟩ = some (.int .i64 0) := (blk_cell BK149.out 0).trans rfl; have hcz25_1 : w24.cell? ⟨gb149, 1, none⟩ = some (.int .i64 0) := (blk_cell BK149.out 1).trans rfl; have hcz25_2 : w24.cell? ⟨gb149, 2, none⟩ = some (.int .i64 0) := (blk_cell BK149.out 2).trans rfl; have hcz25_3 : w24.cell? ⟨gb149, 3, none⟩ = some (.int .i64 0) := (blk_cell BK149.out 3).trans rfl; have hcz25_4 : w24.cell? ⟨gb149, 4, none⟩ = some (.int .i64 0) := (blk_cell BK149.out 4).trans rfl; have hfz25_0 := blk_frozen BK149.out 0; have hfz25_1 := blk_frozen BK149.out 1; have hfz25_2 := blk_frozen BK149.out 2; have hfz25_3 := blk_frozen BK149.out 3; have hfz25_4 := blk_frozen BK149.out 4))
                              generalize hW : World.setCell _ ⟨gb149, 4, none⟩ _ = W9
                              have HB9 := Aside0.mk (show Below w.heap.size w W9 from by rw [← hW]; repeat (first | exact HB.out | refine below_set ?_ GE149.out))
                              have k3_0 : W9.cell? ⟨gb149, 0, none⟩ = some (.int .i64 ((rd_T94 l0 x7_1).f0)) := by rw [← hW]; repeat (with_reducible first | exact hcz25_0 | refine set_off_xactShowAuditx4b (by decide) ?_ | refine set_same_xactShowAuditx4b (u := .int .i64 0) ?_)
                              have k3_1 : W9.cell? ⟨gb149, 1, none⟩ = some (.int .i64 ((rd_T94 l0 x7_1).f1)) := by rw [← hW]; repeat (with_reducible first | exact hcz25_1 | refine set_off_xactShowAuditx4b (by decide) ?_ | refine set_same_xactShowAuditx4b (u := .int .i64 0) ?_)
                              have k3_2 : W9.cell? ⟨gb149, 2, none⟩ = some (.int .i64 ((rd_T94 l0 x7_1).f2)) := by rw [← hW]; repeat (with_reducible first | exact hcz25_2 | refine set_off_xactShowAuditx4b (by decide) ?_ | refine set_same_xactShowAuditx4b (u := .int .i64 0) ?_)
                              have k3_3 : W9.cell? ⟨gb149, 3, none⟩ = some (.int .i64 ((rd_T94 l0 x7_1).f3)) := by rw [← hW]; repeat (with_reducible first | exact hcz25_3 | refine set_off_xactShowAuditx4b (by decide) ?_ | refine set_same_xactShowAuditx4b (u := .int .i64 0) ?_)
                              have k3_4 : W9.cell? ⟨gb149, 4, none⟩ = some (.int .i64 ((rd_T94 l0 x7_1).f4)) := by rw [← hW]; repeat (with_reducible first | exact hcz25_4 | refine set_off_xactShowAuditx4b (by decide) ?_ | refine set_same_xactShowAuditx4b (u := .int .i64 0) ?_)
                              have pJ : 0 ≤ (ji8 : Int) := of_decide_eq_true (by first | (with_reducible assumption) | assumption)
                              have qJ : ji8 < (l0.length : Int) := of_decide_eq_true (by first | (with_reducible assumption) | assumption)
                              obtain ⟨adJ, eJ, hxJ_0, hxJ_1, hxJ_2, hxJ_3, hxJ_4⟩ := at_T94 HR0.out ji8 pJ qJ
                              obtain rfl : ad148 = adJ := (by injection eJ)
                              replace hxJ_0 := (HB9.out.cell (World.block_lt_of_cell? w _ hxJ_0)).trans hxJ_0
                              clear hxJ_1 hxJ_2 hxJ_3 hxJ_4
                              replace pJ := eq_true pJ
                              replace qJ := eq_true qJ
                              clear hx148_0 hx148_1 hx148_2 hx148_3 hx148_4 hW BK149 HB hcz25_0 hfz25_0 hcz25_1 hfz25_1 hcz25_2 hfz25_2 hcz25_3 hfz25_3 hcz25_4 hfz25_4
                              have HB := HB9
                              clear HB9
                              go_quiet (first | (go_at_call 62; (with_reducible refine (impl_within.calls ((rd_T94 l0 x7_1).f0) 1 100000 true _ A5.out).mono ?_); rintro e w' ⟨rfl, ⟨nd, rfl⟩⟩; (try first | exact ⟨rfl, _, World.drewN_drewN _ _ _⟩ | exact ⟨rfl, _, qA (World.drewN_drewN _ _ _)⟩)) | (go_at_call 62; (with_reducible refine (impl_within.calls ((rd_T94 l0 x7_1).f1) 1 3 true _ A14.out).mono ?_); rintro e w' ⟨rfl, ⟨nd, rfl⟩⟩; (try first | exact ⟨rfl, _, World.drewN_drewN _ _ _⟩ | exact ⟨rfl, _, qA (World.drewN_drewN _ _ _)⟩)) | (go_at_call 62; (with_reducible refine (impl_within.calls ((rd_T94 l0 x7_1).f2) 1 1000000 true _ A16.out).mono ?_); rintro e w' ⟨rfl, ⟨nd, rfl⟩⟩; (try first | exact ⟨rfl, _, World.drewN_drewN _ _ _⟩ | exact ⟨rfl, _, qA (World.drewN_drewN _ _ _)⟩)) | (go_at_call 62; (with_reducible refine (impl_within.calls ((rd_T94 l0 x7_1).f3) 1 22 true _ A18.out).mono ?_); rintro e w' ⟨rfl, ⟨nd, rfl⟩⟩; (try first | exact ⟨rfl, _, World.drewN_drewN _ _ _⟩ | exact ⟨rfl, _, qA (World.drewN_drewN _ _ _)⟩)) | (go_at_call 62; (with_reducible refine (impl_within.calls ((rd_T94 l0 x7_1).f4) 0 200 false _ A20.out).mono ?_); rintro e w' ⟨rfl, ⟨nd, rfl⟩⟩; (try first | exact ⟨rfl, _, World.drewN_drewN _ _ _⟩ | exact ⟨rfl, _, qA (World.drewN_drewN _ _ _)⟩)))
                              try go_wp2
                              go_ret
                              exact ⟨by first | rfl | (simp [errW_none, errW_some] <;> rfl) | (simp only [← hji8]; first | rfl | (simp [errW_none, errW_some] <;> rfl)) | (simp [*, errW_none, errW_some] <;> rfl), by repeat (first | (with_reducible first | exact HB.out | apply below_alloc | apply pw_below_drewN | apply below_drew1 | refine below_set ?_ GE149.out) | exact HB.out)⟩
                          · replace c19 := Bool.eq_false_iff.mpr c19
                            subst c19
                            rw [if_neg (show ¬ (false = true) by decide)] at H
                            obtain rfl := Option.some.inj H
                            have p148 : 0 ≤ (x7_1 : Int) := of_decide_eq_true (by first | (with_reducible assumption) | assumption)
                            have q148 : x7_1 < (l0.length : Int) := of_decide_eq_true (by first | (with_reducible assumption) | assumption)
                            obtain ⟨ad148, e148, hx148_0, hx148_1, hx148_2, hx148_3, hx148_4⟩ := at_T94 HR0.out x7_1 p148 q148
                            cases e148
                            replace hx148_0 := (HB.out.cell (World.block_lt_of_cell? w _ hx148_0)).trans hx148_0
                            replace hx148_1 := (HB.out.cell (World.block_lt_of_cell? w _ hx148_1)).trans hx148_1
                            replace hx148_2 := (HB.out.cell (World.block_lt_of_cell? w _ hx148_2)).trans hx148_2
                            replace hx148_3 := (HB.out.cell (World.block_lt_of_cell? w _ hx148_3)).trans hx148_3
                            replace hx148_4 := (HB.out.cell (World.block_lt_of_cell? w _ hx148_4)).trans hx148_4
                            replace p148 := eq_true p148
                            replace q148 := eq_true q148
                            go_wp2_with (first | ((with_reducible refine gate_dst (N := 4) rfl ?_); refine box_event ?hg (N := 4) ?hd (cs := #[.int .i64 0, .int .i64 0, .int .i64 0, .int .i64 0, .int .i64 0]) (t := 94) ?hr ?_; (case hd => rfl); (case hg => rfl); (case hr => first | (go_simp; done) | (go_simp; rfl)); intro gb149 hg w26 hbox hb; have n0_ := Aside0.mk (below_step (by repeat (first | exact HB.out | apply below_alloc | apply pw_below_drewN | apply below_drew1)) hb); have n1_ := Aside0.mk (hbox); have n2_ := Aside0.mk ((by rw [hg]; exact (below_size (by repeat (first | exact HB.out | apply below_alloc | apply pw_below_drewN | apply below_drew1))) : w.heap.size ≤ gb149)); have n3_ := Aside0.mk ((by rw [hg]; exact (below_size (by repeat (first | exact HB.out | apply below_alloc | apply pw_below_drewN | apply below_drew1))) : w.heap.size ≤ gb149)); clear HB; have HB := n0_; have BK149 := n1_; have GW149 := n2_; have GE149 := n3_; clear n0_ n1_ n2_ n3_; clear hb hbox hg; have hcz27_0 : w26.cell? ⟨gb149, 0, none⟩ = some (.int .i64 0) := (blk_cell BK149.out 0).trans rfl; have hcz27_1 : w26.cell? ⟨gb149, 1, none⟩ = some (.int .i64 0) := (blk_cell BK149.out 1).trans rfl; have hcz27_2 : w26.cell? ⟨gb149, 2, none⟩ = some (.int .i64 0) := (blk_cell BK149.out 2).trans rfl; have hcz27_3 : w26.cell? ⟨gb149, 3, none⟩ = some (.int .i64 0) := (blk_cell BK149.out 3).trans rfl; have hcz27_4 : w26.cell? ⟨gb149, 4, none⟩ = some (.int .i64 0) := (blk_cell BK149.out 4).trans rfl; have hfz27_0 := blk_frozen BK149.out 0; have hfz27_1 := blk_frozen BK149.out 1; have hfz27_2 := blk_frozen BK149.out 2; have hfz27_3 := blk_frozen BK149.out 3; have hfz27_4 := blk_frozen BK149.out 4))
                            generalize hW : World.setCell _ ⟨gb149, 4, none⟩ _ = W9
                            have HB9 := Aside0.mk (show Below w.heap.size w W9 from by rw [← hW]; repeat (first | exact HB.out | refine below_set ?_ GE149.out))
                            have k3_0 : W9.cell? ⟨gb149, 0, none⟩ = some (.int .i64 ((rd_T94 l0 x7_1).f0)) := by rw [← hW]; repeat (with_reducible first | exact hcz27_0 | refine set_off_xactShowAuditx4b (by decide) ?_ | refine set_same_xactShowAuditx4b (u := .int .i64 0) ?_)
                            have k3_1 : W9.cell? ⟨gb149, 1, none⟩ = some (.int .i64 ((rd_T94 l0 x7_1).f1)) := by rw [← hW]; repeat (with_reducible first | exact hcz27_1 | refine set_off_xactShowAuditx4b (by decide) ?_ | refine set_same_xactShowAuditx4b (u := .int .i64 0) ?_)
                            have k3_2 : W9.cell? ⟨gb149, 2, none⟩ = some (.int .i64 ((rd_T94 l0 x7_1).f2)) := by rw [← hW]; repeat (with_reducible first | exact hcz27_2 | refine set_off_xactShowAuditx4b (by decide) ?_ | refine set_same_xactShowAuditx4b (u := .int .i64 0) ?_)
                            have k3_3 : W9.cell? ⟨gb149, 3, none⟩ = some (.int .i64 ((rd_T94 l0 x7_1).f3)) := by rw [← hW]; repeat (with_reducible first | exact hcz27_3 | refine set_off_xactShowAuditx4b (by decide) ?_ | refine set_same_xactShowAuditx4b (u := .int .i64 0) ?_)
                            have k3_4 : W9.cell? ⟨gb149, 4, none⟩ = some (.int .i64 ((rd_T94 l0 x7_1).f4)) := by rw [← hW]; repeat (with_reducible first | exact hcz27_4 | refine set_off_xactShowAuditx4b (by decide) ?_ | refine set_same_xactShowAuditx4b (u := .int .i64 0) ?_)
                            have pJ : 0 ≤ (ji8 : Int) := of_decide_eq_true (by first | (with_reducible assumption) | assumption)
                            have qJ : ji8 < (l0.length : Int) := of_decide_eq_true (by first | (with_reducible assumption) | assumption)
                            obtain ⟨adJ, eJ, hxJ_0, hxJ_1, hxJ_2, hxJ_3, hxJ_4⟩ := at_T94 HR0.out ji8 pJ qJ
                            obtain rfl : ad148 = adJ := (by injection eJ)
                            replace hxJ_0 := (HB9.out.cell (World.block_lt_of_cell? w _ hxJ_0)).trans hxJ_0
                            clear hxJ_1 hxJ_2 hxJ_3 hxJ_4
                            replace pJ := eq_true pJ
                            replace qJ := eq_true qJ
                            clear hx148_0 hx148_1 hx148_2 hx148_3 hx148_4 hW BK149 HB hcz27_0 hfz27_0 hcz27_1 hfz27_1 hcz27_2 hfz27_2 hcz27_3 hfz27_3 hcz27_4 hfz27_4
                            have HB := HB9
                            clear HB9
                            go_quiet (first | (go_at_call 62; (with_reducible refine (impl_within.calls ((rd_T94 l0 x7_1).f0) 1 100000 true _ A5.out).mono ?_); rintro e w' ⟨rfl, ⟨nd, rfl⟩⟩; (try first | exact ⟨rfl, _, World.drewN_drewN _ _ _⟩ | exact ⟨rfl, _, qA (World.drewN_drewN _ _ _)⟩)) | (go_at_call 62; (with_reducible refine (impl_within.calls ((rd_T94 l0 x7_1).f1) 1 3 true _ A14.out).mono ?_); rintro e w' ⟨rfl, ⟨nd, rfl⟩⟩; (try first | exact ⟨rfl, _, World.drewN_drewN _ _ _⟩ | exact ⟨rfl, _, qA (World.drewN_drewN _ _ _)⟩)) | (go_at_call 62; (with_reducible refine (impl_within.calls ((rd_T94 l0 x7_1).f2) 1 1000000 true _ A16.out).mono ?_); rintro e w' ⟨rfl, ⟨nd, rfl⟩⟩; (try first | exact ⟨rfl, _, World.drewN_drewN _ _ _⟩ | exact ⟨rfl, _, qA (World.drewN_drewN _ _ _)⟩)) | (go_at_call 62; (with_reducible refine (impl_within.calls ((rd_T94 l0 x7_1).f3) 1 22 false _ A18.out).mono ?_); rintro e w' ⟨rfl, ⟨nd, rfl⟩⟩; (try first | exact ⟨rfl, _, World.drewN_drewN _ _ _⟩ | exact ⟨rfl, _, qA (World.drewN_drewN _ _ _)⟩)))
                            try go_wp2
                            go_ret
                            exact ⟨by first | rfl | (simp [errW_none, errW_some] <;> rfl) | (simp only [← hji8]; first | rfl | (simp [errW_none, errW_some] <;> rfl)) | (simp [*, errW_none, errW_some] <;> rfl), by repeat (first | (with_reducible first | exact HB.out | apply below_alloc | apply pw_below_drewN | apply below_drew1 | refine below_set ?_ GE149.out) | exact HB.out)⟩
                        · replace c17 := Bool.eq_false_iff.mpr c17
                          subst c17
                          rw [if_neg (show ¬ (false = true) by decide)] at H
                          obtain rfl := Option.some.inj H
                          have p148 : 0 ≤ (x7_1 : Int) := of_decide_eq_true (by first | (with_reducible assumption) | assumption)
                          have q148 : x7_1 < (l0.length : Int) := of_decide_eq_true (by first | (with_reducible assumption) | assumption)
                          obtain ⟨ad148, e148, hx148_0, hx148_1, hx148_2, hx148_3, hx148_4⟩ := at_T94 HR0.out x7_1 p148 q148
                          cases e148
                          replace hx148_0 := (HB.out.cell (World.block_lt_of_cell? w _ hx148_0)).trans hx148_0
                          replace hx148_1 := (HB.out.cell (World.block_lt_of_cell? w _ hx148_1)).trans hx148_1
                          replace hx148_2 := (HB.out.cell (World.block_lt_of_cell? w _ hx148_2)).trans hx148_2
                          replace hx148_3 := (HB.out.cell (World.block_lt_of_cell? w _ hx148_3)).trans hx148_3
                          replace hx148_4 := (HB.out.cell (World.block_lt_of_cell? w _ hx148_4)).trans hx148_4
                          replace p148 := eq_true p148
                          replace q148 := eq_true q148
                          go_wp2_with (first | ((with_reducible refine gate_dst (N := 4) rfl ?_); refine box_event ?hg (N := 4) ?hd (cs := #[.int .i64 0, .int .i64 0, .int .i64 0, .int .i64 0, .int .i64 0]) (t := 94) ?hr ?_; (case hd => rfl); (case hg => rfl); (case hr => first | (go_simp; done) | (go_simp; rfl)); intro gb149 hg w28 hbox hb; have n0_ := Aside0.mk (below_step (by repeat (first | exact HB.out | apply below_alloc | apply pw_below_drewN | apply below_drew1)) hb); have n1_ := Aside0.mk (hbox); have n2_ := Aside0.mk ((by rw [hg]; exact (below_size (by repeat (first | exact HB.out | apply below_alloc | apply pw_below_drewN | apply below_drew1))) : w.heap.size ≤ gb149)); have n3_ := Aside0.mk ((by rw [hg]; exact (below_size (by repeat (first | exact HB.out | apply below_alloc | apply pw_below_drewN | apply below_drew1))) : w.heap.size ≤ gb149)); clear HB; have HB := n0_; have BK149 := n1_; have GW149 := n2_; have GE149 := n3_; clear n0_ n1_ n2_ n3_; clear hb hbox hg; have hcz29_0 : w28.cell? ⟨gb149, 0, none⟩ = some (.int .i64 0) := (blk_cell BK149.out 0).trans rfl; have hcz29_1 : w28.cell? ⟨gb149, 1, none⟩ = some (.int .i64 0) := (blk_cell BK149.out 1).trans rfl; have hcz29_2 : w28.cell? ⟨gb149, 2, none⟩ = some (.int .i64 0) := (blk_cell BK149.out 2).trans rfl; have hcz29_3 : w28.cell? ⟨gb149, 3, none⟩ = some (.int .i64 0) := (blk_cell BK149.out 3).trans rfl; have hcz29_4 : w28.cell? ⟨gb149, 4, none⟩ = some (.int .i64 0) := (blk_cell BK149.out 4).trans rfl; have hfz29_0 := blk_frozen BK149.out 0; have hfz29_1 := blk_frozen BK149.out 1; have hfz29_2 := blk_frozen BK149.out 2; have hfz29_3 := blk_frozen BK149.out 3; have hfz29_4 := blk_frozen BK149.out 4))
                          generalize hW : World.setCell _ ⟨gb149, 4, none⟩ _ = W9
                          have HB9 := Aside0.mk (show Below w.heap.size w W9 from by rw [← hW]; repeat (first | exact HB.out | refine below_set ?_ GE149.out))
                          have k3_0 : W9.cell? ⟨gb149, 0, none⟩ = some (.int .i64 ((rd_T94 l0 x7_1).f0)) := by rw [← hW]; repeat (with_reducible first | exact hcz29_0 | refine set_off_xactShowAuditx4b (by decide) ?_ | refine set_same_xactShowAuditx4b (u := .int .i64 0) ?_)
                          have k3_1 : W9.cell? ⟨gb149, 1, none⟩ = some (.int .i64 ((rd_T94 l0 x7_1).f1)) := by rw [← hW]; repeat (with_reducible first | exact hcz29_1 | refine set_off_xactShowAuditx4b (by decide) ?_ | refine set_same_xactShowAuditx4b (u := .int .i64 0) ?_)
                          have k3_2 : W9.cell? ⟨gb149, 2, none⟩ = some (.int .i64 ((rd_T94 l0 x7_1).f2)) := by rw [← hW]; repeat (with_reducible first | exact hcz29_2 | refine set_off_xactShowAuditx4b (by decide) ?_ | refine set_same_xactShowAuditx4b (u := .int .i64 0) ?_)
                          have k3_3 : W9.cell? ⟨gb149, 3, none⟩ = some (.int .i64 ((rd_T94 l0 x7_1).f3)) := by rw [← hW]; repeat (with_reducible first | exact hcz29_3 | refine set_off_xactShowAuditx4b (by decide) ?_ | refine set_same_xactShowAuditx4b (u := .int .i64 0) ?_)
                          have k3_4 : W9.cell? ⟨gb149, 4, none⟩ = some (.int .i64 ((rd_T94 l0 x7_1).f4)) := by rw [← hW]; repeat (with_reducible first | exact hcz29_4 | refine set_off_xactShowAuditx4b (by decide) ?_ | refine set_same_xactShowAuditx4b (u := .int .i64 0) ?_)
                          have pJ : 0 ≤ (ji8 : Int) := of_decide_eq_true (by first | (with_reducible assumption) | assumption)
                          have qJ : ji8 < (l0.length : Int) := of_decide_eq_true (by first | (with_reducible assumption) | assumption)
                          obtain ⟨adJ, eJ, hxJ_0, hxJ_1, hxJ_2, hxJ_3, hxJ_4⟩ := at_T94 HR0.out ji8 pJ qJ
                          obtain rfl : ad148 = adJ := (by injection eJ)
                          replace hxJ_0 := (HB9.out.cell (World.block_lt_of_cell? w _ hxJ_0)).trans hxJ_0
                          clear hxJ_1 hxJ_2 hxJ_3 hxJ_4
                          replace pJ := eq_true pJ
                          replace qJ := eq_true qJ
                          clear hx148_0 hx148_1 hx148_2 hx148_3 hx148_4 hW BK149 HB hcz29_0 hfz29_0 hcz29_1 hfz29_1 hcz29_2 hfz29_2 hcz29_3 hfz29_3 hcz29_4 hfz29_4
                          have HB := HB9
                          clear HB9
                          go_quiet (first | (go_at_call 62; (with_reducible refine (impl_within.calls ((rd_T94 l0 x7_1).f0) 1 100000 true _ A5.out).mono ?_); rintro e w' ⟨rfl, ⟨nd, rfl⟩⟩; (try first | exact ⟨rfl, _, World.drewN_drewN _ _ _⟩ | exact ⟨rfl, _, qA (World.drewN_drewN _ _ _)⟩)) | (go_at_call 62; (with_reducible refine (impl_within.calls ((rd_T94 l0 x7_1).f1) 1 3 true _ A14.out).mono ?_); rintro e w' ⟨rfl, ⟨nd, rfl⟩⟩; (try first | exact ⟨rfl, _, World.drewN_drewN _ _ _⟩ | exact ⟨rfl, _, qA (World.drewN_drewN _ _ _)⟩)) | (go_at_call 62; (with_reducible refine (impl_within.calls ((rd_T94 l0 x7_1).f2) 1 1000000 false _ A16.out).mono ?_); rintro e w' ⟨rfl, ⟨nd, rfl⟩⟩; (try first | exact ⟨rfl, _, World.drewN_drewN _ _ _⟩ | exact ⟨rfl, _, qA (World.drewN_drewN _ _ _)⟩)))
                          try go_wp2
                          go_ret
                          exact ⟨by first | rfl | (simp [errW_none, errW_some] <;> rfl) | (simp only [← hji8]; first | rfl | (simp [errW_none, errW_some] <;> rfl)) | (simp [*, errW_none, errW_some] <;> rfl), by repeat (first | (with_reducible first | exact HB.out | apply below_alloc | apply pw_below_drewN | apply below_drew1 | refine below_set ?_ GE149.out) | exact HB.out)⟩
                      · replace c15 := Bool.eq_false_iff.mpr c15
                        subst c15
                        rw [if_neg (show ¬ (false = true) by decide)] at H
                        obtain rfl := Option.some.inj H
                        have p148 : 0 ≤ (x7_1 : Int) := of_decide_eq_true (by first | (with_reducible assumption) | assumption)
                        have q148 : x7_1 < (l0.length : Int) := of_decide_eq_true (by first | (with_reducible assumption) | assumption)
                        obtain ⟨ad148, e148, hx148_0, hx148_1, hx148_2, hx148_3, hx148_4⟩ := at_T94 HR0.out x7_1 p148 q148
                        cases e148
                        replace hx148_0 := (HB.out.cell (World.block_lt_of_cell? w _ hx148_0)).trans hx148_0
                        replace hx148_1 := (HB.out.cell (World.block_lt_of_cell? w _ hx148_1)).trans hx148_1
                        replace hx148_2 := (HB.out.cell (World.block_lt_of_cell? w _ hx148_2)).trans hx148_2
                        replace hx148_3 := (HB.out.cell (World.block_lt_of_cell? w _ hx148_3)).trans hx148_3
                        replace hx148_4 := (HB.out.cell (World.block_lt_of_cell? w _ hx148_4)).trans hx148_4
                        replace p148 := eq_true p148
                        replace q148 := eq_true q148
                        go_wp2_with (first | ((with_reducible refine gate_dst (N := 4) rfl ?_); refine box_event ?hg (N := 4) ?hd (cs := #[.int .i64 0, .int .i64 0, .int .i64 0, .int .i64 0, .int .i64 0]) (t := 94) ?hr ?_; (case hd => rfl); (case hg => rfl); (case hr => first | (go_simp; done) | (go_simp; rfl)); intro gb149 hg w30 hbox hb; have n0_ := Aside0.mk (below_step (by repeat (first | exact HB.out | apply below_alloc | apply pw_below_drewN | apply below_drew1)) hb); have n1_ := Aside0.mk (hbox); have n2_ := Aside0.mk ((by rw [hg]; exact (below_size (by repeat (first | exact HB.out | apply below_alloc | apply pw_below_drewN | apply below_drew1))) : w.heap.size ≤ gb149)); have n3_ := Aside0.mk ((by rw [hg]; exact (below_size (by repeat (first | exact HB.out | apply below_alloc | apply pw_below_drewN | apply below_drew1))) : w.heap.size ≤ gb149)); clear HB; have HB := n0_; have BK149 := n1_; have GW149 := n2_; have GE149 := n3_; clear n0_ n1_ n2_ n3_; clear hb hbox hg; have hcz31_0 : w30.cell? ⟨gb149, 0, none⟩ = some (.int .i64 0) := (blk_cell BK149.out 0).trans rfl; have hcz31_1 : w30.cell? ⟨gb149, 1, none⟩ = some (.int .i64 0) := (blk_cell BK149.out 1).trans rfl; have hcz31_2 : w30.cell? ⟨gb149, 2, none⟩ = some (.int .i64 0) := (blk_cell BK149.out 2).trans rfl; have hcz31_3 : w30.cell? ⟨gb149, 3, none⟩ = some (.int .i64 0) := (blk_cell BK149.out 3).trans rfl; have hcz31_4 : w30.cell? ⟨gb149, 4, none⟩ = some (.int .i64 0) := (blk_cell BK149.out 4).trans rfl; have hfz31_0 := blk_frozen BK149.out 0; have hfz31_1 := blk_frozen BK149.out 1; have hfz31_2 := blk_frozen BK149.out 2; have hfz31_3 := blk_frozen BK149.out 3; have hfz31_4 := blk_frozen BK149.out 4))
                        generalize hW : World.setCell _ ⟨gb149, 4, none⟩ _ = W9
                        have HB9 := Aside0.mk (show Below w.heap.size w W9 from by rw [← hW]; repeat (first | exact HB.out | refine below_set ?_ GE149.out))
                        have k3_0 : W9.cell? ⟨gb149, 0, none⟩ = some (.int .i64 ((rd_T94 l0 x7_1).f0)) := by rw [← hW]; repeat (with_reducible first | exact hcz31_0 | refine set_off_xactShowAuditx4b (by decide) ?_ | refine set_same_xactShowAuditx4b (u := .int .i64 0) ?_)
                        have k3_1 : W9.cell? ⟨gb149, 1, none⟩ = some (.int .i64 ((rd_T94 l0 x7_1).f1)) := by rw [← hW]; repeat (with_reducible first | exact hcz31_1 | refine set_off_xactShowAuditx4b (by decide) ?_ | refine set_same_xactShowAuditx4b (u := .int .i64 0) ?_)
                        have k3_2 : W9.cell? ⟨gb149, 2, none⟩ = some (.int .i64 ((rd_T94 l0 x7_1).f2)) := by rw [← hW]; repeat (with_reducible first | exact hcz31_2 | refine set_off_xactShowAuditx4b (by decide) ?_ | refine set_same_xactShowAuditx4b (u := .int .i64 0) ?_)
                        have k3_3 : W9.cell? ⟨gb149, 3, none⟩ = some (.int .i64 ((rd_T94 l0 x7_1).f3)) := by rw [← hW]; repeat (with_reducible first | exact hcz31_3 | refine set_off_xactShowAuditx4b (by decide) ?_ | refine set_same_xactShowAuditx4b (u := .int .i64 0) ?_)
                        have k3_4 : W9.cell? ⟨gb149, 4, none⟩ = some (.int .i64 ((rd_T94 l0 x7_1).f4)) := by rw [← hW]; repeat (with_reducible first | exact hcz31_4 | refine set_off_xactShowAuditx4b (by decide) ?_ | refine set_same_xactShowAuditx4b (u := .int .i64 0) ?_)
                        have pJ : 0 ≤ (ji8 : Int) := of_decide_eq_true (by first | (with_reducible assumption) | assumption)
                        have qJ : ji8 < (l0.length : Int) := of_decide_eq_true (by first | (with_reducible assumption) | assumption)
                        obtain ⟨adJ, eJ, hxJ_0, hxJ_1, hxJ_2, hxJ_3, hxJ_4⟩ := at_T94 HR0.out ji8 pJ qJ
                        obtain rfl : ad148 = adJ := (by injection eJ)
                        replace hxJ_0 := (HB9.out.cell (World.block_lt_of_cell? w _ hxJ_0)).trans hxJ_0
                        clear hxJ_1 hxJ_2 hxJ_3 hxJ_4
                        replace pJ := eq_true pJ
                        replace qJ := eq_true qJ
                        clear hx148_0 hx148_1 hx148_2 hx148_3 hx148_4 hW BK149 HB hcz31_0 hfz31_0 hcz31_1 hfz31_1 hcz31_2 hfz31_2 hcz31_3 hfz31_3 hcz31_4 hfz31_4
                        have HB := HB9
                        clear HB9
                        go_quiet (first | (go_at_call 62; (with_reducible refine (impl_within.calls ((rd_T94 l0 x7_1).f0) 1 100000 true _ A5.out).mono ?_); rintro e w' ⟨rfl, ⟨nd, rfl⟩⟩; (try first | exact ⟨rfl, _, World.drewN_drewN _ _ _⟩ | exact ⟨rfl, _, qA (World.drewN_drewN _ _ _)⟩)) | (go_at_call 62; (with_reducible refine (impl_within.calls ((rd_T94 l0 x7_1).f1) 1 3 false _ A14.out).mono ?_); rintro e w' ⟨rfl, ⟨nd, rfl⟩⟩; (try first | exact ⟨rfl, _, World.drewN_drewN _ _ _⟩ | exact ⟨rfl, _, qA (World.drewN_drewN _ _ _)⟩)))
                        try go_wp2
                        go_ret
                        exact ⟨by first | rfl | (simp [errW_none, errW_some] <;> rfl) | (simp only [← hji8]; first | rfl | (simp [errW_none, errW_some] <;> rfl)) | (simp [*, errW_none, errW_some] <;> rfl), by repeat (first | (with_reducible first | exact HB.out | apply below_alloc | apply pw_below_drewN | apply below_drew1 | refine below_set ?_ GE149.out) | exact HB.out)⟩
                  · rw [if_neg c10] at H
                    exact absurd H (by simp)
                · rw [if_neg c9] at H
                  exact absurd H (by simp)
              · rw [if_neg c7] at H
                have c7b0 : decide (0 < x7_1) = false := decide_eq_false c7
                clear c7
                replace H := Option.bind_eq_some_iff.mp H
                obtain ⟨t156, A320, H⟩ := H
                try dsimp only at H
                have A32 := Aside0.mk A320
                clear A320
                by_cases c33 : t156 = true
                · subst c33
                  rw [if_pos rfl] at H
                  replace H := Option.bind_eq_some_iff.mp H
                  obtain ⟨t157, A340, H⟩ := H
                  try dsimp only at H
                  have A34 := Aside0.mk A340
                  clear A340
                  by_cases c35 : t157 = true
                  · subst c35
                    rw [if_pos rfl] at H
                    replace H := Option.bind_eq_some_iff.mp H
                    obtain ⟨t158, A360, H⟩ := H
                    try dsimp only at H
                    have A36 := Aside0.mk A360
                    clear A360
                    by_cases c37 : t158 = true
                    · subst c37
                      rw [if_pos rfl] at H
                      replace H := Option.bind_eq_some_iff.mp H
                      obtain ⟨t159, A380, H⟩ := H
                      try dsimp only at H
                      have A38 := Aside0.mk A380
                      clear A380
                      by_cases c39 : t159 = true
                      · subst c39
                        rw [if_pos rfl] at H
                        have H' := Aside0.mk H
                        clear H
                        have p148 : 0 ≤ (x7_1 : Int) := of_decide_eq_true (by first | (with_reducible assumption) | assumption)
                        have q148 : x7_1 < (l0.length : Int) := of_decide_eq_true (by first | (with_reducible assumption) | assumption)
                        obtain ⟨ad148, e148, hx148_0, hx148_1, hx148_2, hx148_3, hx148_4⟩ := at_T94 HR0.out x7_1 p148 q148
                        cases e148
                        replace hx148_0 := (HB.out.cell (World.block_lt_of_cell? w _ hx148_0)).trans hx148_0
                        replace hx148_1 := (HB.out.cell (World.block_lt_of_cell? w _ hx148_1)).trans hx148_1
                        replace hx148_2 := (HB.out.cell (World.block_lt_of_cell? w _ hx148_2)).trans hx148_2
                        replace hx148_3 := (HB.out.cell (World.block_lt_of_cell? w _ hx148_3)).trans hx148_3
                        replace hx148_4 := (HB.out.cell (World.block_lt_of_cell? w _ hx148_4)).trans hx148_4
                        replace p148 := eq_true p148
                        replace q148 := eq_true q148
                        go_wp2_with (first | ((with_reducible refine gate_dst (N := 4) rfl ?_); refine box_event ?hg (N := 4) ?hd (cs := #[.int .i64 0, .int .i64 0, .int .i64 0, .int .i64 0, .int .i64 0]) (t := 94) ?hr ?_; (case hd => rfl); (case hg => rfl); (case hr => first | (go_simp; done) | (go_simp; rfl)); intro gb149 hg w40 hbox hb; have n0_ := Aside0.mk (below_step (by repeat (first | exact HB.out | apply below_alloc | apply pw_below_drewN | apply below_drew1)) hb); have n1_ := Aside0.mk (hbox); have n2_ := Aside0.mk ((by rw [hg]; exact (below_size (by repeat (first | exact HB.out | apply below_alloc | apply pw_below_drewN | apply below_drew1))) : w.heap.size ≤ gb149)); have n3_ := Aside0.mk ((by rw [hg]; exact (below_size (by repeat (first | exact HB.out | apply below_alloc | apply pw_below_drewN | apply below_drew1))) : w.heap.size ≤ gb149)); clear HB; have HB := n0_; have BK149 := n1_; have GW149 := n2_; have GE149 := n3_; clear n0_ n1_ n2_ n3_; clear hb hbox hg; have hcz41_0 : w40.cell? ⟨gb149, 0, none⟩ = some (.int .i64 0) := (blk_cell BK149.out 0).trans rfl; have hcz41_1 : w40.cell? ⟨gb149, 1, none⟩ = some (.int .i64 0) := (blk_cell BK149.out 1).trans rfl; have hcz41_2 : w40.cell? ⟨gb149, 2, none⟩ = some (.int .i64 0) := (blk_cell BK149.out 2).trans rfl; have hcz41_3 : w40.cell? ⟨gb149, 3, none⟩ = some (.int .i64 0) := (blk_cell BK149.out 3).trans rfl; have hcz41_4 : w40.cell? ⟨gb149, 4, none⟩ = some (.int .i64 0) := (blk_cell BK149.out 4).trans rfl; have hfz41_0 := blk_frozen BK149.out 0; have hfz41_1 := blk_frozen BK149.out 1; have hfz41_2 := blk_frozen BK149.out 2; have hfz41_3 := blk_frozen BK149.out 3; have hfz41_4 := blk_frozen BK149.out 4))
                        generalize hW : World.setCell _ ⟨gb149, 4, none⟩ _ = W9
                        have HB9 := Aside0.mk (show Below w.heap.size w W9 from by rw [← hW]; repeat (first | exact HB.out | refine below_set ?_ GE149.out))
                        have k3_0 : W9.cell? ⟨gb149, 0, none⟩ = some (.int .i64 ((rd_T94 l0 x7_1).f0)) := by rw [← hW]; repeat (with_reducible first | exact hcz41_0 | refine set_off_xactShowAuditx4b (by decide) ?_ | refine set_same_xactShowAuditx4b (u := .int .i64 0) ?_)
                        have k3_1 : W9.cell? ⟨gb149, 1, none⟩ = some (.int .i64 ((rd_T94 l0 x7_1).f1)) := by rw [← hW]; repeat (with_reducible first | exact hcz41_1 | refine set_off_xactShowAuditx4b (by decide) ?_ | refine set_same_xactShowAuditx4b (u := .int .i64 0) ?_)
                        have k3_2 : W9.cell? ⟨gb149, 2, none⟩ = some (.int .i64 ((rd_T94 l0 x7_1).f2)) := by rw [← hW]; repeat (with_reducible first | exact hcz41_2 | refine set_off_xactShowAuditx4b (by decide) ?_ | refine set_same_xactShowAuditx4b (u := .int .i64 0) ?_)
                        have k3_3 : W9.cell? ⟨gb149, 3, none⟩ = some (.int .i64 ((rd_T94 l0 x7_1).f3)) := by rw [← hW]; repeat (with_reducible first | exact hcz41_3 | refine set_off_xactShowAuditx4b (by decide) ?_ | refine set_same_xactShowAuditx4b (u := .int .i64 0) ?_)
                        have k3_4 : W9.cell? ⟨gb149, 4, none⟩ = some (.int .i64 ((rd_T94 l0 x7_1).f4)) := by rw [← hW]; repeat (with_reducible first | exact hcz41_4 | refine set_off_xactShowAuditx4b (by decide) ?_ | refine set_same_xactShowAuditx4b (u := .int .i64 0) ?_)
                        clear hx148_0 hx148_1 hx148_2 hx148_3 hx148_4 hW BK149 HB hcz41_0 hfz41_0 hcz41_1 hfz41_1 hcz41_2 hfz41_2 hcz41_3 hfz41_3 hcz41_4 hfz41_4
                        have HB := HB9
                        clear HB9
                        go_quiet (first | (go_at_call 62; (with_reducible refine (impl_within.calls ((rd_T94 l0 x7_1).f0) 1 100000 true _ A5.out).mono ?_); rintro e w' ⟨rfl, ⟨nd, rfl⟩⟩; (try first | exact ⟨rfl, _, World.drewN_drewN _ _ _⟩ | exact ⟨rfl, _, qA (World.drewN_drewN _ _ _)⟩)) | (go_at_call 62; (with_reducible refine (impl_within.calls ((rd_T94 l0 x7_1).f1) 1 3 true _ A32.out).mono ?_); rintro e w' ⟨rfl, ⟨nd, rfl⟩⟩; (try first | exact ⟨rfl, _, World.drewN_drewN _ _ _⟩ | exact ⟨rfl, _, qA (World.drewN_drewN _ _ _)⟩)) | (go_at_call 62; (with_reducible refine (impl_within.calls ((rd_T94 l0 x7_1).f2) 1 1000000 true _ A34.out).mono ?_); rintro e w' ⟨rfl, ⟨nd, rfl⟩⟩; (try first | exact ⟨rfl, _, World.drewN_drewN _ _ _⟩ | exact ⟨rfl, _, qA (World.drewN_drewN _ _ _)⟩)) | (go_at_call 62; (with_reducible refine (impl_within.calls ((rd_T94 l0 x7_1).f3) 1 22 true _ A36.out).mono ?_); rintro e w' ⟨rfl, ⟨nd, rfl⟩⟩; (try first | exact ⟨rfl, _, World.drewN_drewN _ _ _⟩ | exact ⟨rfl, _, qA (World.drewN_drewN _ _ _)⟩)) | (go_at_call 62; (with_reducible refine (impl_within.calls ((rd_T94 l0 x7_1).f4) 0 200 true _ A38.out).mono ?_); rintro e w' ⟨rfl, ⟨nd, rfl⟩⟩; (try first | exact ⟨rfl, _, World.drewN_drewN _ _ _⟩ | exact ⟨rfl, _, qA (World.drewN_drewN _ _ _)⟩)))
                        try go_wp2
                        go_roundg k1
                        case measure => have := HK1.out; omega
                        case rel => exact ⟨(wrap64 (x7_1 + 1)), (by first | rfl | (simp; done) | (simp [*]; done) | (simp; exact (fun (l : List UInt8) => (by cases l <;> rfl : l.isEmpty = !(l != []))) _)), H', ⟨by have := HK1.out; omega⟩, ⟨by repeat (first | (with_reducible first | exact HB.out | apply below_alloc | apply pw_below_drewN | apply below_drew1 | refine below_set ?_ GE149.out) | exact HB.out)⟩⟩
                      · replace c39 := Bool.eq_false_iff.mpr c39
                        subst c39
                        rw [if_neg (show ¬ (false = true) by decide)] at H
                        obtain rfl := Option.some.inj H
                        have p148 : 0 ≤ (x7_1 : Int) := of_decide_eq_true (by first | (with_reducible assumption) | assumption)
                        have q148 : x7_1 < (l0.length : Int) := of_decide_eq_true (by first | (with_reducible assumption) | assumption)
                        obtain ⟨ad148, e148, hx148_0, hx148_1, hx148_2, hx148_3, hx148_4⟩ := at_T94 HR0.out x7_1 p148 q148
                        cases e148
                        replace hx148_0 := (HB.out.cell (World.block_lt_of_cell? w _ hx148_0)).trans hx148_0
                        replace hx148_1 := (HB.out.cell (World.block_lt_of_cell? w _ hx148_1)).trans hx148_1
                        replace hx148_2 := (HB.out.cell (World.block_lt_of_cell? w _ hx148_2)).trans hx148_2
                        replace hx148_3 := (HB.out.cell (World.block_lt_of_cell? w _ hx148_3)).trans hx148_3
                        replace hx148_4 := (HB.out.cell (World.block_lt_of_cell? w _ hx148_4)).trans hx148_4
                        replace p148 := eq_true p148
                        replace q148 := eq_true q148
                        go_wp2_with (first | ((with_reducible refine gate_dst (N := 4) rfl ?_); refine box_event ?hg (N := 4) ?hd (cs := #[.int .i64 0, .int .i64 0, .int .i64 0, .int .i64 0, .int .i64 0]) (t := 94) ?hr ?_; (case hd => rfl); (case hg => rfl); (case hr => first | (go_simp; done) | (go_simp; rfl)); intro gb149 hg w42 hbox hb; have n0_ := Aside0.mk (below_step (by repeat (first | exact HB.out | apply below_alloc | apply pw_below_drewN | apply below_drew1)) hb); have n1_ := Aside0.mk (hbox); have n2_ := Aside0.mk ((by rw [hg]; exact (below_size (by repeat (first | exact HB.out | apply below_alloc | apply pw_below_drewN | apply below_drew1))) : w.heap.size ≤ gb149)); have n3_ := Aside0.mk ((by rw [hg]; exact (below_size (by repeat (first | exact HB.out | apply below_alloc | apply pw_below_drewN | apply below_drew1))) : w.heap.size ≤ gb149)); clear HB; have HB := n0_; have BK149 := n1_; have GW149 := n2_; have GE149 := n3_; clear n0_ n1_ n2_ n3_; clear hb hbox hg; have hcz43_0 : w42.cell? ⟨gb149, 0, none⟩ = some (.int .i64 0) := (blk_cell BK149.out 0).trans rfl; have hcz43_1 : w42.cell? ⟨gb149, 1, none⟩ = some (.int .i64 0) := (blk_cell BK149.out 1).trans rfl; have hcz43_2 : w42.cell? ⟨gb149, 2, none⟩ = some (.int .i64 0) := (blk_cell BK149.out 2).trans rfl; have hcz43_3 : w42.cell? ⟨gb149, 3, none⟩ = some (.int .i64 0) := (blk_cell BK149.out 3).trans rfl; have hcz43_4 : w42.cell? ⟨gb149, 4, none⟩ = some (.int .i64 0) := (blk_cell BK149.out 4).trans rfl; have hfz43_0 := blk_frozen BK149.out 0; have hfz43_1 := blk_frozen BK149.out 1; have hfz43_2 := blk_frozen BK149.out 2; have hfz43_3 := blk_frozen BK149.out 3; have hfz43_4 := blk_frozen BK149.out 4))
                        generalize hW : World.setCell _ ⟨gb149, 4, none⟩ _ = W9
                        have HB9 := Aside0.mk (show Below w.heap.size w W9 from by rw [← hW]; repeat (first | exact HB.out | refine below_set ?_ GE149.out))
                        have k3_0 : W9.cell? ⟨gb149, 0, none⟩ = some (.int .i64 ((rd_T94 l0 x7_1).f0)) := by rw [← hW]; repeat (with_reducible first | exact hcz43_0 | refine set_off_xactShowAuditx4b (by decide) ?_ | refine set_same_xactShowAuditx4b (u := .int .i64 0) ?_)
                        have k3_1 : W9.cell? ⟨gb149, 1, none⟩ = some (.int .i64 ((rd_T94 l0 x7_1).f1)) := by rw [← hW]; repeat (with_reducible first | exact hcz43_1 | refine set_off_xactShowAuditx4b (by decide) ?_ | refine set_same_xactShowAuditx4b (u := .int .i64 0) ?_)
                        have k3_2 : W9.cell? ⟨gb149, 2, none⟩ = some (.int .i64 ((rd_T94 l0 x7_1).f2)) := by rw [← hW]; repeat (with_reducible first | exact hcz43_2 | refine set_off_xactShowAuditx4b (by decide) ?_ | refine set_same_xactShowAuditx4b (u := .int .i64 0) ?_)
                        have k3_3 : W9.cell? ⟨gb149, 3, none⟩ = some (.int .i64 ((rd_T94 l0 x7_1).f3)) := by rw [← hW]; repeat (with_reducible first | exact hcz43_3 | refine set_off_xactShowAuditx4b (by decide) ?_ | refine set_same_xactShowAuditx4b (u := .int .i64 0) ?_)
                        have k3_4 : W9.cell? ⟨gb149, 4, none⟩ = some (.int .i64 ((rd_T94 l0 x7_1).f4)) := by rw [← hW]; repeat (with_reducible first | exact hcz43_4 | refine set_off_xactShowAuditx4b (by decide) ?_ | refine set_same_xactShowAuditx4b (u := .int .i64 0) ?_)
                        clear hx148_0 hx148_1 hx148_2 hx148_3 hx148_4 hW BK149 HB hcz43_0 hfz43_0 hcz43_1 hfz43_1 hcz43_2 hfz43_2 hcz43_3 hfz43_3 hcz43_4 hfz43_4
                        have HB := HB9
                        clear HB9
                        go_quiet (first | (go_at_call 62; (with_reducible refine (impl_within.calls ((rd_T94 l0 x7_1).f0) 1 100000 true _ A5.out).mono ?_); rintro e w' ⟨rfl, ⟨nd, rfl⟩⟩; (try first | exact ⟨rfl, _, World.drewN_drewN _ _ _⟩ | exact ⟨rfl, _, qA (World.drewN_drewN _ _ _)⟩)) | (go_at_call 62; (with_reducible refine (impl_within.calls ((rd_T94 l0 x7_1).f1) 1 3 true _ A32.out).mono ?_); rintro e w' ⟨rfl, ⟨nd, rfl⟩⟩; (try first | exact ⟨rfl, _, World.drewN_drewN _ _ _⟩ | exact ⟨rfl, _, qA (World.drewN_drewN _ _ _)⟩)) | (go_at_call 62; (with_reducible refine (impl_within.calls ((rd_T94 l0 x7_1).f2) 1 1000000 true _ A34.out).mono ?_); rintro e w' ⟨rfl, ⟨nd, rfl⟩⟩; (try first | exact ⟨rfl, _, World.drewN_drewN _ _ _⟩ | exact ⟨rfl, _, qA (World.drewN_drewN _ _ _)⟩)) | (go_at_call 62; (with_reducible refine (impl_within.calls ((rd_T94 l0 x7_1).f3) 1 22 true _ A36.out).mono ?_); rintro e w' ⟨rfl, ⟨nd, rfl⟩⟩; (try first | exact ⟨rfl, _, World.drewN_drewN _ _ _⟩ | exact ⟨rfl, _, qA (World.drewN_drewN _ _ _)⟩)) | (go_at_call 62; (with_reducible refine (impl_within.calls ((rd_T94 l0 x7_1).f4) 0 200 false _ A38.out).mono ?_); rintro e w' ⟨rfl, ⟨nd, rfl⟩⟩; (try first | exact ⟨rfl, _, World.drewN_drewN _ _ _⟩ | exact ⟨rfl, _, qA (World.drewN_drewN _ _ _)⟩)))
                        try go_wp2
                        go_ret
                        exact ⟨by first | rfl | (simp [errW_none, errW_some] <;> rfl) | (simp [*, errW_none, errW_some] <;> rfl), by repeat (first | (with_reducible first | exact HB.out | apply below_alloc | apply pw_below_drewN | apply below_drew1 | refine below_set ?_ GE149.out) | exact HB.out)⟩
                    · replace c37 := Bool.eq_false_iff.mpr c37
                      subst c37
                      rw [if_neg (show ¬ (false = true) by decide)] at H
                      obtain rfl := Option.some.inj H
                      have p148 : 0 ≤ (x7_1 : Int) := of_decide_eq_true (by first | (with_reducible assumption) | assumption)
                      have q148 : x7_1 < (l0.length : Int) := of_decide_eq_true (by first | (with_reducible assumption) | assumption)
                      obtain ⟨ad148, e148, hx148_0, hx148_1, hx148_2, hx148_3, hx148_4⟩ := at_T94 HR0.out x7_1 p148 q148
                      cases e148
                      replace hx148_0 := (HB.out.cell (World.block_lt_of_cell? w _ hx148_0)).trans hx148_0
                      replace hx148_1 := (HB.out.cell (World.block_lt_of_cell? w _ hx148_1)).trans hx148_1
                      replace hx148_2 := (HB.out.cell (World.block_lt_of_cell? w _ hx148_2)).trans hx148_2
                      replace hx148_3 := (HB.out.cell (World.block_lt_of_cell? w _ hx148_3)).trans hx148_3
                      replace hx148_4 := (HB.out.cell (World.block_lt_of_cell? w _ hx148_4)).trans hx148_4
                      replace p148 := eq_true p148
                      replace q148 := eq_true q148
                      go_wp2_with (first | ((with_reducible refine gate_dst (N := 4) rfl ?_); refine box_event ?hg (N := 4) ?hd (cs := #[.int .i64 0, .int .i64 0, .int .i64 0, .int .i64 0, .int .i64 0]) (t := 94) ?hr ?_; (case hd => rfl); (case hg => rfl); (case hr => first | (go_simp; done) | (go_simp; rfl)); intro gb149 hg w44 hbox hb; have n0_ := Aside0.mk (below_step (by repeat (first | exact HB.out | apply below_alloc | apply pw_below_drewN | apply below_drew1)) hb); have n1_ := Aside0.mk (hbox); have n2_ := Aside0.mk ((by rw [hg]; exact (below_size (by repeat (first | exact HB.out | apply below_alloc | apply pw_below_drewN | apply below_drew1))) : w.heap.size ≤ gb149)); have n3_ := Aside0.mk ((by rw [hg]; exact (below_size (by repeat (first | exact HB.out | apply below_alloc | apply pw_below_drewN | apply below_drew1))) : w.heap.size ≤ gb149)); clear HB; have HB := n0_; have BK149 := n1_; have GW149 := n2_; have GE149 := n3_; clear n0_ n1_ n2_ n3_; clear hb hbox hg; have hcz45_0 : w44.cell? ⟨gb149, 0, none⟩ = some (.int .i64 0) := (blk_cell BK149.out 0).trans rfl; have hcz45_1 : w44.cell? ⟨gb149, 1, none⟩ = some (.int .i64 0) := (blk_cell BK149.out 1).trans rfl; have hcz45_2 : w44.cell? ⟨gb149, 2, none⟩ = some (.int .i64 0) := (blk_cell BK149.out 2).trans rfl; have hcz45_3 : w44.cell? ⟨gb149, 3, none⟩ = some (.int .i64 0) := (blk_cell BK149.out 3).trans rfl; have hcz45_4 : w44.cell? ⟨gb149, 4, none⟩ = some (.int .i64 0) := (blk_cell BK149.out 4).trans rfl; have hfz45_0 := blk_frozen BK149.out 0; have hfz45_1 := blk_frozen BK149.out 1; have hfz45_2 := blk_frozen BK149.out 2; have hfz45_3 := blk_frozen BK149.out 3; have hfz45_4 := blk_frozen BK149.out 4))
                      generalize hW : World.setCell _ ⟨gb149, 4, none⟩ _ = W9
                      have HB9 := Aside0.mk (show Below w.heap.size w W9 from by rw [← hW]; repeat (first | exact HB.out | refine below_set ?_ GE149.out))
                      have k3_0 : W9.cell? ⟨gb149, 0, none⟩ = some (.int .i64 ((rd_T94 l0 x7_1).f0)) := by rw [← hW]; repeat (with_reducible first | exact hcz45_0 | refine set_off_xactShowAuditx4b (by decide) ?_ | refine set_same_xactShowAuditx4b (u := .int .i64 0) ?_)
                      have k3_1 : W9.cell? ⟨gb149, 1, none⟩ = some (.int .i64 ((rd_T94 l0 x7_1).f1)) := by rw [← hW]; repeat (with_reducible first | exact hcz45_1 | refine set_off_xactShowAuditx4b (by decide) ?_ | refine set_same_xactShowAuditx4b (u := .int .i64 0) ?_)
                      have k3_2 : W9.cell? ⟨gb149, 2, none⟩ = some (.int .i64 ((rd_T94 l0 x7_1).f2)) := by rw [← hW]; repeat (with_reducible first | exact hcz45_2 | refine set_off_xactShowAuditx4b (by decide) ?_ | refine set_same_xactShowAuditx4b (u := .int .i64 0) ?_)
                      have k3_3 : W9.cell? ⟨gb149, 3, none⟩ = some (.int .i64 ((rd_T94 l0 x7_1).f3)) := by rw [← hW]; repeat (with_reducible first | exact hcz45_3 | refine set_off_xactShowAuditx4b (by decide) ?_ | refine set_same_xactShowAuditx4b (u := .int .i64 0) ?_)
                      have k3_4 : W9.cell? ⟨gb149, 4, none⟩ = some (.int .i64 ((rd_T94 l0 x7_1).f4)) := by rw [← hW]; repeat (with_reducible first | exact hcz45_4 | refine set_off_xactShowAuditx4b (by decide) ?_ | refine set_same_xactShowAuditx4b (u := .int .i64 0) ?_)
                      clear hx148_0 hx148_1 hx148_2 hx148_3 hx148_4 hW BK149 HB hcz45_0 hfz45_0 hcz45_1 hfz45_1 hcz45_2 hfz45_2 hcz45_3 hfz45_3 hcz45_4 hfz45_4
                      have HB := HB9
                      clear HB9
                      go_quiet (first | (go_at_call 62; (with_reducible refine (impl_within.calls ((rd_T94 l0 x7_1).f0) 1 100000 true _ A5.out).mono ?_); rintro e w' ⟨rfl, ⟨nd, rfl⟩⟩; (try first | exact ⟨rfl, _, World.drewN_drewN _ _ _⟩ | exact ⟨rfl, _, qA (World.drewN_drewN _ _ _)⟩)) | (go_at_call 62; (with_reducible refine (impl_within.calls ((rd_T94 l0 x7_1).f1) 1 3 true _ A32.out).mono ?_); rintro e w' ⟨rfl, ⟨nd, rfl⟩⟩; (try first | exact ⟨rfl, _, World.drewN_drewN _ _ _⟩ | exact ⟨rfl, _, qA (World.drewN_drewN _ _ _)⟩)) | (go_at_call 62; (with_reducible refine (impl_within.calls ((rd_T94 l0 x7_1).f2) 1 1000000 true _ A34.out).mono ?_); rintro e w' ⟨rfl, ⟨nd, rfl⟩⟩; (try first | exact ⟨rfl, _, World.drewN_drewN _ _ _⟩ | exact ⟨rfl, _, qA (World.drewN_drewN _ _ _)⟩)) | (go_at_call 62; (with_reducible refine (impl_within.calls ((rd_T94 l0 x7_1).f3) 1 22 false _ A36.out).mono ?_); rintro e w' ⟨rfl, ⟨nd, rfl⟩⟩; (try first | exact ⟨rfl, _, World.drewN_drewN _ _ _⟩ | exact ⟨rfl, _, qA (World.drewN_drewN _ _ _)⟩)))
                      try go_wp2
                      go_ret
                      exact ⟨by first | rfl | (simp [errW_none, errW_some] <;> rfl) | (simp [*, errW_none, errW_some] <;> rfl), by repeat (first | (with_reducible first | exact HB.out | apply below_alloc | apply pw_below_drewN | apply below_drew1 | refine below_set ?_ GE149.out) | exact HB.out)⟩
                  · replace c35 := Bool.eq_false_iff.mpr c35
                    subst c35
                    rw [if_neg (show ¬ (false = true) by decide)] at H
                    obtain rfl := Option.some.inj H
                    have p148 : 0 ≤ (x7_1 : Int) := of_decide_eq_true (by first | (with_reducible assumption) | assumption)
                    have q148 : x7_1 < (l0.length : Int) := of_decide_eq_true (by first | (with_reducible assumption) | assumption)
                    obtain ⟨ad148, e148, hx148_0, hx148_1, hx148_2, hx148_3, hx148_4⟩ := at_T94 HR0.out x7_1 p148 q148
                    cases e148
                    replace hx148_0 := (HB.out.cell (World.block_lt_of_cell? w _ hx148_0)).trans hx148_0
                    replace hx148_1 := (HB.out.cell (World.block_lt_of_cell? w _ hx148_1)).trans hx148_1
                    replace hx148_2 := (HB.out.cell (World.block_lt_of_cell? w _ hx148_2)).trans hx148_2
                    replace hx148_3 := (HB.out.cell (World.block_lt_of_cell? w _ hx148_3)).trans hx148_3
                    replace hx148_4 := (HB.out.cell (World.block_lt_of_cell? w _ hx148_4)).trans hx148_4
                    replace p148 := eq_true p148
                    replace q148 := eq_true q148
                    go_wp2_with (first | ((with_reducible refine gate_dst (N := 4) rfl ?_); refine box_event ?hg (N := 4) ?hd (cs := #[.int .i64 0, .int .i64 0, .int .i64 0, .int .i64 0, .int .i64 0]) (t := 94) ?hr ?_; (case hd => rfl); (case hg => rfl); (case hr => first | (go_simp; done) | (go_simp; rfl)); intro gb149 hg w46 hbox hb; have n0_ := Aside0.mk (below_step (by repeat (first | exact HB.out | apply below_alloc | apply pw_below_drewN | apply below_drew1)) hb); have n1_ := Aside0.mk (hbox); have n2_ := Aside0.mk ((by rw [hg]; exact (below_size (by repeat (first | exact HB.out | apply below_alloc | apply pw_below_drewN | apply below_drew1))) : w.heap.size ≤ gb149)); have n3_ := Aside0.mk ((by rw [hg]; exact (below_size (by repeat (first | exact HB.out | apply below_alloc | apply pw_below_drewN | apply below_drew1))) : w.heap.size ≤ gb149)); clear HB; have HB := n0_; have BK149 := n1_; have GW149 := n2_; have GE149 := n3_; clear n0_ n1_ n2_ n3_; clear hb hbox hg; have hcz47_0 : w46.cell? ⟨gb149, 0, none⟩ = some (.int .i64 0) := (blk_cell BK149.out 0).trans rfl; have hcz47_1 : w46.cell? ⟨gb149, 1, none⟩ = some (.int .i64 0) := (blk_cell BK149.out 1).trans rfl; have hcz47_2 : w46.cell? ⟨gb149, 2, none⟩ = some (.int .i64 0) := (blk_cell BK149.out 2).trans rfl; have hcz47_3 : w46.cell? ⟨gb149, 3, none⟩ = some (.int .i64 0) := (blk_cell BK149.out 3).trans rfl; have hcz47_4 : w46.cell? ⟨gb149, 4, none⟩ = some (.int .i64 0) := (blk_cell BK149.out 4).trans rfl; have hfz47_0 := blk_frozen BK149.out 0; have hfz47_1 := blk_frozen BK149.out 1; have hfz47_2 := blk_frozen BK149.out 2; have hfz47_3 := blk_frozen BK149.out 3; have hfz47_4 := blk_frozen BK149.out 4))
                    generalize hW : World.setCell _ ⟨gb149, 4, none⟩ _ = W9
                    have HB9 := Aside0.mk (show Below w.heap.size w W9 from by rw [← hW]; repeat (first | exact HB.out | refine below_set ?_ GE149.out))
                    have k3_0 : W9.cell? ⟨gb149, 0, none⟩ = some (.int .i64 ((rd_T94 l0 x7_1).f0)) := by rw [← hW]; repeat (with_reducible first | exact hcz47_0 | refine set_off_xactShowAuditx4b (by decide) ?_ | refine set_same_xactShowAuditx4b (u := .int .i64 0) ?_)
                    have k3_1 : W9.cell? ⟨gb149, 1, none⟩ = some (.int .i64 ((rd_T94 l0 x7_1).f1)) := by rw [← hW]; repeat (with_reducible first | exact hcz47_1 | refine set_off_xactShowAuditx4b (by decide) ?_ | refine set_same_xactShowAuditx4b (u := .int .i64 0) ?_)
                    have k3_2 : W9.cell? ⟨gb149, 2, none⟩ = some (.int .i64 ((rd_T94 l0 x7_1).f2)) := by rw [← hW]; repeat (with_reducible first | exact hcz47_2 | refine set_off_xactShowAuditx4b (by decide) ?_ | refine set_same_xactShowAuditx4b (u := .int .i64 0) ?_)
                    have k3_3 : W9.cell? ⟨gb149, 3, none⟩ = some (.int .i64 ((rd_T94 l0 x7_1).f3)) := by rw [← hW]; repeat (with_reducible first | exact hcz47_3 | refine set_off_xactShowAuditx4b (by decide) ?_ | refine set_same_xactShowAuditx4b (u := .int .i64 0) ?_)
                    have k3_4 : W9.cell? ⟨gb149, 4, none⟩ = some (.int .i64 ((rd_T94 l0 x7_1).f4)) := by rw [← hW]; repeat (with_reducible first | exact hcz47_4 | refine set_off_xactShowAuditx4b (by decide) ?_ | refine set_same_xactShowAuditx4b (u := .int .i64 0) ?_)
                    clear hx148_0 hx148_1 hx148_2 hx148_3 hx148_4 hW BK149 HB hcz47_0 hfz47_0 hcz47_1 hfz47_1 hcz47_2 hfz47_2 hcz47_3 hfz47_3 hcz47_4 hfz47_4
                    have HB := HB9
                    clear HB9
                    go_quiet (first | (go_at_call 62; (with_reducible refine (impl_within.calls ((rd_T94 l0 x7_1).f0) 1 100000 true _ A5.out).mono ?_); rintro e w' ⟨rfl, ⟨nd, rfl⟩⟩; (try first | exact ⟨rfl, _, World.drewN_drewN _ _ _⟩ | exact ⟨rfl, _, qA (World.drewN_drewN _ _ _)⟩)) | (go_at_call 62; (with_reducible refine (impl_within.calls ((rd_T94 l0 x7_1).f1) 1 3 true _ A32.out).mono ?_); rintro e w' ⟨rfl, ⟨nd, rfl⟩⟩; (try first | exact ⟨rfl, _, World.drewN_drewN _ _ _⟩ | exact ⟨rfl, _, qA (World.drewN_drewN _ _ _)⟩)) | (go_at_call 62; (with_reducible refine (impl_within.calls ((rd_T94 l0 x7_1).f2) 1 1000000 false _ A34.out).mono ?_); rintro e w' ⟨rfl, ⟨nd, rfl⟩⟩; (try first | exact ⟨rfl, _, World.drewN_drewN _ _ _⟩ | exact ⟨rfl, _, qA (World.drewN_drewN _ _ _)⟩)))
                    try go_wp2
                    go_ret
                    exact ⟨by first | rfl | (simp [errW_none, errW_some] <;> rfl) | (simp [*, errW_none, errW_some] <;> rfl), by repeat (first | (with_reducible first | exact HB.out | apply below_alloc | apply pw_below_drewN | apply below_drew1 | refine below_set ?_ GE149.out) | exact HB.out)⟩
                · replace c33 := Bool.eq_false_iff.mpr c33
                  subst c33
                  rw [if_neg (show ¬ (false = true) by decide)] at H
                  obtain rfl := Option.some.inj H
                  have p148 : 0 ≤ (x7_1 : Int) := of_decide_eq_true (by first | (with_reducible assumption) | assumption)
                  have q148 : x7_1 < (l0.length : Int) := of_decide_eq_true (by first | (with_reducible assumption) | assumption)
                  obtain ⟨ad148, e148, hx148_0, hx148_1, hx148_2, hx148_3, hx148_4⟩ := at_T94 HR0.out x7_1 p148 q148
                  cases e148
                  replace hx148_0 := (HB.out.cell (World.block_lt_of_cell? w _ hx148_0)).trans hx148_0
                  replace hx148_1 := (HB.out.cell (World.block_lt_of_cell? w _ hx148_1)).trans hx148_1
                  replace hx148_2 := (HB.out.cell (World.block_lt_of_cell? w _ hx148_2)).trans hx148_2
                  replace hx148_3 := (HB.out.cell (World.block_lt_of_cell? w _ hx148_3)).trans hx148_3
                  replace hx148_4 := (HB.out.cell (World.block_lt_of_cell? w _ hx148_4)).trans hx148_4
                  replace p148 := eq_true p148
                  replace q148 := eq_true q148
                  go_wp2_with (first | ((with_reducible refine gate_dst (N := 4) rfl ?_); refine box_event ?hg (N := 4) ?hd (cs := #[.int .i64 0, .int .i64 0, .int .i64 0, .int .i64 0, .int .i64 0]) (t := 94) ?hr ?_; (case hd => rfl); (case hg => rfl); (case hr => first | (go_simp; done) | (go_simp; rfl)); intro gb149 hg w48 hbox hb; have n0_ := Aside0.mk (below_step (by repeat (first | exact HB.out | apply below_alloc | apply pw_below_drewN | apply below_drew1)) hb); have n1_ := Aside0.mk (hbox); have n2_ := Aside0.mk ((by rw [hg]; exact (below_size (by repeat (first | exact HB.out | apply below_alloc | apply pw_below_drewN | apply below_drew1))) : w.heap.size ≤ gb149)); have n3_ := Aside0.mk ((by rw [hg]; exact (below_size (by repeat (first | exact HB.out | apply below_alloc | apply pw_below_drewN | apply below_drew1))) : w.heap.size ≤ gb149)); clear HB; have HB := n0_; have BK149 := n1_; have GW149 := n2_; have GE149 := n3_; clear n0_ n1_ n2_ n3_; clear hb hbox hg; have hcz49_0 : w48.cell? ⟨gb149, 0, none⟩ = some (.int .i64 0) := (blk_cell BK149.out 0).trans rfl; have hcz49_1 : w48.cell? ⟨gb149, 1, none⟩ = some (.int .i64 0) := (blk_cell BK149.out 1).trans rfl; have hcz49_2 : w48.cell? ⟨gb149, 2, none⟩ = some (.int .i64 0) := (blk_cell BK149.out 2).trans rfl; have hcz49_3 : w48.cell? ⟨gb149, 3, none⟩ = some (.int .i64 0) := (blk_cell BK149.out 3).trans rfl; have hcz49_4 : w48.cell? ⟨gb149, 4, none⟩ = some (.int .i64 0) := (blk_cell BK149.out 4).trans rfl; have hfz49_0 := blk_frozen BK149.out 0; have hfz49_1 := blk_frozen BK149.out 1; have hfz49_2 := blk_frozen BK149.out 2; have hfz49_3 := blk_frozen BK149.out 3; have hfz49_4 := blk_frozen BK149.out 4))
                  generalize hW : World.setCell _ ⟨gb149, 4, none⟩ _ = W9
                  have HB9 := Aside0.mk (show Below w.heap.size w W9 from by rw [← hW]; repeat (first | exact HB.out | refine below_set ?_ GE149.out))
                  have k3_0 : W9.cell? ⟨gb149, 0, none⟩ = some (.int .i64 ((rd_T94 l0 x7_1).f0)) := by rw [← hW]; repeat (with_reducible first | exact hcz49_0 | refine set_off_xactShowAuditx4b (by decide) ?_ | refine set_same_xactShowAuditx4b (u := .int .i64 0) ?_)
                  have k3_1 : W9.cell? ⟨gb149, 1, none⟩ = some (.int .i64 ((rd_T94 l0 x7_1).f1)) := by rw [← hW]; repeat (with_reducible first | exact hcz49_1 | refine set_off_xactShowAuditx4b (by decide) ?_ | refine set_same_xactShowAuditx4b (u := .int .i64 0) ?_)
                  have k3_2 : W9.cell? ⟨gb149, 2, none⟩ = some (.int .i64 ((rd_T94 l0 x7_1).f2)) := by rw [← hW]; repeat (with_reducible first | exact hcz49_2 | refine set_off_xactShowAuditx4b (by decide) ?_ | refine set_same_xactShowAuditx4b (u := .int .i64 0) ?_)
                  have k3_3 : W9.cell? ⟨gb149, 3, none⟩ = some (.int .i64 ((rd_T94 l0 x7_1).f3)) := by rw [← hW]; repeat (with_reducible first | exact hcz49_3 | refine set_off_xactShowAuditx4b (by decide) ?_ | refine set_same_xactShowAuditx4b (u := .int .i64 0) ?_)
                  have k3_4 : W9.cell? ⟨gb149, 4, none⟩ = some (.int .i64 ((rd_T94 l0 x7_1).f4)) := by rw [← hW]; repeat (with_reducible first | exact hcz49_4 | refine set_off_xactShowAuditx4b (by decide) ?_ | refine set_same_xactShowAuditx4b (u := .int .i64 0) ?_)
                  clear hx148_0 hx148_1 hx148_2 hx148_3 hx148_4 hW BK149 HB hcz49_0 hfz49_0 hcz49_1 hfz49_1 hcz49_2 hfz49_2 hcz49_3 hfz49_3 hcz49_4 hfz49_4
                  have HB := HB9
                  clear HB9
                  go_quiet (first | (go_at_call 62; (with_reducible refine (impl_within.calls ((rd_T94 l0 x7_1).f0) 1 100000 true _ A5.out).mono ?_); rintro e w' ⟨rfl, ⟨nd, rfl⟩⟩; (try first | exact ⟨rfl, _, World.drewN_drewN _ _ _⟩ | exact ⟨rfl, _, qA (World.drewN_drewN _ _ _)⟩)) | (go_at_call 62; (with_reducible refine (impl_within.calls ((rd_T94 l0 x7_1).f1) 1 3 false _ A32.out).mono ?_); rintro e w' ⟨rfl, ⟨nd, rfl⟩⟩; (try first | exact ⟨rfl, _, World.drewN_drewN _ _ _⟩ | exact ⟨rfl, _, qA (World.drewN_drewN _ _ _)⟩)))
                  try go_wp2
                  go_ret
                  exact ⟨by first | rfl | (simp [errW_none, errW_some] <;> rfl) | (simp [*, errW_none, errW_some] <;> rfl), by repeat (first | (with_reducible first | exact HB.out | apply below_alloc | apply pw_below_drewN | apply below_drew1 | refine below_set ?_ GE149.out) | exact HB.out)⟩
            · replace c6 := Bool.eq_false_iff.mpr c6
              subst c6
              rw [if_neg (show ¬ (false = true) by decide)] at H
              obtain rfl := Option.some.inj H
              have p148 : 0 ≤ (x7_1 : Int) := of_decide_eq_true (by first | (with_reducible assumption) | assumption)
              have q148 : x7_1 < (l0.length : Int) := of_decide_eq_true (by first | (with_reducible assumption) | assumption)
              obtain ⟨ad148, e148, hx148_0, hx148_1, hx148_2, hx148_3, hx148_4⟩ := at_T94 HR0.out x7_1 p148 q148
              cases e148
              replace hx148_0 := (HB.out.cell (World.block_lt_of_cell? w _ hx148_0)).trans hx148_0
              replace hx148_1 := (HB.out.cell (World.block_lt_of_cell? w _ hx148_1)).trans hx148_1
              replace hx148_2 := (HB.out.cell (World.block_lt_of_cell? w _ hx148_2)).trans hx148_2
              replace hx148_3 := (HB.out.cell (World.block_lt_of_cell? w _ hx148_3)).trans hx148_3
              replace hx148_4 := (HB.out.cell (World.block_lt_of_cell? w _ hx148_4)).trans hx148_4
              replace p148 := eq_true p148
              replace q148 := eq_true q148
              go_wp2_with (first | ((with_reducible refine gate_dst (N := 4) rfl ?_); refine box_event ?hg (N := 4) ?hd (cs := #[.int .i64 0, .int .i64 0, .int .i64 0, .int .i64 0, .int .i64 0]) (t := 94) ?hr ?_; (case hd => rfl); (case hg => rfl); (case hr => first | (go_simp; done) | (go_simp; rfl)); intro gb149 hg w50 hbox hb; have n0_ := Aside0.mk (below_step (by repeat (first | exact HB.out | apply below_alloc | apply pw_below_drewN | apply below_drew1)) hb); have n1_ := Aside0.mk (hbox); have n2_ := Aside0.mk ((by rw [hg]; exact (below_size (by repeat (first | exact HB.out | apply below_alloc | apply pw_below_drewN | apply below_drew1))) : w.heap.size ≤ gb149)); have n3_ := Aside0.mk ((by rw [hg]; exact (below_size (by repeat (first | exact HB.out | apply below_alloc | apply pw_below_drewN | apply below_drew1))) : w.heap.size ≤ gb149)); clear HB; have HB := n0_; have BK149 := n1_; have GW149 := n2_; have GE149 := n3_; clear n0_ n1_ n2_ n3_; clear hb hbox hg; have hcz51_0 : w50.cell? ⟨gb149, 0, none⟩ = some (.int .i64 0) := (blk_cell BK149.out 0).trans rfl; have hcz51_1 : w50.cell? ⟨gb149, 1, none⟩ = some (.int .i64 0) := (blk_cell BK149.out 1).trans rfl; have hcz51_2 : w50.cell? ⟨gb149, 2, none⟩ = some (.int .i64 0) := (blk_cell BK149.out 2).trans rfl; have hcz51_3 : w50.cell? ⟨gb149, 3, none⟩ = some (.int .i64 0) := (blk_cell BK149.out 3).trans rfl; have hcz51_4 : w50.cell? ⟨gb149, 4, none⟩ = some (.int .i64 0) := (blk_cell BK149.out 4).trans rfl; have hfz51_0 := blk_frozen BK149.out 0; have hfz51_1 := blk_frozen BK149.out 1; have hfz51_2 := blk_frozen BK149.out 2; have hfz51_3 := blk_frozen BK149.out 3; have hfz51_4 := blk_frozen BK149.out 4))
              generalize hW : World.setCell _ ⟨gb149, 4, none⟩ _ = W9
              have HB9 := Aside0.mk (show Below w.heap.size w W9 from by rw [← hW]; repeat (first | exact HB.out | refine below_set ?_ GE149.out))
              have k3_0 : W9.cell? ⟨gb149, 0, none⟩ = some (.int .i64 ((rd_T94 l0 x7_1).f0)) := by rw [← hW]; repeat (with_reducible first | exact hcz51_0 | refine set_off_xactShowAuditx4b (by decide) ?_ | refine set_same_xactShowAuditx4b (u := .int .i64 0) ?_)
              have k3_1 : W9.cell? ⟨gb149, 1, none⟩ = some (.int .i64 ((rd_T94 l0 x7_1).f1)) := by rw [← hW]; repeat (with_reducible first | exact hcz51_1 | refine set_off_xactShowAuditx4b (by decide) ?_ | refine set_same_xactShowAuditx4b (u := .int .i64 0) ?_)
              have k3_2 : W9.cell? ⟨gb149, 2, none⟩ = some (.int .i64 ((rd_T94 l0 x7_1).f2)) := by rw [← hW]; repeat (with_reducible first | exact hcz51_2 | refine set_off_xactShowAuditx4b (by decide) ?_ | refine set_same_xactShowAuditx4b (u := .int .i64 0) ?_)
              have k3_3 : W9.cell? ⟨gb149, 3, none⟩ = some (.int .i64 ((rd_T94 l0 x7_1).f3)) := by rw [← hW]; repeat (with_reducible first | exact hcz51_3 | refine set_off_xactShowAuditx4b (by decide) ?_ | refine set_same_xactShowAuditx4b (u := .int .i64 0) ?_)
              have k3_4 : W9.cell? ⟨gb149, 4, none⟩ = some (.int .i64 ((rd_T94 l0 x7_1).f4)) := by rw [← hW]; repeat (with_reducible first | exact hcz51_4 | refine set_off_xactShowAuditx4b (by decide) ?_ | refine set_same_xactShowAuditx4b (u := .int .i64 0) ?_)
              clear hx148_0 hx148_1 hx148_2 hx148_3 hx148_4 hW BK149 HB hcz51_0 hfz51_0 hcz51_1 hfz51_1 hcz51_2 hfz51_2 hcz51_3 hfz51_3 hcz51_4 hfz51_4
              have HB := HB9
              clear HB9
              go_quiet (first | (go_at_call 62; (with_reducible refine (impl_within.calls ((rd_T94 l0 x7_1).f0) 1 100000 false _ A5.out).mono ?_); rintro e w' ⟨rfl, ⟨nd, rfl⟩⟩; (try first | exact ⟨rfl, _, World.drewN_drewN _ _ _⟩ | exact ⟨rfl, _, qA (World.drewN_drewN _ _ _)⟩)))
              try go_wp2
              go_ret
              exact ⟨by first | rfl | (simp [errW_none, errW_some] <;> rfl) | (simp [*, errW_none, errW_some] <;> rfl), by repeat (first | (with_reducible first | exact HB.out | apply below_alloc | apply pw_below_drewN | apply below_drew1 | refine below_set ?_ GE149.out) | exact HB.out)⟩
          · rw [if_neg c4] at H
            exact absurd H (by simp)
        · rw [if_neg c3] at H
          exact absurd H (by simp)
      · rw [if_neg c2] at H
        have c2b0 : decide (x7_1 < (l0.length : Int)) = false := decide_eq_false c2
        clear c2
        obtain rfl := Option.some.inj H
        go_wp2
        repeat (go_quiet (fail); try go_wp2)
        go_ret
        exact ⟨by first | rfl | (simp [errW_none, errW_some] <;> rfl) | (simp [*, errW_none, errW_some] <;> rfl), by repeat (first | (with_reducible first | exact HB.out | apply below_alloc | apply pw_below_drewN | apply below_drew1) | exact HB.out)⟩


end Go.Proofs.Ytnoklcpoocaimaa.PFnExactShowAudit
