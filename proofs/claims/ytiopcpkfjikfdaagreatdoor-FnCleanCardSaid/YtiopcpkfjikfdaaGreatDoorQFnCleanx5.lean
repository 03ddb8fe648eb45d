import Derived.Test.YtiopcpkfjikfdaaGreatDoorQFnCleanx0
set_option maxHeartbeats 8000000
set_option maxRecDepth 100000
namespace Go.Proofs.YtiopcpkfjikfdaaGreatDoor.PFnClean
open Go.RowKit Go.Proofs.YtiopcpkfjikfdaaGreatDoorW.PrintWords Go.Proofs.YtiopcpkfjikfdaaGreatDoorW.PrintLast Go.Proofs.YtiopcpkfjikfdaaGreatDoorW.PrintMore
attribute [local go_sem] max2_int min2_int max_two min_two max_three min_three max_four min_four   -- for this text's walks alone
set_option linter.unusedVariables false
set_option linter.unusedSimpArgs false
mutual
def spec_l4Parent.l0 : Nat → Int → Int → Int → List (S37) → Option (Int)
 | 0, _, _, _, _ => none
 | k + 1, x1, x5, x164000, x164001 => if x5 < (x164001.length : Int) then (spec_l4Parent.l1 k x1 x5 0 x164000 x164001) else (some 1)
def spec_l4Parent.l1 : Nat → Int → Int → Int → Int → List (S37) → Option (Int)
 | 0, _, _, _, _, _ => none
 | k + 1, x1, x5, x6, x164000, x164001 => if 0 ≤ x5 then (if x5 < (x164001.length : Int) then (if x6 < (((rd_T37 x164001 x5).f6).length : Int) then (if 0 ≤ x6 then (if ((rd_T59 ((rd_T37 x164001 x5).f6) x6).f1) = x1 then (some ((rd_T37 x164001 x5).f0)) else (spec_l4Parent.l1 k x1 x5 (wrap64 (x6 + 1)) x164000 x164001)) else (none)) else (spec_l4Parent.l0 k x1 (wrap64 (x5 + 1)) x164000 x164001)) else (none)) else (none)
end
def spec_l4Parent.f (k : Nat) (a0_0 : Int) (l0_1 : List (S37)) (a1 : Int) : Option (Int) := spec_l4Parent.l0 k a1 0 a0_0 l0_1
theorem spec_l4Parent.calls (k : Nat) (a0_0 : Int) (A0_1 : Option Addr) (c0_1 : Nat) (l0_1 : List (S37)) (a1 : Int) (r : Int) (w : World) (hr0_1 : Kd.C k37 w A0_1 l0_1.length l0_1) (hc0_1 : l0_1.length ≤ c0_1) (h : spec_l4Parent.f k a0_0 l0_1 a1 = some r) :
  Calls Tryz.prog 57 #[.agg #[.int .i64 a0_0, .slice A0_1 l0_1.length c0_1], .int .i64 a1] w fun e w' => e = .returned (.int .i64 r) ∧ Below w.heap.size w w' := by
 have hu26 := Tryz.underlying26
 have HR0_1 := zM hr0_1
 have HC0_1 := zM hc0_1
 clear hr0_1 hc0_1
 have HB := zM (Below.refl w.heap.size w)
 have H : (spec_l4Parent.l0 k a1 0 a0_0 l0_1) = some r := h
 clear h
 have H' := zM H
 clear H
 go_enter Tryz.func57, Tryz.ntmps57
 go_wp2_with (first | ((with_reducible refine gate_dst (N := 2) rfl ?_); refine box_event ?hg (N := 2) ?hd (cs := #[.int .i64 a0_0, .slice A0_1 l0_1.length c0_1]) (t := 26) ?hr ?_; (case hd => rfl); (case hg => rfl); (case hr => first | (go_simp; done) | (go_simp; rfl)); intro gb163 hg w3 hbox hb; have n0_ := zM (zP (by repeat (first | exact HB.out | apply zA | apply zN | apply zD)) hb); have n1_ := zM (hbox); have n2_ := zM ((by rw [hg]; exact (zZ (by repeat (first | exact HB.out | apply zA | apply zN | apply zD))) : w.heap.size ≤ gb163)); have n3_ := zM ((by rw [hg]; exact (zZ (by repeat (first | exact HB.out | apply zA | apply zN | apply zD))) : w.heap.size ≤ gb163)); clear HB; have HB := n0_; have BK163 := n1_; have GW163 := n2_; have GE163 := n3_; clear n0_ n1_ n2_ n3_; clear hb hbox hg))
 go_loopg [5] k (fun kq v5 w' => ∃ (x5_1 : Int), v5 = .int .i64 x5_1 ∧ Aside0 (spec_l4Parent.l0 kq a1 x5_1 a0_0 l0_1 = some r) ∧ Aside0 (kq ≤ k) ∧ Aside0 (w'.heap[gb163]? = some (.cells #[.int .i64 a0_0, (.slice A0_1 l0_1.length c0_1)] 26 (0, 0))) ∧ Aside0 (Below w.heap.size w w'))
 case atStart => exact ⟨(0), (by first | rfl | (simp; done) | (simp [*]; done) | (simp; exact zQ _)), H', ⟨Nat.le_refl _⟩, ⟨by (with_reducible repeat (first | refine zK ?_ _ | refine zW ?_ | refine zB ?_ _)); exact BK163.out⟩, ⟨by repeat (first | (with_reducible first | exact HB.out | apply zA | apply zN | apply zD | refine zS ?_ GE163.out) | exact HB.out)⟩⟩
 case round =>
  clear H'
  try clear p2
  obtain ⟨x5_1, rfl, HA, HK1, BK163, HB⟩ := hrel
  cases gk with
  | zero => exact absurd HA.out (by simp [spec_l4Parent.l0])
  | succ k1 =>
   have H := HA.out
   clear HA
   simp only [spec_l4Parent.l0] at H
   by_cases c4 : x5_1 < (l0_1.length : Int)
   rotate_left
   ·rw [if_neg c4] at H
    have c4b0 : decide (x5_1 < (l0_1.length : Int)) = false := zG c4
    clear c4
    obtain rfl := zI H
    have hcz14_0 : wr.cell? ⟨gb163, 0, none⟩ = some (.int .i64 a0_0) := (zC BK163.out 0).trans rfl
    have hcz14_1 : wr.cell? ⟨gb163, 1, none⟩ = some (.slice A0_1 l0_1.length c0_1) := (zC BK163.out 1).trans rfl
    have hfz14_0 := zF BK163.out 0
    have hfz14_1 := zF BK163.out 1
    go_wp2
    go_ret
    exact ⟨by first | rfl | (simp [errW_none, errW_some] <;> rfl) | (simp [*, errW_none, errW_some] <;> rfl), by repeat (first | (with_reducible first | exact HB.out | apply zA | apply zN | apply zD | refine zS ?_ GE163.out) | exact HB.out)⟩
   rw [if_pos c4] at H
   have c4b0 : decide (x5_1 < (l0_1.length : Int)) = true := zE c4
   clear c4
   have H' := zM H
   clear H
   have hcz5_0 : wr.cell? ⟨gb163, 0, none⟩ = some (.int .i64 a0_0) := (zC BK163.out 0).trans rfl
   have hcz5_1 : wr.cell? ⟨gb163, 1, none⟩ = some (.slice A0_1 l0_1.length c0_1) := (zC BK163.out 1).trans rfl
   have hfz5_0 := zF BK163.out 0
   have hfz5_1 := zF BK163.out 1
   go_wp2
   go_loopg [6] k1 (fun kq v6 w' => ∃ (x6_2 : Int), v6 = .int .i64 x6_2 ∧ Aside0 (spec_l4Parent.l1 kq a1 x5_1 x6_2 a0_0 l0_1 = some r) ∧ Aside0 (kq ≤ k1) ∧ Aside0 (w'.heap[gb163]? = some (.cells #[.int .i64 a0_0, (.slice A0_1 l0_1.length c0_1)] 26 (0, 0))) ∧ Aside0 (Below w.heap.size w w'))
   case atStart => exact ⟨(0), (by first | rfl | (simp; done) | (simp [*]; done) | (simp; exact zQ _)), H', ⟨Nat.le_refl _⟩, ⟨by (with_reducible repeat (first | refine zK ?_ _ | refine zW ?_ | refine zB ?_ _)); exact BK163.out⟩, ⟨by repeat (first | (with_reducible first | exact HB.out | apply zA | apply zN | apply zD | refine zS ?_ GE163.out) | exact HB.out)⟩⟩
   case round =>
    clear H'
    try clear p2
    try clear c4
    try clear c4b0
    try clear c5
    try clear hcz5_0
    try clear hcz5_1
    try clear hfz5_0
    try clear hfz5_1
    try clear p2
    obtain ⟨x6_2, rfl, HA, HK2, BK163, HB⟩ := hrel
    cases gk with
    | zero => exact absurd HA.out (by simp [spec_l4Parent.l1])
    | succ k2 =>
     have H := HA.out
     clear HA
     simp only [spec_l4Parent.l1] at H
     by_cases c6 : 0 ≤ x5_1
     rotate_left
     ·rw [if_neg c6] at H
      exact absurd H (by simp)
     rw [if_pos c6] at H
     have c6b0 : decide (0 ≤ x5_1) = true := zE c6
     clear c6
     by_cases c7 : x5_1 < (l0_1.length : Int)
     rotate_left
     ·rw [if_neg c7] at H
      exact absurd H (by simp)
     rw [if_pos c7] at H
     have c7b0 : decide (x5_1 < (l0_1.length : Int)) = true := zE c7
     clear c7
     by_cases c8 : x6_2 < (((rd_T37 l0_1 x5_1).f6).length : Int)
     rotate_left
     ·rw [if_neg c8] at H
      have c8b0 : decide (x6_2 < (((rd_T37 l0_1 x5_1).f6).length : Int)) = false := zG c8
      clear c8
      have H' := zM H
      clear H
      have hcz13_0 : wr.cell? ⟨gb163, 0, none⟩ = some (.int .i64 a0_0) := (zC BK163.out 0).trans rfl
      have hcz13_1 : wr.cell? ⟨gb163, 1, none⟩ = some (.slice A0_1 l0_1.length c0_1) := (zC BK163.out 1).trans rfl
      have hfz13_0 := zF BK163.out 0
      have hfz13_1 := zF BK163.out 1
      have p164 : 0 ≤ (x5_1 : Int) := zO (by first | (with_reducible assumption) | assumption)
      have q164 : x5_1 < (l0_1.length : Int) := zO (by first | (with_reducible assumption) | assumption)
      obtain ⟨ad164, A164_6, c164_6, e164, hx164_0, hx164_1, hx164_2, hx164_3, hx164_4, hx164_5, hx164_6, hx164_7, hx164_8, hl164_6, hi164_6⟩ := at_T37 HR0_1.out x5_1 p164 q164
      cases e164
      replace hx164_0 := (HB.out.cell (zT w _ hx164_0)).trans hx164_0
      replace hx164_1 := (HB.out.cell (zT w _ hx164_1)).trans hx164_1
      replace hx164_2 := (HB.out.cell (zT w _ hx164_2)).trans hx164_2
      replace hx164_3 := (HB.out.cell (zT w _ hx164_3)).trans hx164_3
      replace hx164_4 := (HB.out.cell (zT w _ hx164_4)).trans hx164_4
      replace hx164_5 := (HB.out.cell (zT w _ hx164_5)).trans hx164_5
      replace hx164_6 := (HB.out.cell (zT w _ hx164_6)).trans hx164_6
      replace hx164_7 := (HB.out.cell (zT w _ hx164_7)).trans hx164_7
      replace hx164_8 := (HB.out.cell (zT w _ hx164_8)).trans hx164_8
      have HR164_6 := zM hi164_6
      have HC164_6 := zM hl164_6
      clear hi164_6 hl164_6
      replace p164 := eq_true p164
      replace q164 := eq_true q164
      go_wp2
      go_roundg k2
      case measure => have := HK1.out; have := HK2.out; omega
      case rel => exact ⟨(wrap64 (x5_1 + 1)), (by first | rfl | (simp; done) | (simp [*]; done) | (simp; exact zQ _)), H', ⟨by have := HK1.out; have := HK2.out; omega⟩, ⟨by (with_reducible repeat (first | refine zK ?_ _ | refine zW ?_ | refine zB ?_ _)); exact BK163.out⟩, ⟨by repeat (first | (with_reducible first | exact HB.out | apply zA | apply zN | apply zD | refine zS ?_ GE163.out) | exact HB.out)⟩⟩
     rw [if_pos c8] at H
     have c8b0 : decide (x6_2 < (((rd_T37 l0_1 x5_1).f6).length : Int)) = true := zE c8
     clear c8
     by_cases c9 : 0 ≤ x6_2
     rotate_left
     ·rw [if_neg c9] at H
      exact absurd H (by simp)
     rw [if_pos c9] at H
     have c9b0 : decide (0 ≤ x6_2) = true := zE c9
     clear c9
     by_cases c10 : ((rd_T59 ((rd_T37 l0_1 x5_1).f6) x6_2).f1) = a1
     rotate_left
     ·rw [if_neg c10] at H
      have c10b0 : (((rd_T59 ((rd_T37 l0_1 x5_1).f6) x6_2).f1) == a1) = false := beq_eq_false_iff_ne.mpr c10
      have c10b1 : (((rd_T59 ((rd_T37 l0_1 x5_1).f6) x6_2).f1) != a1) = true := bne_iff_ne.mpr c10
      have H' := zM H
      clear H
      have hcz12_0 : wr.cell? ⟨gb163, 0, none⟩ = some (.int .i64 a0_0) := (zC BK163.out 0).trans rfl
      have hcz12_1 : wr.cell? ⟨gb163, 1, none⟩ = some (.slice A0_1 l0_1.length c0_1) := (zC BK163.out 1).trans rfl
      have hfz12_0 := zF BK163.out 0
      have hfz12_1 := zF BK163.out 1
      have p164 : 0 ≤ (x5_1 : Int) := zO (by first | (with_reducible assumption) | assumption)
      have q164 : x5_1 < (l0_1.length : Int) := zO (by first | (with_reducible assumption) | assumption)
      obtain ⟨ad164, A164_6, c164_6, e164, hx164_0, hx164_1, hx164_2, hx164_3, hx164_4, hx164_5, hx164_6, hx164_7, hx164_8, hl164_6, hi164_6⟩ := at_T37 HR0_1.out x5_1 p164 q164
      cases e164
      replace hx164_0 := (HB.out.cell (zT w _ hx164_0)).trans hx164_0
      replace hx164_1 := (HB.out.cell (zT w _ hx164_1)).trans hx164_1
      replace hx164_2 := (HB.out.cell (zT w _ hx164_2)).trans hx164_2
      replace hx164_3 := (HB.out.cell (zT w _ hx164_3)).trans hx164_3
      replace hx164_4 := (HB.out.cell (zT w _ hx164_4)).trans hx164_4
      replace hx164_5 := (HB.out.cell (zT w _ hx164_5)).trans hx164_5
      replace hx164_6 := (HB.out.cell (zT w _ hx164_6)).trans hx164_6
      replace hx164_7 := (HB.out.cell (zT w _ hx164_7)).trans hx164_7
      replace hx164_8 := (HB.out.cell (zT w _ hx164_8)).trans hx164_8
      have HR164_6 := zM hi164_6
      have HC164_6 := zM hl164_6
      clear hi164_6 hl164_6
      replace p164 := eq_true p164
      replace q164 := eq_true q164
      have p165 : 0 ≤ (x5_1 : Int) := zO (by first | (with_reducible assumption) | assumption)
      have q165 : x5_1 < (l0_1.length : Int) := zO (by first | (with_reducible assumption) | assumption)
      obtain ⟨ad165, A165_6, c165_6, e165, hx165_0, hx165_1, hx165_2, hx165_3, hx165_4, hx165_5, hx165_6, hx165_7, hx165_8, hl165_6, hi165_6⟩ := at_T37 HR0_1.out x5_1 p165 q165
      obtain rfl : ad164 = ad165 := (by injection e165)
      replace hx165_0 := (HB.out.cell (zT w _ hx165_0)).trans hx165_0
      replace hx165_1 := (HB.out.cell (zT w _ hx165_1)).trans hx165_1
      replace hx165_2 := (HB.out.cell (zT w _ hx165_2)).trans hx165_2
      replace hx165_3 := (HB.out.cell (zT w _ hx165_3)).trans hx165_3
      replace hx165_4 := (HB.out.cell (zT w _ hx165_4)).trans hx165_4
      replace hx165_5 := (HB.out.cell (zT w _ hx165_5)).trans hx165_5
      replace hx165_6 := (HB.out.cell (zT w _ hx165_6)).trans hx165_6
      replace hx165_7 := (HB.out.cell (zT w _ hx165_7)).trans hx165_7
      replace hx165_8 := (HB.out.cell (zT w _ hx165_8)).trans hx165_8
      have HR165_6 := zM hi165_6
      have HC165_6 := zM hl165_6
      clear hi165_6 hl165_6
      replace p165 := eq_true p165
      replace q165 := eq_true q165
      have ea_ := zI (hx164_6.symm.trans hx165_6)
      injection ea_ with ea_ en_ ec_
      subst ea_
      subst ec_
      clear en_
      have p166 : 0 ≤ (x6_2 : Int) := zO (by first | (with_reducible assumption) | assumption)
      have q166 : x6_2 < (((rd_T37 l0_1 x5_1).f6).length : Int) := zO (by first | (with_reducible assumption) | assumption)
      obtain ⟨ad166, e166, hx166_0, hx166_1⟩ := at_T59 HR165_6.out x6_2 p166 q166
      cases e166
      replace hx166_0 := (HB.out.cell (zT w _ hx166_0)).trans hx166_0
      replace hx166_1 := (HB.out.cell (zT w _ hx166_1)).trans hx166_1
      replace p166 := eq_true p166
      replace q166 := eq_true q166
      go_wp2
      go_roundg k2
      case measure => have := HK1.out; have := HK2.out; omega
      case rel => exact ⟨(wrap64 (x6_2 + 1)), (by first | rfl | (simp; done) | (simp [*]; done) | (simp; exact zQ _)), H', ⟨by have := HK1.out; have := HK2.out; omega⟩, ⟨by (with_reducible repeat (first | refine zK ?_ _ | refine zW ?_ | refine zB ?_ _)); exact BK163.out⟩, ⟨by repeat (first | (with_reducible first | exact HB.out | apply zA | apply zN | apply zD | refine zS ?_ GE163.out) | exact HB.out)⟩⟩
     rw [if_pos c10] at H
     have c10b0 : (((rd_T59 ((rd_T37 l0_1 x5_1).f6) x6_2).f1) == a1) = true := beq_iff_eq.mpr c10
     have c10b1 : (((rd_T59 ((rd_T37 l0_1 x5_1).f6) x6_2).f1) != a1) = false := bne_eq_false_iff_eq.mpr c10
     clear c10
     obtain rfl := zI H
     have hcz11_0 : wr.cell? ⟨gb163, 0, none⟩ = some (.int .i64 a0_0) := (zC BK163.out 0).trans rfl
     have hcz11_1 : wr.cell? ⟨gb163, 1, none⟩ = some (.slice A0_1 l0_1.length c0_1) := (zC BK163.out 1).trans rfl
     have hfz11_0 := zF BK163.out 0
     have hfz11_1 := zF BK163.out 1
     have p164 : 0 ≤ (x5_1 : Int) := zO (by first | (with_reducible assumption) | assumption)
     have q164 : x5_1 < (l0_1.length : Int) := zO (by first | (with_reducible assumption) | assumption)
     obtain ⟨ad164, A164_6, c164_6, e164, hx164_0, hx164_1, hx164_2, hx164_3, hx164_4, hx164_5, hx164_6, hx164_7, hx164_8, hl164_6, hi164_6⟩ := at_T37 HR0_1.out x5_1 p164 q164
     cases e164
     replace hx164_0 := (HB.out.cell (zT w _ hx164_0)).trans hx164_0
     replace hx164_1 := (HB.out.cell (zT w _ hx164_1)).trans hx164_1
     replace hx164_2 := (HB.out.cell (zT w _ hx164_2)).trans hx164_2
     replace hx164_3 := (HB.out.cell (zT w _ hx164_3)).trans hx164_3
     replace hx164_4 := (HB.out.cell (zT w _ hx164_4)).trans hx164_4
     replace hx164_5 := (HB.out.cell (zT w _ hx164_5)).trans hx164_5
     replace hx164_6 := (HB.out.cell (zT w _ hx164_6)).trans hx164_6
     replace hx164_7 := (HB.out.cell (zT w _ hx164_7)).trans hx164_7
     replace hx164_8 := (HB.out.cell (zT w _ hx164_8)).trans hx164_8
     have HR164_6 := zM hi164_6
     have HC164_6 := zM hl164_6
     clear hi164_6 hl164_6
     replace p164 := eq_true p164
     replace q164 := eq_true q164
     have p165 : 0 ≤ (x5_1 : Int) := zO (by first | (with_reducible assumption) | assumption)
     have q165 : x5_1 < (l0_1.length : Int) := zO (by first | (with_reducible assumption) | assumption)
     obtain ⟨ad165, A165_6, c165_6, e165, hx165_0, hx165_1, hx165_2, hx165_3, hx165_4, hx165_5, hx165_6, hx165_7, hx165_8, hl165_6, hi165_6⟩ := at_T37 HR0_1.out x5_1 p165 q165
     obtain rfl : ad164 = ad165 := (by injection e165)
     replace hx165_0 := (HB.out.cell (zT w _ hx165_0)).trans hx165_0
     replace hx165_1 := (HB.out.cell (zT w _ hx165_1)).trans hx165_1
     replace hx165_2 := (HB.out.cell (zT w _ hx165_2)).trans hx165_2
     replace hx165_3 := (HB.out.cell (zT w _ hx165_3)).trans hx165_3
     replace hx165_4 := (HB.out.cell (zT w _ hx165_4)).trans hx165_4
     replace hx165_5 := (HB.out.cell (zT w _ hx165_5)).trans hx165_5
     replace hx165_6 := (HB.out.cell (zT w _ hx165_6)).trans hx165_6
     replace hx165_7 := (HB.out.cell (zT w _ hx165_7)).trans hx165_7
     replace hx165_8 := (HB.out.cell (zT w _ hx165_8)).trans hx165_8
     have HR165_6 := zM hi165_6
     have HC165_6 := zM hl165_6
     clear hi165_6 hl165_6
     replace p165 := eq_true p165
     replace q165 := eq_true q165
     have ea_ := zI (hx164_6.symm.trans hx165_6)
     injection ea_ with ea_ en_ ec_
     subst ea_
     subst ec_
     clear en_
     have p166 : 0 ≤ (x6_2 : Int) := zO (by first | (with_reducible assumption) | assumption)
     have q166 : x6_2 < (((rd_T37 l0_1 x5_1).f6).length : Int) := zO (by first | (with_reducible assumption) | assumption)
     obtain ⟨ad166, e166, hx166_0, hx166_1⟩ := at_T59 HR165_6.out x6_2 p166 q166
     cases e166
     replace hx166_0 := (HB.out.cell (zT w _ hx166_0)).trans hx166_0
     replace hx166_1 := (HB.out.cell (zT w _ hx166_1)).trans hx166_1
     replace p166 := eq_true p166
     replace q166 := eq_true q166
     have p167 : 0 ≤ (x5_1 : Int) := zO (by first | (with_reducible assumption) | assumption)
     have q167 : x5_1 < (l0_1.length : Int) := zO (by first | (with_reducible assumption) | assumption)
     obtain ⟨ad167, A167_6, c167_6, e167, hx167_0, hx167_1, hx167_2, hx167_3, hx167_4, hx167_5, hx167_6, hx167_7, hx167_8, hl167_6, hi167_6⟩ := at_T37 HR0_1.out x5_1 p167 q167
     obtain rfl : ad164 = ad167 := (by injection e167)
     replace hx167_0 := (HB.out.cell (zT w _ hx167_0)).trans hx167_0
     replace hx167_1 := (HB.out.cell (zT w _ hx167_1)).trans hx167_1
     replace hx167_2 := (HB.out.cell (zT w _ hx167_2)).trans hx167_2
     replace hx167_3 := (HB.out.cell (zT w _ hx167_3)).trans hx167_3
     replace hx167_4 := (HB.out.cell (zT w _ hx167_4)).trans hx167_4
     replace hx167_5 := (HB.out.cell (zT w _ hx167_5)).trans hx167_5
     replace hx167_6 := (HB.out.cell (zT w _ hx167_6)).trans hx167_6
     replace hx167_7 := (HB.out.cell (zT w _ hx167_7)).trans hx167_7
     replace hx167_8 := (HB.out.cell (zT w _ hx167_8)).trans hx167_8
     have HR167_6 := zM hi167_6
     have HC167_6 := zM hl167_6
     clear hi167_6 hl167_6
     replace p167 := eq_true p167
     replace q167 := eq_true q167
     have ea_ := zI (hx164_6.symm.trans hx167_6)
     injection ea_ with ea_ en_ ec_
     subst ea_
     subst ec_
     clear en_
     go_wp2
     go_ret
     exact ⟨by first | rfl | (simp [errW_none, errW_some] <;> rfl) | (simp [*, errW_none, errW_some] <;> rfl), by repeat (first | (with_reducible first | exact HB.out | apply zA | apply zN | apply zD | refine zS ?_ GE163.out) | exact HB.out)⟩
def spec_l4Bytes.l0 : Nat → Int → Int → Int → List (S37) → Option (Int)
 | 0, _, _, _, _ => none
 | k + 1, x3, x4, x169000, x169001 => if x4 < (x169001.length : Int) then (if 0 ≤ x4 then (spec_l4Bytes.l0 k (wrap64 (x3 + (((rd_T37 x169001 x4).f5).size : Int))) (wrap64 (x4 + 1)) x169000 x169001) else (none)) else (some x3)
def spec_l4Bytes.f (k : Nat) (a0_0 : Int) (l0_1 : List (S37)) : Option (Int) := spec_l4Bytes.l0 k 0 0 a0_0 l0_1
theorem spec_l4Bytes.calls (k : Nat) (a0_0 : Int) (A0_1 : Option Addr) (c0_1 : Nat) (l0_1 : List (S37)) (r : Int) (w : World) (hr0_1 : Kd.C k37 w A0_1 l0_1.length l0_1) (hc0_1 : l0_1.length ≤ c0_1) (h : spec_l4Bytes.f k a0_0 l0_1 = some r) :
  Calls Tryz.prog 52 #[.agg #[.int .i64 a0_0, .slice A0_1 l0_1.length c0_1]] w fun e w' => e = .returned (.int .i64 r) ∧ Below w.heap.size w w' := by
 have hu26 := Tryz.underlying26
 have HR0_1 := zM hr0_1
 have HC0_1 := zM hc0_1
 clear hr0_1 hc0_1
 have HB := zM (Below.refl w.heap.size w)
 have H : (spec_l4Bytes.l0 k 0 0 a0_0 l0_1) = some r := h
 clear h
 have H' := zM H
 clear H
 go_enter Tryz.func52, Tryz.ntmps52
 go_wp2_with (first | ((with_reducible refine gate_dst (N := 1) rfl ?_); refine box_event ?hg (N := 1) ?hd (cs := #[.int .i64 a0_0, .slice A0_1 l0_1.length c0_1]) (t := 26) ?hr ?_; (case hd => rfl); (case hg => rfl); (case hr => first | (go_simp; done) | (go_simp; rfl)); intro gb168 hg w2 hbox hb; have n0_ := zM (zP (by repeat (first | exact HB.out | apply zA | apply zN | apply zD)) hb); have n1_ := zM (hbox); have n2_ := zM ((by rw [hg]; exact (zZ (by repeat (first | exact HB.out | apply zA | apply zN | apply zD))) : w.heap.size ≤ gb168)); have n3_ := zM ((by rw [hg]; exact (zZ (by repeat (first | exact HB.out | apply zA | apply zN | apply zD))) : w.heap.size ≤ gb168)); clear HB; have HB := n0_; have BK168 := n1_; have GW168 := n2_; have GE168 := n3_; clear n0_ n1_ n2_ n3_; clear hb hbox hg))
 go_loopg [3, 4] k (fun kq v3 v4 w' => ∃ (x3_1 : Int) (x4_1 : Int), v3 = .int .i64 x3_1 ∧ v4 = .int .i64 x4_1 ∧ Aside0 (spec_l4Bytes.l0 kq x3_1 x4_1 a0_0 l0_1 = some r) ∧ Aside0 (kq ≤ k) ∧ Aside0 (w'.heap[gb168]? = some (.cells #[.int .i64 a0_0, (.slice A0_1 l0_1.length c0_1)] 26 (0, 0))) ∧ Aside0 (Below w.heap.size w w'))
 case atStart => exact ⟨(0), (0), (by first | rfl | (simp; done) | (simp [*]; done) | (simp; exact zQ _)), (by first | rfl | (simp; done) | (simp [*]; done) | (simp; exact zQ _)), H', ⟨Nat.le_refl _⟩, ⟨by (with_reducible repeat (first | refine zK ?_ _ | refine zW ?_ | refine zB ?_ _)); exact BK168.out⟩, ⟨by repeat (first | (with_reducible first | exact HB.out | apply zA | apply zN | apply zD | refine zS ?_ GE168.out) | exact HB.out)⟩⟩
 case round =>
  clear H'
  try clear p2
  obtain ⟨x3_1, x4_1, rfl, rfl, HA, HK1, BK168, HB⟩ := hrel
  cases gk with
  | zero => exact absurd HA.out (by simp [spec_l4Bytes.l0])
  | succ k1 =>
   have H := HA.out
   clear HA
   simp only [spec_l4Bytes.l0] at H
   by_cases c3 : x4_1 < (l0_1.length : Int)
   rotate_left
   ·rw [if_neg c3] at H
    have c3b0 : decide (x4_1 < (l0_1.length : Int)) = false := zG c3
    clear c3
    obtain rfl := zI H
    have hcz6_0 : wr.cell? ⟨gb168, 0, none⟩ = some (.int .i64 a0_0) := (zC BK168.out 0).trans rfl
    have hcz6_1 : wr.cell? ⟨gb168, 1, none⟩ = some (.slice A0_1 l0_1.length c0_1) := (zC BK168.out 1).trans rfl
    have hfz6_0 := zF BK168.out 0
    have hfz6_1 := zF BK168.out 1
    go_wp2
    go_ret
    exact ⟨by first | rfl | (simp [errW_none, errW_some] <;> rfl) | (simp [*, errW_none, errW_some] <;> rfl), by repeat (first | (with_reducible first | exact HB.out | apply zA | apply zN | apply zD | refine zS ?_ GE168.out) | exact HB.out)⟩
   rw [if_pos c3] at H
   have c3b0 : decide (x4_1 < (l0_1.length : Int)) = true := zE c3
   clear c3
   by_cases c4 : 0 ≤ x4_1
   rotate_left
   ·rw [if_neg c4] at H
    exact absurd H (by simp)
   rw [if_pos c4] at H
   have c4b0 : decide (0 ≤ x4_1) = true := zE c4
   clear c4
   have H' := zM H
   clear H
   have hcz5_0 : wr.cell? ⟨gb168, 0, none⟩ = some (.int .i64 a0_0) := (zC BK168.out 0).trans rfl
   have hcz5_1 : wr.cell? ⟨gb168, 1, none⟩ = some (.slice A0_1 l0_1.length c0_1) := (zC BK168.out 1).trans rfl
   have hfz5_0 := zF BK168.out 0
   have hfz5_1 := zF BK168.out 1
   have p169 : 0 ≤ (x4_1 : Int) := zO (by first | (with_reducible assumption) | assumption)
   have q169 : x4_1 < (l0_1.length : Int) := zO (by first | (with_reducible assumption) | assumption)
   obtain ⟨ad169, A169_6, c169_6, e169, hx169_0, hx169_1, hx169_2, hx169_3, hx169_4, hx169_5, hx169_6, hx169_7, hx169_8, hl169_6, hi169_6⟩ := at_T37 HR0_1.out x4_1 p169 q169
   cases e169
   replace hx169_0 := (HB.out.cell (zT w _ hx169_0)).trans hx169_0
   replace hx169_1 := (HB.out.cell (zT w _ hx169_1)).trans hx169_1
   replace hx169_2 := (HB.out.cell (zT w _ hx169_2)).trans hx169_2
   replace hx169_3 := (HB.out.cell (zT w _ hx169_3)).trans hx169_3
   replace hx169_4 := (HB.out.cell (zT w _ hx169_4)).trans hx169_4
   replace hx169_5 := (HB.out.cell (zT w _ hx169_5)).trans hx169_5
   replace hx169_6 := (HB.out.cell (zT w _ hx169_6)).trans hx169_6
   replace hx169_7 := (HB.out.cell (zT w _ hx169_7)).trans hx169_7
   replace hx169_8 := (HB.out.cell (zT w _ hx169_8)).trans hx169_8
   have HR169_6 := zM hi169_6
   have HC169_6 := zM hl169_6
   clear hi169_6 hl169_6
   replace p169 := eq_true p169
   replace q169 := eq_true q169
   go_wp2
   go_roundg k1
   case measure => have := HK1.out; omega
   case rel => exact ⟨(wrap64 (x3_1 + (((rd_T37 l0_1 x4_1).f5).size : Int))), (wrap64 (x4_1 + 1)), (by first | rfl | (simp; done) | (simp [*]; done) | (simp; exact zQ _)), (by first | rfl | (simp; done) | (simp [*]; done) | (simp; exact zQ _)), H', ⟨by have := HK1.out; omega⟩, ⟨by (with_reducible repeat (first | refine zK ?_ _ | refine zW ?_ | refine zB ?_ _)); exact BK168.out⟩, ⟨by repeat (first | (with_reducible first | exact HB.out | apply zA | apply zN | apply zD | refine zS ?_ GE168.out) | exact HB.out)⟩⟩
end Go.Proofs.YtiopcpkfjikfdaaGreatDoor.PFnClean
