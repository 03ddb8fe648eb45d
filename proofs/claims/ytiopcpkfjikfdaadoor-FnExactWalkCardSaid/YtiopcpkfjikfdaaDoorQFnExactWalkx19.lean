/- Written by a program of mine (qprint.py, over the kit's print.py, and texts by hand) for the law FnExactWalk: the functions that it reaches, as Lean functions, and that the program answers as they do. -/
import Derived.Test.YtiopcpkfjikfdaaDoorQFnExactWalkx0
import Derived.Test.YtiopcpkfjikfdaaDoorQFnExactWalkx2
import Derived.Test.YtiopcpkfjikfdaaDoorQFnExactWalkx12
import Derived.Test.YtiopcpkfjikfdaaDoorQFnExactWalkx13
import Derived.Test.YtiopcpkfjikfdaaDoorQFnExactWalkx18
namespace Go.Proofs.YtiopcpkfjikfdaaDoor.PFnExactWalk
open Go.RowKit Go.Proofs.YtiopcpkfjikfdaaDoorW.PrintWords Go.Proofs.YtiopcpkfjikfdaaDoorW.PrintLast Go.Proofs.YtiopcpkfjikfdaaDoorW.PrintMore
attribute [local go_sem] max2_int min2_int max_two min_two max_three min_three max_four min_four   -- for this text's walks alone
set_option linter.unusedVariables false
set_option linter.unusedSimpArgs false

/-! ### laws_FnExactWalk: function 6 -/
def laws_FnExactWalk.f (k : Nat) (a0_0 : Int) (l0_1 : List (S87)) (a1_0 : Int) (a1_1 : Int) (l1_2 : List Int) (a2 : ByteArray) (a3 : Bool) : Option (Bool) := if (a2.size : Int) > 1048576 then (some true) else ((laws_szVol.f k a0_0 l0_1 1048576).bind fun t246 => (if t246 < 0 then (some true) else ((laws_szCred.f a1_0 a1_1 l1_2 t246).bind fun t247 => (if t247 < 0 then (some true) else ((laws_toVol.f k a0_0 l0_1).bind fun bt248 => ((laws_toCred.f k a1_0 a1_1 l1_2).bind fun bt252 => ((spec_Walk.f bt248.1 bt248.2 bt252.1 bt252.2.1 bt252.2.2 a2 a3).bind fun bt257 => ((laws_toVol.f k a0_0 l0_1).bind fun bt262 => ((laws_toCred.f k a1_0 a1_1 l1_2).bind fun bt267 => ((impl_Walk.f bt262.1 bt262.2 bt267.1 bt267.2.1 bt267.2.2 a2 a3).bind fun bt273 => ((laws_eqSpot.f bt273.1 bt273.2.1 bt273.2.2.1 bt273.2.2.2 bt257.1 bt257.2.1 bt257.2.2.1 bt257.2.2.2).bind fun t278 => (if t278 = true then ((laws_toVol.f k a0_0 l0_1).bind fun bt279 => ((laws_eqVol.f bt262.1 bt262.2 bt279.1 bt279.2).bind fun t283 => (if t283 = true then ((laws_toCred.f k a1_0 a1_1 l1_2).bind fun bt284 => ((laws_eqCred.f bt267.1 bt267.2.1 bt267.2.2 bt284.1 bt284.2.1 bt284.2.2).bind fun t289 => (if t289 = true then (some true) else (some false)))) else (some false)))) else (some false)))))))))))))
theorem laws_FnExactWalk.mono : ∀ a0 a1 a2 a3 a4 a5 a6 k, LeO (laws_FnExactWalk.f k a0 a1 a2 a3 a4 a5 a6) (laws_FnExactWalk.f (k + 1) a0 a1 a2 a3 a4 a5 a6) := by
 intro a0 a1 a2 a3 a4 a5 a6 k
 unfold laws_FnExactWalk.f
 repeat' first | (with_reducible exact laws_szVol.mono _ _ _ _) | (with_reducible exact laws_toCred.mono _ _ _ _) | (with_reducible exact laws_toVol.mono _ _ _) | (with_reducible exact LeO.refl _) | (with_reducible exact LeO.none _) | (with_reducible refine LeO.ite ?_ ?_) | (with_reducible refine LeO.bind ?_ (fun _ => ?_)) | exact LeO.none _ | refine LeO.ite ?_ ?_ | refine LeO.bind ?_ (fun _ => ?_)
def laws_FnExactWalk.T10 : Bool × List (List Nat × List Nat) := (true, [([], []), ([0], [0]), ([], []), ([2, 1], [2]), ([], []), ([], []), ([1, 3, 4, 5, 3], [1, 3, 4, 5]), ([], []), ([7, 6, 6, 0, 1, 2, 3, 4, 5, 6, 7], [6, 7])])
def laws_FnExactWalk.B10 : List Nat := [0, 1, 0, 7, 0, 0, 63, 0, 255]
theorem laws_FnExactWalk.tab10 : rtab .any (opsOf Tryd.f6 10) = laws_FnExactWalk.T10 := by kernel_rfl
theorem laws_FnExactWalk.bits10 : waitsOk laws_FnExactWalk.T10.2 laws_FnExactWalk.B10 = true := by kernel_rfl
set_option maxHeartbeats 8000000 in
set_option maxRecDepth 100000 in
theorem laws_FnExactWalk.calls (k : Nat) (a0_0 : Int) (A0_1 : Option Addr) (c0_1 : Nat) (l0_1 : List (S87)) (a1_0 : Int) (a1_1 : Int) (A1_2 : Option Addr) (c1_2 : Nat) (l1_2 : List Int) (a2 : ByteArray) (a3 : Bool) (r : Bool) (w : World) (hr0_1 : Kd.C k87 w A0_1 l0_1.length l0_1) (hc0_1 : l0_1.length ≤ c0_1) (hr1_2 : Kd.C (Kd.int .i64) w A1_2 l1_2.length l1_2) (hc1_2 : l1_2.length ≤ c1_2) (m0 : Int) (hm0 : w.cell? ⟨0, 0, none⟩ = some (.int .i64 m0)) (hr_ : r = true) (h : laws_FnExactWalk.f k a0_0 l0_1 a1_0 a1_1 l1_2 a2 a3 = some r) :
  Calls Tryd.prog 6 #[.agg #[.int .i64 a0_0, .slice A0_1 l0_1.length c0_1], .agg #[.int .i64 a1_0, .int .i64 a1_1, .slice A1_2 l1_2.length c1_2], .string a2, .bool a3] w fun e w' => e = .returned (.bool r) ∧ Below w.heap.size w w' := by
 have HM0 := zM hm0
 clear hm0
 have hu34 := Tryd.underlying34
 have hu37 := Tryd.underlying37
 have hu41 := Tryd.underlying41
 have hu45 := Tryd.underlying45
 have hu47 := Tryd.underlying47
 have HR0_1 := zM hr0_1
 have HC0_1 := zM hc0_1
 clear hr0_1 hc0_1
 have HR1_2 := zM hr1_2
 have HC1_2 := zM hc1_2
 clear hr1_2 hc1_2
 have HB := zM (Below.refl w.heap.size w)
 have H : (if (a2.size : Int) > 1048576 then (some true) else ((laws_szVol.f k a0_0 l0_1 1048576).bind fun t246 => (if t246 < 0 then (some true) else ((laws_szCred.f a1_0 a1_1 l1_2 t246).bind fun t247 => (if t247 < 0 then (some true) else ((laws_toVol.f k a0_0 l0_1).bind fun bt248 => ((laws_toCred.f k a1_0 a1_1 l1_2).bind fun bt252 => ((spec_Walk.f bt248.1 bt248.2 bt252.1 bt252.2.1 bt252.2.2 a2 a3).bind fun bt257 => ((laws_toVol.f k a0_0 l0_1).bind fun bt262 => ((laws_toCred.f k a1_0 a1_1 l1_2).bind fun bt267 => ((impl_Walk.f bt262.1 bt262.2 bt267.1 bt267.2.1 bt267.2.2 a2 a3).bind fun bt273 => ((laws_eqSpot.f bt273.1 bt273.2.1 bt273.2.2.1 bt273.2.2.2 bt257.1 bt257.2.1 bt257.2.2.1 bt257.2.2.2).bind fun t278 => (if t278 = true then ((laws_toVol.f k a0_0 l0_1).bind fun bt279 => ((laws_eqVol.f bt262.1 bt262.2 bt279.1 bt279.2).bind fun t283 => (if t283 = true then ((laws_toCred.f k a1_0 a1_1 l1_2).bind fun bt284 => ((laws_eqCred.f bt267.1 bt267.2.1 bt267.2.2 bt284.1 bt284.2.1 bt284.2.2).bind fun t289 => (if t289 = true then (some true) else (some false)))) else (some false)))) else (some false)))))))))))))) = some r := h
 clear h
 have Hr_ := zM hr_
 clear hr_
 by_cases c5 : (a2.size : Int) > 1048576
 ·rw [if_pos c5] at H
  have c5b0 : decide (1048576 < (a2.size : Int)) = true := zE c5
  have c5b1 : decide (1048576 < a2.size) = true := zE (by omega)
  clear c5
  obtain rfl := zI H
  go_enter Tryd.func6, Tryd.ntmps6
  go_wp2_with (first | ((with_reducible refine gate_dst (N := 4) rfl ?_); refine box_event ?hg (N := 4) ?hd (cs := #[.int .i64 a0_0, .slice A0_1 l0_1.length c0_1]) (t := 34) ?hr ?_; (case hd => rfl); (case hg => rfl); (case hr => first | (go_simp; done) | (go_simp; rfl)); intro gb244 hg w6 hbox hb; have n0_ := zM (zP (by with_reducible repeat (first | exact HB.out | apply zA | apply zN | apply zD)) hb); have n1_ := zM (hbox); have n2_ := zM ((by rw [hg]; exact (zZ (by with_reducible repeat (first | exact HB.out | apply zA | apply zN | apply zD))) : w.heap.size ≤ gb244)); have n3_ := zM ((by rw [hg]; exact (zZ (by with_reducible repeat (first | exact HB.out | apply zA | apply zN | apply zD))) : w.heap.size ≤ gb244)); clear HB; have HB := n0_; have BK244 := n1_; have GW244 := n2_; have GE244 := n3_; clear n0_ n1_ n2_ n3_; clear hb hbox hg) | ((with_reducible refine gate_dst (N := 5) rfl ?_); refine box_event ?hg (N := 5) ?hd (cs := #[.int .i64 a1_0, .int .i64 a1_1, .slice A1_2 l1_2.length c1_2]) (t := 37) ?hr ?_; (case hd => rfl); (case hg => rfl); (case hr => first | (go_simp; done) | (go_simp; rfl)); intro gb245 hg w7 hbox hb; have n0_ := zM (zL (g := gb244) (o := .cells #[.int .i64 a0_0, .slice A0_1 l0_1.length c0_1] 34 (0, 0)) (by (with_reducible repeat (first | refine zK ?_ _ | refine zW ?_ | refine zB ?_ _)); exact BK244.out) hb); have n1_ := zM (zP (by with_reducible repeat (first | exact HB.out | apply zA | apply zN | apply zD | refine zS ?_ GE244.out)) hb); have n2_ := zM (hbox); have n3_ := zM ((by rw [hg]; exact (zZ (by with_reducible repeat (first | exact HB.out | apply zA | apply zN | apply zD | refine zS ?_ GE244.out))) : w.heap.size ≤ gb245)); have n4_ := zM ((by rw [hg]; exact (zZ (by with_reducible repeat (first | exact HB.out | apply zA | apply zN | apply zD | refine zS ?_ GE244.out))) : w.heap.size ≤ gb245)); have n5_ := zM ((by rw [hg]; exact Nat.ne_of_lt (blk_lt (g := gb244) (o := .cells #[.int .i64 a0_0, .slice A0_1 l0_1.length c0_1] 34 (0, 0)) (by (with_reducible repeat (first | refine zK ?_ _ | refine zW ?_ | refine zB ?_ _)); exact BK244.out)) : gb244 ≠ gb245)); have n6_ := zM ((by rw [hg]; exact Nat.ne_of_gt (blk_lt (g := gb244) (o := .cells #[.int .i64 a0_0, .slice A0_1 l0_1.length c0_1] 34 (0, 0)) (by (with_reducible repeat (first | refine zK ?_ _ | refine zW ?_ | refine zB ?_ _)); exact BK244.out)) : gb245 ≠ gb244)); clear BK244; clear HB; have BK244 := n0_; have HB := n1_; have BK245 := n2_; have GW245 := n3_; have GE245 := n4_; have NB244_245 := n5_; have NB245_244 := n6_; clear n0_ n1_ n2_ n3_ n4_ n5_ n6_; clear hb hbox hg))
  go_ret
  exact ⟨by first | rfl | (simp [errW_none, errW_some] <;> rfl) | (simp [*, errW_none, errW_some] <;> rfl), by repeat (first | (with_reducible first | exact HB.out | apply zA | apply zN | apply zD | refine zS ?_ GE244.out | refine zS ?_ GE245.out) | exact HB.out)⟩
 rw [if_neg c5] at H
 have c5b0 : decide (1048576 < (a2.size : Int)) = false := zG c5
 have c5b1 : decide (1048576 < a2.size) = false := zG (by omega)
 clear c5
 replace H := Option.bind_eq_some_iff.mp H
 obtain ⟨t246, A80, H⟩ := H
 replace H : (if t246 < 0 then (some true) else ((laws_szCred.f a1_0 a1_1 l1_2 t246).bind fun t247 => (if t247 < 0 then (some true) else ((laws_toVol.f k a0_0 l0_1).bind fun bt248 => ((laws_toCred.f k a1_0 a1_1 l1_2).bind fun bt252 => ((spec_Walk.f bt248.1 bt248.2 bt252.1 bt252.2.1 bt252.2.2 a2 a3).bind fun bt257 => ((laws_toVol.f k a0_0 l0_1).bind fun bt262 => ((laws_toCred.f k a1_0 a1_1 l1_2).bind fun bt267 => ((impl_Walk.f bt262.1 bt262.2 bt267.1 bt267.2.1 bt267.2.2 a2 a3).bind fun bt273 => ((laws_eqSpot.f bt273.1 bt273.2.1 bt273.2.2.1 bt273.2.2.2 bt257.1 bt257.2.1 bt257.2.2.1 bt257.2.2.2).bind fun t278 => (if t278 = true then ((laws_toVol.f k a0_0 l0_1).bind fun bt279 => ((laws_eqVol.f bt262.1 bt262.2 bt279.1 bt279.2).bind fun t283 => (if t283 = true then ((laws_toCred.f k a1_0 a1_1 l1_2).bind fun bt284 => ((laws_eqCred.f bt267.1 bt267.2.1 bt267.2.2 bt284.1 bt284.2.1 bt284.2.2).bind fun t289 => (if t289 = true then (some true) else (some false)))) else (some false)))) else (some false)))))))))))) = some r := H
 have A8 := zM A80
 clear A80
 by_cases c9 : t246 < 0
 ·rw [if_pos c9] at H
  have c9b0 : decide (t246 < 0) = true := zE c9
  clear c9
  obtain rfl := zI H
  go_enter Tryd.func6, Tryd.ntmps6
  go_wp2_with (first | ((with_reducible refine gate_dst (N := 4) rfl ?_); refine box_event ?hg (N := 4) ?hd (cs := #[.int .i64 a0_0, .slice A0_1 l0_1.length c0_1]) (t := 34) ?hr ?_; (case hd => rfl); (case hg => rfl); (case hr => first | (go_simp; done) | (go_simp; rfl)); intro gb244 hg w10 hbox hb; have n0_ := zM (zP (by with_reducible repeat (first | exact HB.out | apply zA | apply zN | apply zD)) hb); have n1_ := zM (hbox); have n2_ := zM ((by rw [hg]; exact (zZ (by with_reducible repeat (first | exact HB.out | apply zA | apply zN | apply zD))) : w.heap.size ≤ gb244)); have n3_ := zM ((by rw [hg]; exact (zZ (by with_reducible repeat (first | exact HB.out | apply zA | apply zN | apply zD))) : w.heap.size ≤ gb244)); clear HB; have HB := n0_; have BK244 := n1_; have GW244 := n2_; have GE244 := n3_; clear n0_ n1_ n2_ n3_; clear hb hbox hg) | ((with_reducible refine gate_dst (N := 5) rfl ?_); refine box_event ?hg (N := 5) ?hd (cs := #[.int .i64 a1_0, .int .i64 a1_1, .slice A1_2 l1_2.length c1_2]) (t := 37) ?hr ?_; (case hd => rfl); (case hg => rfl); (case hr => first | (go_simp; done) | (go_simp; rfl)); intro gb245 hg w11 hbox hb; have n0_ := zM (zL (g := gb244) (o := .cells #[.int .i64 a0_0, .slice A0_1 l0_1.length c0_1] 34 (0, 0)) (by (with_reducible repeat (first | refine zK ?_ _ | refine zW ?_ | refine zB ?_ _)); exact BK244.out) hb); have n1_ := zM (zP (by with_reducible repeat (first | exact HB.out | apply zA | apply zN | apply zD | refine zS ?_ GE244.out)) hb); have n2_ := zM (hbox); have n3_ := zM ((by rw [hg]; exact (zZ (by with_reducible repeat (first | exact HB.out | apply zA | apply zN | apply zD | refine zS ?_ GE244.out))) : w.heap.size ≤ gb245)); have n4_ := zM ((by rw [hg]; exact (zZ (by with_reducible repeat (first | exact HB.out | apply zA | apply zN | apply zD | refine zS ?_ GE244.out))) : w.heap.size ≤ gb245)); have n5_ := zM ((by rw [hg]; exact Nat.ne_of_lt (blk_lt (g := gb244) (o := .cells #[.int .i64 a0_0, .slice A0_1 l0_1.length c0_1] 34 (0, 0)) (by (with_reducible repeat (first | refine zK ?_ _ | refine zW ?_ | refine zB ?_ _)); exact BK244.out)) : gb244 ≠ gb245)); have n6_ := zM ((by rw [hg]; exact Nat.ne_of_gt (blk_lt (g := gb244) (o := .cells #[.int .i64 a0_0, .slice A0_1 l0_1.length c0_1] 34 (0, 0)) (by (with_reducible repeat (first | refine zK ?_ _ | refine zW ?_ | refine zB ?_ _)); exact BK244.out)) : gb245 ≠ gb244)); clear BK244; clear HB; have BK244 := n0_; have HB := n1_; have BK245 := n2_; have GW245 := n3_; have GE245 := n4_; have NB244_245 := n5_; have NB245_244 := n6_; clear n0_ n1_ n2_ n3_ n4_ n5_ n6_; clear hb hbox hg; have hnb12 := NB244_245.out; have hnc12 := NB245_244.out; have hcz13_0 : w11.cell? ⟨gb244, 0, none⟩ = some (.int .i64 a0_0) := (zC BK244.out 0).trans rfl; have hcz13_1 : w11.cell? ⟨gb244, 1, none⟩ = some (.slice A0_1 l0_1.length c0_1) := (zC BK244.out 1).trans rfl; have hfz13_0 := zF BK244.out 0; have hfz13_1 := zF BK244.out 1) | ((with_reducible refine gate_callee (f := 16) rfl ?_); refine goesL_ (some 19) rfl rfl Tryd.func16 (by kernel_rfl) rfl #[.agg #[.int .i64 a0_0, .slice A0_1 l0_1.length c0_1], .int .i64 1048576] rfl (by (try simp only [List.map_toArray, List.map_cons, List.map_nil]); first | done | rfl | (simp only [List.length_drop, List.length_take]; rfl)) ?_; (with_reducible refine (laws_szVol.calls k a0_0 _ _ l0_1 1048576 t246 _ ?side1 ?side2 A8.out).mono ?_); (case side1 => repeat (first | exact (Kd.C_below HR0_1.out HB.out) | (with_reducible refine Kd.C_alloc ?_ _) | (with_reducible refine Kd.C_drewN ?_ _) | (with_reducible refine Kd.C_drew ?_))); (case side2 => exact HC0_1.out); rintro e w14 ⟨rfl, hb⟩; refine ⟨_, rfl, ?_⟩; have n0_ := zM (zL (g := gb244) (o := .cells #[.int .i64 a0_0, .slice A0_1 l0_1.length c0_1] 34 (0, 0)) (by (with_reducible repeat (first | refine zK ?_ _ | refine zW ?_ | refine zB ?_ _)); exact BK244.out) hb); have n1_ := zM (zL (g := gb245) (o := .cells #[.int .i64 a1_0, .int .i64 a1_1, .slice A1_2 l1_2.length c1_2] 37 (0, 0)) (by (with_reducible repeat (first | refine zK ?_ _ | refine zW ?_ | refine zB ?_ _)); exact BK245.out) hb); have n2_ := zM (zP (by with_reducible repeat (first | exact HB.out | apply zA | apply zN | apply zD | refine zS ?_ GE244.out | refine zS ?_ GE245.out)) hb); clear BK244; clear BK245; clear HB; have BK244 := n0_; have BK245 := n1_; have HB := n2_; clear n0_ n1_ n2_; (try clear hb); (try clear hb2); (try clear hk); (try clear hi)))
  go_ret
  exact ⟨by first | rfl | (simp [errW_none, errW_some] <;> rfl) | (simp [*, errW_none, errW_some] <;> rfl), by repeat (first | (with_reducible first | exact HB.out | apply zA | apply zN | apply zD | refine zS ?_ GE244.out | refine zS ?_ GE245.out) | exact HB.out)⟩
 rw [if_neg c9] at H
 have c9b0 : decide (t246 < 0) = false := zG c9
 clear c9
 replace H := Option.bind_eq_some_iff.mp H
 obtain ⟨t247, A150, H⟩ := H
 replace H : (if t247 < 0 then (some true) else ((laws_toVol.f k a0_0 l0_1).bind fun bt248 => ((laws_toCred.f k a1_0 a1_1 l1_2).bind fun bt252 => ((spec_Walk.f bt248.1 bt248.2 bt252.1 bt252.2.1 bt252.2.2 a2 a3).bind fun bt257 => ((laws_toVol.f k a0_0 l0_1).bind fun bt262 => ((laws_toCred.f k a1_0 a1_1 l1_2).bind fun bt267 => ((impl_Walk.f bt262.1 bt262.2 bt267.1 bt267.2.1 bt267.2.2 a2 a3).bind fun bt273 => ((laws_eqSpot.f bt273.1 bt273.2.1 bt273.2.2.1 bt273.2.2.2 bt257.1 bt257.2.1 bt257.2.2.1 bt257.2.2.2).bind fun t278 => (if t278 = true then ((laws_toVol.f k a0_0 l0_1).bind fun bt279 => ((laws_eqVol.f bt262.1 bt262.2 bt279.1 bt279.2).bind fun t283 => (if t283 = true then ((laws_toCred.f k a1_0 a1_1 l1_2).bind fun bt284 => ((laws_eqCred.f bt267.1 bt267.2.1 bt267.2.2 bt284.1 bt284.2.1 bt284.2.2).bind fun t289 => (if t289 = true then (some true) else (some false)))) else (some false)))) else (some false)))))))))) = some r := H
 have A15 := zM A150
 clear A150
 by_cases c16 : t247 < 0
 ·rw [if_pos c16] at H
  have c16b0 : decide (t247 < 0) = true := zE c16
  clear c16
  obtain rfl := zI H
  go_enter Tryd.func6, Tryd.ntmps6
  go_wp2_with (first | ((with_reducible refine gate_dst (N := 4) rfl ?_); refine box_event ?hg (N := 4) ?hd (cs := #[.int .i64 a0_0, .slice A0_1 l0_1.length c0_1]) (t := 34) ?hr ?_; (case hd => rfl); (case hg => rfl); (case hr => first | (go_simp; done) | (go_simp; rfl)); intro gb244 hg w17 hbox hb; have n0_ := zM (zP (by with_reducible repeat (first | exact HB.out | apply zA | apply zN | apply zD)) hb); have n1_ := zM (hbox); have n2_ := zM ((by rw [hg]; exact (zZ (by with_reducible repeat (first | exact HB.out | apply zA | apply zN | apply zD))) : w.heap.size ≤ gb244)); have n3_ := zM ((by rw [hg]; exact (zZ (by with_reducible repeat (first | exact HB.out | apply zA | apply zN | apply zD))) : w.heap.size ≤ gb244)); clear HB; have HB := n0_; have BK244 := n1_; have GW244 := n2_; have GE244 := n3_; clear n0_ n1_ n2_ n3_; clear hb hbox hg) | ((with_reducible refine gate_dst (N := 5) rfl ?_); refine box_event ?hg (N := 5) ?hd (cs := #[.int .i64 a1_0, .int .i64 a1_1, .slice A1_2 l1_2.length c1_2]) (t := 37) ?hr ?_; (case hd => rfl); (case hg => rfl); (case hr => first | (go_simp; done) | (go_simp; rfl)); intro gb245 hg w18 hbox hb; have n0_ := zM (zL (g := gb244) (o := .cells #[.int .i64 a0_0, .slice A0_1 l0_1.length c0_1] 34 (0, 0)) (by (with_reducible repeat (first | refine zK ?_ _ | refine zW ?_ | refine zB ?_ _)); exact BK244.out) hb); have n1_ := zM (zP (by with_reducible repeat (first | exact HB.out | apply zA | apply zN | apply zD | refine zS ?_ GE244.out)) hb); have n2_ := zM (hbox); have n3_ := zM ((by rw [hg]; exact (zZ (by with_reducible repeat (first | exact HB.out | apply zA | apply zN | apply zD | refine zS ?_ GE244.out))) : w.heap.size ≤ gb245)); have n4_ := zM ((by rw [hg]; exact (zZ (by with_reducible repeat (first | exact HB.out | apply zA | apply zN | apply zD | refine zS ?_ GE244.out))) : w.heap.size ≤ gb245)); have n5_ := zM ((by rw [hg]; exact Nat.ne_of_lt (blk_lt (g := gb244) (o := .cells #[.int .i64 a0_0, .slice A0_1 l0_1.length c0_1] 34 (0, 0)) (by (with_reducible repeat (first | refine zK ?_ _ | refine zW ?_ | refine zB ?_ _)); exact BK244.out)) : gb244 ≠ gb245)); have n6_ := zM ((by rw [hg]; exact Nat.ne_of_gt (blk_lt (g := gb244) (o := .cells #[.int .i64 a0_0, .slice A0_1 l0_1.length c0_1] 34 (0, 0)) (by (with_reducible repeat (first | refine zK ?_ _ | refine zW ?_ | refine zB ?_ _)); exact BK244.out)) : gb245 ≠ gb244)); clear BK244; clear HB; have BK244 := n0_; have HB := n1_; have BK245 := n2_; have GW245 := n3_; have GE245 := n4_; have NB244_245 := n5_; have NB245_244 := n6_; clear n0_ n1_ n2_ n3_ n4_ n5_ n6_; clear hb hbox hg; have hnb19 := NB244_245.out; have hnc19 := NB245_244.out; have hcz20_0 : w18.cell? ⟨gb244, 0, none⟩ = some (.int .i64 a0_0) := (zC BK244.out 0).trans rfl; have hcz20_1 : w18.cell? ⟨gb244, 1, none⟩ = some (.slice A0_1 l0_1.length c0_1) := (zC BK244.out 1).trans rfl; have hfz20_0 := zF BK244.out 0; have hfz20_1 := zF BK244.out 1) | ((with_reducible refine gate_callee (f := 16) rfl ?_); refine goesL_ (some 19) rfl rfl Tryd.func16 (by kernel_rfl) rfl #[.agg #[.int .i64 a0_0, .slice A0_1 l0_1.length c0_1], .int .i64 1048576] rfl (by (try simp only [List.map_toArray, List.map_cons, List.map_nil]); first | done | rfl | (simp only [List.length_drop, List.length_take]; rfl)) ?_; (with_reducible refine (laws_szVol.calls k a0_0 _ _ l0_1 1048576 t246 _ ?side1 ?side2 A8.out).mono ?_); (case side1 => repeat (first | exact (Kd.C_below HR0_1.out HB.out) | (with_reducible refine Kd.C_alloc ?_ _) | (with_reducible refine Kd.C_drewN ?_ _) | (with_reducible refine Kd.C_drew ?_))); (case side2 => exact HC0_1.out); rintro e w21 ⟨rfl, hb⟩; refine ⟨_, rfl, ?_⟩; have n0_ := zM (zL (g := gb244) (o := .cells #[.int .i64 a0_0, .slice A0_1 l0_1.length c0_1] 34 (0, 0)) (by (with_reducible repeat (first | refine zK ?_ _ | refine zW ?_ | refine zB ?_ _)); exact BK244.out) hb); have n1_ := zM (zL (g := gb245) (o := .cells #[.int .i64 a1_0, .int .i64 a1_1, .slice A1_2 l1_2.length c1_2] 37 (0, 0)) (by (with_reducible repeat (first | refine zK ?_ _ | refine zW ?_ | refine zB ?_ _)); exact BK245.out) hb); have n2_ := zM (zP (by with_reducible repeat (first | exact HB.out | apply zA | apply zN | apply zD | refine zS ?_ GE244.out | refine zS ?_ GE245.out)) hb); clear BK244; clear BK245; clear HB; have BK244 := n0_; have BK245 := n1_; have HB := n2_; clear n0_ n1_ n2_; (try clear hb); (try clear hb2); (try clear hk); (try clear hi); have hcz22_0 : w21.cell? ⟨gb245, 0, none⟩ = some (.int .i64 a1_0) := (zC BK245.out 0).trans rfl; have hcz22_1 : w21.cell? ⟨gb245, 1, none⟩ = some (.int .i64 a1_1) := (zC BK245.out 1).trans rfl; have hcz22_2 : w21.cell? ⟨gb245, 2, none⟩ = some (.slice A1_2 l1_2.length c1_2) := (zC BK245.out 2).trans rfl; have hfz22_0 := zF BK245.out 0; have hfz22_1 := zF BK245.out 1; have hfz22_2 := zF BK245.out 2) | ((with_reducible refine gate_callee (f := 17) rfl ?_); refine goesL_ (some 24) rfl rfl Tryd.func17 (by kernel_rfl) rfl #[.agg #[.int .i64 a1_0, .int .i64 a1_1, .slice A1_2 l1_2.length c1_2], .int .i64 t246] rfl (by (try simp only [List.map_toArray, List.map_cons, List.map_nil]); first | done | rfl | (simp only [List.length_drop, List.length_take]; rfl)) ?_; (with_reducible refine (laws_szCred.calls a1_0 a1_1 _ _ l1_2 t246 t247 _ ?side1 ?side2 A15.out).mono ?_); (case side1 => repeat (first | exact (Kd.C_below HR1_2.out HB.out) | (with_reducible refine Kd.C_alloc ?_ _) | (with_reducible refine Kd.C_drewN ?_ _) | (with_reducible refine Kd.C_drew ?_))); (case side2 => exact HC1_2.out); rintro e w23 ⟨rfl, hb⟩; refine ⟨_, rfl, ?_⟩; have n0_ := zM (zL (g := gb244) (o := .cells #[.int .i64 a0_0, .slice A0_1 l0_1.length c0_1] 34 (0, 0)) (by (with_reducible repeat (first | refine zK ?_ _ | refine zW ?_ | refine zB ?_ _)); exact BK244.out) hb); have n1_ := zM (zL (g := gb245) (o := .cells #[.int .i64 a1_0, .int .i64 a1_1, .slice A1_2 l1_2.length c1_2] 37 (0, 0)) (by (with_reducible repeat (first | refine zK ?_ _ | refine zW ?_ | refine zB ?_ _)); exact BK245.out) hb); have n2_ := zM (zP (by with_reducible repeat (first | exact HB.out | apply zA | apply zN | apply zD | refine zS ?_ GE244.out | refine zS ?_ GE245.out)) hb); clear BK244; clear BK245; clear HB; have BK244 := n0_; have BK245 := n1_; have HB := n2_; clear n0_ n1_ n2_; (try clear hb); (try clear hb2); (try clear hk); (try clear hi)))
  go_ret
  exact ⟨by first | rfl | (simp [errW_none, errW_some] <;> rfl) | (simp [*, errW_none, errW_some] <;> rfl), by repeat (first | (with_reducible first | exact HB.out | apply zA | apply zN | apply zD | refine zS ?_ GE244.out | refine zS ?_ GE245.out) | exact HB.out)⟩
 rw [if_neg c16] at H
 have c16b0 : decide (t247 < 0) = false := zG c16
 clear c16
 replace H := Option.bind_eq_some_iff.mp H
 obtain ⟨⟨t248, t249⟩, A240, H⟩ := H
 replace H : ((laws_toCred.f k a1_0 a1_1 l1_2).bind fun bt252 => ((spec_Walk.f t248 t249 bt252.1 bt252.2.1 bt252.2.2 a2 a3).bind fun bt257 => ((laws_toVol.f k a0_0 l0_1).bind fun bt262 => ((laws_toCred.f k a1_0 a1_1 l1_2).bind fun bt267 => ((impl_Walk.f bt262.1 bt262.2 bt267.1 bt267.2.1 bt267.2.2 a2 a3).bind fun bt273 => ((laws_eqSpot.f bt273.1 bt273.2.1 bt273.2.2.1 bt273.2.2.2 bt257.1 bt257.2.1 bt257.2.2.1 bt257.2.2.2).bind fun t278 => (if t278 = true then ((laws_toVol.f k a0_0 l0_1).bind fun bt279 => ((laws_eqVol.f bt262.1 bt262.2 bt279.1 bt279.2).bind fun t283 => (if t283 = true then ((laws_toCred.f k a1_0 a1_1 l1_2).bind fun bt284 => ((laws_eqCred.f bt267.1 bt267.2.1 bt267.2.2 bt284.1 bt284.2.1 bt284.2.2).bind fun t289 => (if t289 = true then (some true) else (some false)))) else (some false)))) else (some false)))))))) = some r := H
 have A24 := zM A240
 clear A240
 replace H := Option.bind_eq_some_iff.mp H
 obtain ⟨⟨t252, t253, t254⟩, A250, H⟩ := H
 replace H : ((spec_Walk.f t248 t249 t252 t253 t254 a2 a3).bind fun bt257 => ((laws_toVol.f k a0_0 l0_1).bind fun bt262 => ((laws_toCred.f k a1_0 a1_1 l1_2).bind fun bt267 => ((impl_Walk.f bt262.1 bt262.2 bt267.1 bt267.2.1 bt267.2.2 a2 a3).bind fun bt273 => ((laws_eqSpot.f bt273.1 bt273.2.1 bt273.2.2.1 bt273.2.2.2 bt257.1 bt257.2.1 bt257.2.2.1 bt257.2.2.2).bind fun t278 => (if t278 = true then ((laws_toVol.f k a0_0 l0_1).bind fun bt279 => ((laws_eqVol.f bt262.1 bt262.2 bt279.1 bt279.2).bind fun t283 => (if t283 = true then ((laws_toCred.f k a1_0 a1_1 l1_2).bind fun bt284 => ((laws_eqCred.f bt267.1 bt267.2.1 bt267.2.2 bt284.1 bt284.2.1 bt284.2.2).bind fun t289 => (if t289 = true then (some true) else (some false)))) else (some false)))) else (some false))))))) = some r := H
 have A25 := zM A250
 clear A250
 replace H := Option.bind_eq_some_iff.mp H
 obtain ⟨⟨t257, t258, t259, t260⟩, A260, H⟩ := H
 replace H : ((laws_toVol.f k a0_0 l0_1).bind fun bt262 => ((laws_toCred.f k a1_0 a1_1 l1_2).bind fun bt267 => ((impl_Walk.f bt262.1 bt262.2 bt267.1 bt267.2.1 bt267.2.2 a2 a3).bind fun bt273 => ((laws_eqSpot.f bt273.1 bt273.2.1 bt273.2.2.1 bt273.2.2.2 t257 t258 t259 t260).bind fun t278 => (if t278 = true then ((laws_toVol.f k a0_0 l0_1).bind fun bt279 => ((laws_eqVol.f bt262.1 bt262.2 bt279.1 bt279.2).bind fun t283 => (if t283 = true then ((laws_toCred.f k a1_0 a1_1 l1_2).bind fun bt284 => ((laws_eqCred.f bt267.1 bt267.2.1 bt267.2.2 bt284.1 bt284.2.1 bt284.2.2).bind fun t289 => (if t289 = true then (some true) else (some false)))) else (some false)))) else (some false)))))) = some r := H
 have A26 := zM A260
 clear A260
 replace H := Option.bind_eq_some_iff.mp H
 obtain ⟨⟨t262, t263⟩, A270, H⟩ := H
 replace H : ((laws_toCred.f k a1_0 a1_1 l1_2).bind fun bt267 => ((impl_Walk.f t262 t263 bt267.1 bt267.2.1 bt267.2.2 a2 a3).bind fun bt273 => ((laws_eqSpot.f bt273.1 bt273.2.1 bt273.2.2.1 bt273.2.2.2 t257 t258 t259 t260).bind fun t278 => (if t278 = true then ((laws_toVol.f k a0_0 l0_1).bind fun bt279 => ((laws_eqVol.f t262 t263 bt279.1 bt279.2).bind fun t283 => (if t283 = true then ((laws_toCred.f k a1_0 a1_1 l1_2).bind fun bt284 => ((laws_eqCred.f bt267.1 bt267.2.1 bt267.2.2 bt284.1 bt284.2.1 bt284.2.2).bind fun t289 => (if t289 = true then (some true) else (some false)))) else (some false)))) else (some false))))) = some r := H
 have A27 := zM A270
 clear A270
 replace H := Option.bind_eq_some_iff.mp H
 obtain ⟨⟨t267, t268, t269⟩, A280, H⟩ := H
 replace H : ((impl_Walk.f t262 t263 t267 t268 t269 a2 a3).bind fun bt273 => ((laws_eqSpot.f bt273.1 bt273.2.1 bt273.2.2.1 bt273.2.2.2 t257 t258 t259 t260).bind fun t278 => (if t278 = true then ((laws_toVol.f k a0_0 l0_1).bind fun bt279 => ((laws_eqVol.f t262 t263 bt279.1 bt279.2).bind fun t283 => (if t283 = true then ((laws_toCred.f k a1_0 a1_1 l1_2).bind fun bt284 => ((laws_eqCred.f t267 t268 t269 bt284.1 bt284.2.1 bt284.2.2).bind fun t289 => (if t289 = true then (some true) else (some false)))) else (some false)))) else (some false)))) = some r := H
 have A28 := zM A280
 clear A280
 replace H := Option.bind_eq_some_iff.mp H
 obtain ⟨⟨t273, t274, t275, t276⟩, A290, H⟩ := H
 replace H : ((laws_eqSpot.f t273 t274 t275 t276 t257 t258 t259 t260).bind fun t278 => (if t278 = true then ((laws_toVol.f k a0_0 l0_1).bind fun bt279 => ((laws_eqVol.f t262 t263 bt279.1 bt279.2).bind fun t283 => (if t283 = true then ((laws_toCred.f k a1_0 a1_1 l1_2).bind fun bt284 => ((laws_eqCred.f t267 t268 t269 bt284.1 bt284.2.1 bt284.2.2).bind fun t289 => (if t289 = true then (some true) else (some false)))) else (some false)))) else (some false))) = some r := H
 have A29 := zM A290
 clear A290
 replace H := Option.bind_eq_some_iff.mp H
 obtain ⟨t278, A300, H⟩ := H
 replace H : (if t278 = true then ((laws_toVol.f k a0_0 l0_1).bind fun bt279 => ((laws_eqVol.f t262 t263 bt279.1 bt279.2).bind fun t283 => (if t283 = true then ((laws_toCred.f k a1_0 a1_1 l1_2).bind fun bt284 => ((laws_eqCred.f t267 t268 t269 bt284.1 bt284.2.1 bt284.2.2).bind fun t289 => (if t289 = true then (some true) else (some false)))) else (some false)))) else (some false)) = some r := H
 have A30 := zM A300
 clear A300
 by_cases c31 : t278 = true
 rotate_left
 ·replace c31 := Bool.eq_false_iff.mpr c31
  subst c31
  have H1 : (some false) = some r := by rw [if_neg (show ¬ (false = true) by decide)] at H; exact H
  clear H
  have H := H1
  clear H1
  exact absurd ((zI H).trans Hr_.out) (by simp)

 subst c31
 have H1 : ((laws_toVol.f k a0_0 l0_1).bind fun bt279 => ((laws_eqVol.f t262 t263 bt279.1 bt279.2).bind fun t283 => (if t283 = true then ((laws_toCred.f k a1_0 a1_1 l1_2).bind fun bt284 => ((laws_eqCred.f t267 t268 t269 bt284.1 bt284.2.1 bt284.2.2).bind fun t289 => (if t289 = true then (some true) else (some false)))) else (some false)))) = some r := by rw [if_pos rfl] at H; exact H
 clear H
 have H := H1
 clear H1
 replace H := Option.bind_eq_some_iff.mp H
 obtain ⟨⟨t279, t280⟩, A320, H⟩ := H
 replace H : ((laws_eqVol.f t262 t263 t279 t280).bind fun t283 => (if t283 = true then ((laws_toCred.f k a1_0 a1_1 l1_2).bind fun bt284 => ((laws_eqCred.f t267 t268 t269 bt284.1 bt284.2.1 bt284.2.2).bind fun t289 => (if t289 = true then (some true) else (some false)))) else (some false))) = some r := H
 have A32 := zM A320
 clear A320
 replace H := Option.bind_eq_some_iff.mp H
 obtain ⟨t283, A330, H⟩ := H
 replace H : (if t283 = true then ((laws_toCred.f k a1_0 a1_1 l1_2).bind fun bt284 => ((laws_eqCred.f t267 t268 t269 bt284.1 bt284.2.1 bt284.2.2).bind fun t289 => (if t289 = true then (some true) else (some false)))) else (some false)) = some r := H
 have A33 := zM A330
 clear A330
 by_cases c34 : t283 = true
 rotate_left
 ·replace c34 := Bool.eq_false_iff.mpr c34
  subst c34
  have H1 : (some false) = some r := by rw [if_neg (show ¬ (false = true) by decide)] at H; exact H
  clear H
  have H := H1
  clear H1
  exact absurd ((zI H).trans Hr_.out) (by simp)
 subst c34
 have H1 : ((laws_toCred.f k a1_0 a1_1 l1_2).bind fun bt284 => ((laws_eqCred.f t267 t268 t269 bt284.1 bt284.2.1 bt284.2.2).bind fun t289 => (if t289 = true then (some true) else (some false)))) = some r := by rw [if_pos rfl] at H; exact H
 clear H
 have H := H1
 clear H1
 replace H := Option.bind_eq_some_iff.mp H
 obtain ⟨⟨t284, t285, t286⟩, A350, H⟩ := H
 replace H : ((laws_eqCred.f t267 t268 t269 t284 t285 t286).bind fun t289 => (if t289 = true then (some true) else (some false))) = some r := H
 have A35 := zM A350
 clear A350
 replace H := Option.bind_eq_some_iff.mp H
 obtain ⟨t289, A360, H⟩ := H
 replace H : (if t289 = true then (some true) else (some false)) = some r := H
 have A36 := zM A360
 clear A360
 by_cases c37 : t289 = true
 rotate_left
 ·replace c37 := Bool.eq_false_iff.mpr c37
  subst c37
  have H1 : (some false) = some r := by rw [if_neg (show ¬ (false = true) by decide)] at H; exact H
  clear H
  have H := H1
  clear H1
  exact absurd ((zI H).trans Hr_.out) (by simp)
 subst c37
 have H1 : (some true) = some r := by rw [if_pos rfl] at H; exact H
 clear H
 have H := H1
 clear H1
 obtain rfl := zI H
 go_enter Tryd.func6, Tryd.ntmps6
 try go_wp2_with (first | ((with_reducible refine gate_dst (N := 4) rfl ?_); refine box_event ?hg (N := 4) ?hd (cs := #[.int .i64 a0_0, .slice A0_1 l0_1.length c0_1]) (t := 34) ?hr ?_; (case hd => rfl); (case hg => rfl); (case hr => first | (go_simp; done) | (go_simp; rfl)); intro gb244 hg w38 hbox hb; have n0_ := zM (zP (by with_reducible repeat (first | exact HB.out | apply zA | apply zN | apply zD)) hb); have n1_ := zM (hbox); have n2_ := zM ((by rw [hg]; exact (zZ (by with_reducible repeat (first | exact HB.out | apply zA | apply zN | apply zD))) : w.heap.size ≤ gb244)); have n3_ := zM ((by rw [hg]; exact (zZ (by with_reducible repeat (first | exact HB.out | apply zA | apply zN | apply zD))) : w.heap.size ≤ gb244)); clear HB; have HB := n0_; have BK244 := n1_; have GW244 := n2_; have GE244 := n3_; clear n0_ n1_ n2_ n3_; clear hb hbox hg) | ((with_reducible refine gate_dst (N := 5) rfl ?_); refine box_event ?hg (N := 5) ?hd (cs := #[.int .i64 a1_0, .int .i64 a1_1, .slice A1_2 l1_2.length c1_2]) (t := 37) ?hr ?_; (case hd => rfl); (case hg => rfl); (case hr => first | (go_simp; done) | (go_simp; rfl)); intro gb245 hg w39 hbox hb; have n0_ := zM (zL (g := gb244) (o := .cells #[.int .i64 a0_0, .slice A0_1 l0_1.length c0_1] 34 (0, 0)) (by (with_reducible repeat (first | refine zK ?_ _ | refine zW ?_ | refine zB ?_ _)); exact BK244.out) hb); have n1_ := zM (zP (by with_reducible repeat (first | exact HB.out | apply zA | apply zN | apply zD | refine zS ?_ GE244.out)) hb); have n2_ := zM (hbox); have n3_ := zM ((by rw [hg]; exact (zZ (by with_reducible repeat (first | exact HB.out | apply zA | apply zN | apply zD | refine zS ?_ GE244.out))) : w.heap.size ≤ gb245)); have n4_ := zM ((by rw [hg]; exact (zZ (by with_reducible repeat (first | exact HB.out | apply zA | apply zN | apply zD | refine zS ?_ GE244.out))) : w.heap.size ≤ gb245)); have n5_ := zM ((by rw [hg]; exact Nat.ne_of_lt (blk_lt (g := gb244) (o := .cells #[.int .i64 a0_0, .slice A0_1 l0_1.length c0_1] 34 (0, 0)) (by (with_reducible repeat (first | refine zK ?_ _ | refine zW ?_ | refine zB ?_ _)); exact BK244.out)) : gb244 ≠ gb245)); have n6_ := zM ((by rw [hg]; exact Nat.ne_of_gt (blk_lt (g := gb244) (o := .cells #[.int .i64 a0_0, .slice A0_1 l0_1.length c0_1] 34 (0, 0)) (by (with_reducible repeat (first | refine zK ?_ _ | refine zW ?_ | refine zB ?_ _)); exact BK244.out)) : gb245 ≠ gb244)); clear BK244; clear HB; have BK244 := n0_; have HB := n1_; have BK245 := n2_; have GW245 := n3_; have GE245 := n4_; have NB244_245 := n5_; have NB245_244 := n6_; clear n0_ n1_ n2_ n3_ n4_ n5_ n6_; clear hb hbox hg; have hnb40 := NB244_245.out; have hnc40 := NB245_244.out; have hcz41_0 : w39.cell? ⟨gb244, 0, none⟩ = some (.int .i64 a0_0) := (zC BK244.out 0).trans rfl; have hcz41_1 : w39.cell? ⟨gb244, 1, none⟩ = some (.slice A0_1 l0_1.length c0_1) := (zC BK244.out 1).trans rfl; have hfz41_0 := zF BK244.out 0; have hfz41_1 := zF BK244.out 1) | ((with_reducible refine gate_callee (f := 16) rfl ?_); refine goesL_ (some 19) rfl rfl Tryd.func16 (by kernel_rfl) rfl #[.agg #[.int .i64 a0_0, .slice A0_1 l0_1.length c0_1], .int .i64 1048576] rfl (by (try simp only [List.map_toArray, List.map_cons, List.map_nil]); first | done | rfl | (simp only [List.length_drop, List.length_take]; rfl)) ?_; (with_reducible refine (laws_szVol.calls k a0_0 _ _ l0_1 1048576 t246 _ ?side1 ?side2 A8.out).mono ?_); (case side1 => repeat (first | exact (Kd.C_below HR0_1.out HB.out) | (with_reducible refine Kd.C_alloc ?_ _) | (with_reducible refine Kd.C_drewN ?_ _) | (with_reducible refine Kd.C_drew ?_))); (case side2 => exact HC0_1.out); rintro e w42 ⟨rfl, hb⟩; refine ⟨_, rfl, ?_⟩; have n0_ := zM (zL (g := gb244) (o := .cells #[.int .i64 a0_0, .slice A0_1 l0_1.length c0_1] 34 (0, 0)) (by (with_reducible repeat (first | refine zK ?_ _ | refine zW ?_ | refine zB ?_ _)); exact BK244.out) hb); have n1_ := zM (zL (g := gb245) (o := .cells #[.int .i64 a1_0, .int .i64 a1_1, .slice A1_2 l1_2.length c1_2] 37 (0, 0)) (by (with_reducible repeat (first | refine zK ?_ _ | refine zW ?_ | refine zB ?_ _)); exact BK245.out) hb); have n2_ := zM (zP (by with_reducible repeat (first | exact HB.out | apply zA | apply zN | apply zD | refine zS ?_ GE244.out | refine zS ?_ GE245.out)) hb); clear BK244; clear BK245; clear HB; have BK244 := n0_; have BK245 := n1_; have HB := n2_; clear n0_ n1_ n2_; (try clear hb); (try clear hb2); (try clear hk); (try clear hi); have hcz43_0 : w42.cell? ⟨gb245, 0, none⟩ = some (.int .i64 a1_0) := (zC BK245.out 0).trans rfl; have hcz43_1 : w42.cell? ⟨gb245, 1, none⟩ = some (.int .i64 a1_1) := (zC BK245.out 1).trans rfl; have hcz43_2 : w42.cell? ⟨gb245, 2, none⟩ = some (.slice A1_2 l1_2.length c1_2) := (zC BK245.out 2).trans rfl; have hfz43_0 := zF BK245.out 0; have hfz43_1 := zF BK245.out 1; have hfz43_2 := zF BK245.out 2) | ((with_reducible refine gate_callee (f := 17) rfl ?_); refine goesL_ (some 24) rfl rfl Tryd.func17 (by kernel_rfl) rfl #[.agg #[.int .i64 a1_0, .int .i64 a1_1, .slice A1_2 l1_2.length c1_2], .int .i64 t246] rfl (by (try simp only [List.map_toArray, List.map_cons, List.map_nil]); first | done | rfl | (simp only [List.length_drop, List.length_take]; rfl)) ?_; (with_reducible refine (laws_szCred.calls a1_0 a1_1 _ _ l1_2 t246 t247 _ ?side1 ?side2 A15.out).mono ?_); (case side1 => repeat (first | exact (Kd.C_below HR1_2.out HB.out) | (with_reducible refine Kd.C_alloc ?_ _) | (with_reducible refine Kd.C_drewN ?_ _) | (with_reducible refine Kd.C_drew ?_))); (case side2 => exact HC1_2.out); rintro e w44 ⟨rfl, hb⟩; refine ⟨_, rfl, ?_⟩; have n0_ := zM (zL (g := gb244) (o := .cells #[.int .i64 a0_0, .slice A0_1 l0_1.length c0_1] 34 (0, 0)) (by (with_reducible repeat (first | refine zK ?_ _ | refine zW ?_ | refine zB ?_ _)); exact BK244.out) hb); have n1_ := zM (zL (g := gb245) (o := .cells #[.int .i64 a1_0, .int .i64 a1_1, .slice A1_2 l1_2.length c1_2] 37 (0, 0)) (by (with_reducible repeat (first | refine zK ?_ _ | refine zW ?_ | refine zB ?_ _)); exact BK245.out) hb); have n2_ := zM (zP (by with_reducible repeat (first | exact HB.out | apply zA | apply zN | apply zD | refine zS ?_ GE244.out | refine zS ?_ GE245.out)) hb); clear BK244; clear BK245; clear HB; have BK244 := n0_; have BK245 := n1_; have HB := n2_; clear n0_ n1_ n2_; (try clear hb); (try clear hb2); (try clear hk); (try clear hi)))
 have n0_ := zM (zW BK244.out)
 have n1_ := zM (zW BK245.out)
 have n2_ := zM (zD HB.out)
 clear BK244
 clear BK245
 clear HB
 have BK244 := n0_
 have BK245 := n1_
 have HB := n2_
 clear n0_ n1_ n2_
 refine start_ (n := 9) (S := fun w' => w'.cell? ⟨gb244, 0, none⟩ = some (.int .i64 a0_0) ∧ w'.cell? ⟨gb244, 1, none⟩ = some (.slice A0_1 l0_1.length c0_1) ∧ w'.cell? ⟨gb245, 0, none⟩ = some (.int .i64 a1_0) ∧ w'.cell? ⟨gb245, 1, none⟩ = some (.int .i64 a1_1) ∧ w'.cell? ⟨gb245, 2, none⟩ = some (.slice A1_2 l1_2.length c1_2)) (ds := []) #[false, false, false, false, false, false, false, false, false] (by kernel_rfl) rfl rfl ⟨(zC BK244.out 0).trans rfl, (zC BK244.out 1).trans rfl, (zC BK245.out 0).trans rfl, (zC BK245.out 1).trans rfl, (zC BK245.out 2).trans rfl⟩ (fun hHeld => ?_); refine with_tabW laws_FnExactWalk.tab10 laws_FnExactWalk.bits10 (fun HT_ HW_ => ?_)
 generalize w44.drew = w45 at BK244 BK245 HB hHeld ⊢
 refine pure_ (i := 4) (N := some 31) (v := ?_) (a' := ?_) #[false, false, false, false, true, false, false, false, false] rfl rfl (any_of HT_.out (by kernel_rfl)) (fun _ _ _ h => h) (Or.inl ⟨by rfl, ?_⟩) ?_ ?_
 rotate_left
 ·intro w'
  go_simp
  with_reducible rfl
 rotate_left
 ·simp only [Act.put, List.setIfInBounds_toArray, List.set_cons_zero, List.set_cons_succ, i64_w, i32_w]
  rfl
 refine pure_ (i := 5) (N := some 32) (v := ?_) (a' := ?_) #[false, false, false, false, true, true, false, false, false] rfl rfl (any_of HT_.out (by kernel_rfl)) (fun _ _ _ h => h) (Or.inl ⟨by rfl, ?_⟩) ?_ ?_
 rotate_left
 ·intro w'
  go_simp
  with_reducible rfl
 rotate_left
 ·simp only [Act.put, List.setIfInBounds_toArray, List.set_cons_zero, List.set_cons_succ, i64_w, i32_w]
  rfl
 refine take_ (i := 0) (N := some 27) (v := ?_) (a' := ?_) #[true, false, false, false, true, true, false, false, false] rfl rfl (take_ofW HT_.out HW_.out (by kernel_rfl)) (fun _ _ _ h => h) (Or.inl ⟨by rfl, ?_⟩) hHeld ?_ ?_
 rotate_left
 ·rintro w' ⟨s0, s1, s2, s3, s4⟩
  go_simp
  with_reducible rfl
 rotate_left
 ·simp only [Act.put, List.setIfInBounds_toArray, List.set_cons_zero, List.set_cons_succ, i64_w, i32_w]
  rfl
 refine take_ (i := 2) (N := some 29) (v := ?_) (a' := ?_) #[true, false, true, false, true, true, false, false, false] rfl rfl (take_ofW HT_.out HW_.out (by kernel_rfl)) (fun _ _ _ h => h) (Or.inl ⟨by rfl, ?_⟩) hHeld ?_ ?_
 rotate_left
 ·rintro w' ⟨s0, s1, s2, s3, s4⟩
  go_simp
  with_reducible rfl
 rotate_left
 ·simp only [Act.put, List.setIfInBounds_toArray, List.set_cons_zero, List.set_cons_succ, i64_w, i32_w]
  rfl
 refine join_ (σ := Value × Value × Nat) 1 #[true, true, true, true, true, true, true, true, false] (fun s_ => [(28, .agg #[.int .i64 t248, s_.1]), (30, .agg #[.int .i64 t252, .int .i64 t253, s_.2.1]), (33, .agg #[.int .i64 t257, .string t258, .int .i64 t259, .int .i64 t260]), (10, .pointer (some ⟨s_.2.2, 0, none⟩))]) (fun s_ w' => (w'.cell? ⟨gb244, 0, none⟩ = some (.int .i64 a0_0) ∧ w'.cell? ⟨gb244, 1, none⟩ = some (.slice A0_1 l0_1.length c0_1) ∧ w'.cell? ⟨gb245, 0, none⟩ = some (.int .i64 a1_0) ∧ w'.cell? ⟨gb245, 1, none⟩ = some (.int .i64 a1_1) ∧ w'.cell? ⟨gb245, 2, none⟩ = some (.slice A1_2 l1_2.length c1_2)) ∧ (Kd.S k90 90 w' w.heap.size (fun _ => True) s_.1 t249) ∧ (Kd.R (Kd.int .i64) 3 w' w.heap.size (fun _ => True) s_.2.1 t254) ∧ (w'.heap[gb244]? = some (.cells #[.int .i64 a0_0, .slice A0_1 l0_1.length c0_1] 34 (0, 0))) ∧ (w'.heap[gb245]? = some (.cells #[.int .i64 a1_0, .int .i64 a1_1, .slice A1_2 l1_2.length c1_2] 37 (0, 0))) ∧ (w'.heap[s_.2.2]? = some (.cells #[.int .i64 0, .string (⟨#[]⟩ : ByteArray), .int .i64 0, .int .i64 0] 41 (0, 0))) ∧ (w.heap.size ≤ s_.2.2) ∧ (w.heap.size ≤ s_.2.2) ∧ (gb244 ≠ s_.2.2) ∧ (s_.2.2 ≠ gb244) ∧ (gb245 ≠ s_.2.2) ∧ (s_.2.2 ≠ gb245) ∧ (Below w.heap.size w w')) ?_ ?_
 rotate_left
 ·intro hCont
  refine two_ (i := 1) (j := 7) (Ni := some 28) (Nj := some 10) #[true, true, true, false, true, true, false, false, false] #[true, false, true, false, true, true, false, true, false] rfl rfl rfl rfl (two_of HT_.out (by kernel_rfl)) (by decide) (by decide) (fun K hK => ?_) (fun K hK => ?_)
  ·skip
   refine goes_ Tryd.func19 (by kernel_rfl) rfl #[.agg #[.int .i64 a0_0, .slice A0_1 l0_1.length c0_1]] (by rfl) rfl rfl (by (try simp only [List.map_toArray, List.map_cons, List.map_nil]); first | done | rfl | (simp only [List.length_drop, List.length_take]; rfl)) ?_
   with_reducible refine (laws_toVol.calls k a0_0 _ _ l0_1 t248 t249 _ ?side1 ?side2 A24.out).mono ?_
   (case side1 => repeat (first | exact (Kd.C_below HR0_1.out HB.out) | (with_reducible refine Kd.C_alloc ?_ _) | (with_reducible refine Kd.C_drewN ?_ _) | (with_reducible refine Kd.C_drew ?_)))
   (case side2 => exact HC0_1.out)
   rintro e w46 ⟨v250, rfl, ho0, hb⟩
   refine ⟨_, rfl, ?_⟩
   have n0_ := zM (Kd.S_lower ho0 (zZ (by with_reducible repeat (first | exact HB.out | apply zA | apply zN | apply zD | refine zS ?_ GE244.out | refine zS ?_ GE245.out))))
   have n1_ := zM (zL (g := gb244) (o := .cells #[.int .i64 a0_0, .slice A0_1 l0_1.length c0_1] 34 (0, 0)) (by (with_reducible repeat (first | refine zK ?_ _ | refine zW ?_ | refine zB ?_ _)); exact BK244.out) hb)
   have n2_ := zM (zL (g := gb245) (o := .cells #[.int .i64 a1_0, .int .i64 a1_1, .slice A1_2 l1_2.length c1_2] 37 (0, 0)) (by (with_reducible repeat (first | refine zK ?_ _ | refine zW ?_ | refine zB ?_ _)); exact BK245.out) hb)
   have n3_ := zM (zP (by with_reducible repeat (first | exact HB.out | apply zA | apply zN | apply zD | refine zS ?_ GE244.out | refine zS ?_ GE245.out)) hb)
   clear BK244
   clear BK245
   clear HB
   have HO251 := n0_
   have BK244 := n1_
   have BK245 := n2_
   have HB := n3_
   clear n0_ n1_ n2_ n3_
   (try clear hb)
   (try clear hb2)
   (try clear hk)
   (try clear hi)
   (try clear ho0)
   refine hK.out _ _ ⟨(zC BK244.out 0).trans rfl, (zC BK244.out 1).trans rfl, (zC BK245.out 0).trans rfl, (zC BK245.out 1).trans rfl, (zC BK245.out 2).trans rfl⟩ (fun hHeld => ?_)
   clear hK K
   refine norm_ (a' := ?_) ?_ ?_
   rotate_left
   ·show Act.put _ (some 28) _ = _
    simp only [Act.put, List.setIfInBounds_toArray, List.set_cons_zero, List.set_cons_succ, i64_w, i32_w]
    rfl
   refine two_ (i := 3) (j := 7) (Ni := some 30) (Nj := some 10) #[true, true, true, true, true, true, false, false, false] #[true, true, true, false, true, true, false, true, false] rfl rfl rfl rfl (two_of HT_.out (by kernel_rfl)) (by decide) (by decide) (fun K hK => ?_) (fun K hK => ?_)
   ·skip
    refine goes_ Tryd.func20 (by kernel_rfl) rfl #[.agg #[.int .i64 a1_0, .int .i64 a1_1, .slice A1_2 l1_2.length c1_2]] (by rfl) rfl rfl (by (try simp only [List.map_toArray, List.map_cons, List.map_nil]); first | done | rfl | (simp only [List.length_drop, List.length_take]; rfl)) ?_
    with_reducible refine (laws_toCred.calls k a1_0 a1_1 _ _ l1_2 t252 t253 t254 _ ?side1 ?side2 A25.out).mono ?_
    (case side1 => repeat (first | exact (Kd.C_below HR1_2.out HB.out) | (with_reducible refine Kd.C_alloc ?_ _) | (with_reducible refine Kd.C_drewN ?_ _) | (with_reducible refine Kd.C_drew ?_)))
    (case side2 => exact HC1_2.out)
    rintro e w47 ⟨v255, rfl, ho0, hb⟩
    refine ⟨_, rfl, ?_⟩
    have n0_ := zM (Kd.S_below (by (with_reducible repeat (first | apply Kd.S_alloc | apply Kd.S_drewN | apply Kd.S_drew)); exact HO251.out) hb)
    have n1_ := zM (Kd.R_lower ho0 (zZ (by with_reducible repeat (first | exact HB.out | apply zA | apply zN | apply zD | refine zS ?_ GE244.out | refine zS ?_ GE245.out))))
    have n2_ := zM (zL (g := gb244) (o := .cells #[.int .i64 a0_0, .slice A0_1 l0_1.length c0_1] 34 (0, 0)) (by (with_reducible repeat (first | refine zK ?_ _ | refine zW ?_ | refine zB ?_ _)); exact BK244.out) hb)
    have n3_ := zM (zL (g := gb245) (o := .cells #[.int .i64 a1_0, .int .i64 a1_1, .slice A1_2 l1_2.length c1_2] 37 (0, 0)) (by (with_reducible repeat (first | refine zK ?_ _ | refine zW ?_ | refine zB ?_ _)); exact BK245.out) hb)
    have n4_ := zM (zP (by with_reducible repeat (first | exact HB.out | apply zA | apply zN | apply zD | refine zS ?_ GE244.out | refine zS ?_ GE245.out)) hb)
    clear HO251
    clear BK244
    clear BK245
    clear HB
    have HO251 := n0_
    have HO256 := n1_
    have BK244 := n2_
    have BK245 := n3_
    have HB := n4_
    clear n0_ n1_ n2_ n3_ n4_
    (try clear hb)
    (try clear hb2)
    (try clear hk)
    (try clear hi)
    (try clear ho0)
    obtain ⟨Ao48, co48, eo48⟩ := Kd.S_slice HO251.out
    (first | subst eo48 | (injection eo48 with f1_ f2_ f3_; have f4_ := f1_.symm; have f5_ := f3_.symm; clear f1_ f2_ f3_; subst f4_; subst f5_))
    obtain ⟨Ao49, co49, eo49⟩ := Kd.R_slice HO256.out
    (first | subst eo49 | (injection eo49 with f1_ f2_ f3_; have f4_ := f1_.symm; have f5_ := f3_.symm; clear f1_ f2_ f3_; subst f4_; subst f5_))
    refine hK.out _ _ ⟨(zC BK244.out 0).trans rfl, (zC BK244.out 1).trans rfl, (zC BK245.out 0).trans rfl, (zC BK245.out 1).trans rfl, (zC BK245.out 2).trans rfl⟩ (fun hHeld => ?_)
    clear hK K
    refine norm_ (a' := ?_) ?_ ?_
    rotate_left
    ·show Act.put _ (some 30) _ = _
     simp only [Act.put, List.setIfInBounds_toArray, List.set_cons_zero, List.set_cons_succ, i64_w, i32_w]
     rfl
    refine two_ (i := 6) (j := 7) (Ni := some 33) (Nj := some 10) #[true, true, true, true, true, true, true, false, false] #[true, true, true, true, true, true, false, true, false] rfl rfl rfl rfl (two_of HT_.out (by kernel_rfl)) (by decide) (by decide) (fun K hK => ?_) (fun K hK => ?_)
    ·skip
     refine goes_ Tryd.func18 (by kernel_rfl) rfl #[.agg #[.int .i64 t248, .slice Ao48 t249.length co48], .agg #[.int .i64 t252, .int .i64 t253, .slice Ao49 t254.length co49], .string a2, .bool a3] (by rfl) rfl rfl (by (try simp only [List.map_toArray, List.map_cons, List.map_nil]); first | done | rfl | (simp only [List.length_drop, List.length_take]; rfl)) ?_
     with_reducible refine (spec_Walk.calls t248 _ _ t249 t252 t253 _ _ t254 a2 a3 t257 t258 t259 t260 _ ?side1 ?side2 ?side3 ?side4 A26.out).mono ?_
     (case side1 => repeat (first | exact (Kd.S_reads' HO251.out).2.2 | (with_reducible refine Kd.C_alloc ?_ _) | (with_reducible refine Kd.C_drewN ?_ _) | (with_reducible refine Kd.C_drew ?_)))
     (case side2 => exact (Kd.S_reads' HO251.out).2.1)
     (case side3 => repeat (first | exact (Kd.R_reads' HO256.out).2.2 | (with_reducible refine Kd.C_alloc ?_ _) | (with_reducible refine Kd.C_drewN ?_ _) | (with_reducible refine Kd.C_drew ?_)))
     (case side4 => exact (Kd.R_reads' HO256.out).2.1)
     rintro e w50 ⟨rfl, hb⟩
     refine ⟨_, rfl, ?_⟩
     have n0_ := zM (Kd.S_below (by (with_reducible repeat (first | apply Kd.S_alloc | apply Kd.S_drewN | apply Kd.S_drew)); exact HO251.out) hb)
     have n1_ := zM (Kd.R_below (by (with_reducible repeat (first | apply Kd.R_alloc | apply Kd.R_drewN | apply Kd.R_drew)); exact HO256.out) hb)
     have n2_ := zM (zL (g := gb244) (o := .cells #[.int .i64 a0_0, .slice A0_1 l0_1.length c0_1] 34 (0, 0)) (by (with_reducible repeat (first | refine zK ?_ _ | refine zW ?_ | refine zB ?_ _)); exact BK244.out) hb)
     have n3_ := zM (zL (g := gb245) (o := .cells #[.int .i64 a1_0, .int .i64 a1_1, .slice A1_2 l1_2.length c1_2] 37 (0, 0)) (by (with_reducible repeat (first | refine zK ?_ _ | refine zW ?_ | refine zB ?_ _)); exact BK245.out) hb)
     have n4_ := zM (zP (by with_reducible repeat (first | exact HB.out | apply zA | apply zN | apply zD | refine zS ?_ GE244.out | refine zS ?_ GE245.out)) hb)
     clear HO251
     clear HO256
     clear BK244
     clear BK245
     clear HB
     have HO251 := n0_
     have HO256 := n1_
     have BK244 := n2_
     have BK245 := n3_
     have HB := n4_
     clear n0_ n1_ n2_ n3_ n4_
     (try clear hb)
     (try clear hb2)
     (try clear hk)
     (try clear hi)
     refine hK.out _ _ ⟨(zC BK244.out 0).trans rfl, (zC BK244.out 1).trans rfl, (zC BK245.out 0).trans rfl, (zC BK245.out 1).trans rfl, (zC BK245.out 2).trans rfl⟩ (fun hHeld => ?_)
     clear hK K
     refine norm_ (a' := ?_) ?_ ?_
     rotate_left
     ·show Act.put _ (some 33) _ = _
      simp only [Act.put, List.setIfInBounds_toArray, List.set_cons_zero, List.set_cons_succ, i64_w, i32_w]
      rfl
     refine one_ (i := 7) (N := some 10) #[true, true, true, true, true, true, true, true, false] rfl rfl (one_of HT_.out (by kernel_rfl)) (by decide) (fun K hK => ?_)
     refine box_step ?hg (N := 10) ?hd (cs := #[.int .i64 0, .string (⟨#[]⟩ : ByteArray), .int .i64 0, .int .i64 0]) (t := 41) ?hr ?_; (case hd => rfl); (case hg => rfl); (case hr => first | (go_simp; done) | (go_simp; rfl))
     intro gb261 hg w51 hbox hb
     have n0_ := zM (Kd.S_below (by (with_reducible repeat (first | apply Kd.S_alloc | apply Kd.S_drewN | apply Kd.S_drew)); exact HO251.out) hb)
     have n1_ := zM (Kd.R_below (by (with_reducible repeat (first | apply Kd.R_alloc | apply Kd.R_drewN | apply Kd.R_drew)); exact HO256.out) hb)
     have n2_ := zM (zL (g := gb244) (o := .cells #[.int .i64 a0_0, .slice A0_1 l0_1.length c0_1] 34 (0, 0)) (by (with_reducible repeat (first | refine zK ?_ _ | refine zW ?_ | refine zB ?_ _)); exact BK244.out) hb)
     have n3_ := zM (zL (g := gb245) (o := .cells #[.int .i64 a1_0, .int .i64 a1_1, .slice A1_2 l1_2.length c1_2] 37 (0, 0)) (by (with_reducible repeat (first | refine zK ?_ _ | refine zW ?_ | refine zB ?_ _)); exact BK245.out) hb)
     have n4_ := zM (zP (by with_reducible repeat (first | exact HB.out | apply zA | apply zN | apply zD | refine zS ?_ GE244.out | refine zS ?_ GE245.out)) hb)
     have n5_ := zM (hbox)
     have n6_ := zM ((by rw [hg]; exact (zZ (by with_reducible repeat (first | exact HB.out | apply zA | apply zN | apply zD | refine zS ?_ GE244.out | refine zS ?_ GE245.out))) : w.heap.size ≤ gb261))
     have n7_ := zM ((by rw [hg]; exact (zZ (by with_reducible repeat (first | exact HB.out | apply zA | apply zN | apply zD | refine zS ?_ GE244.out | refine zS ?_ GE245.out))) : w.heap.size ≤ gb261))
     have n8_ := zM ((by rw [hg]; exact Nat.ne_of_lt (blk_lt (g := gb244) (o := .cells #[.int .i64 a0_0, .slice A0_1 l0_1.length c0_1] 34 (0, 0)) (by (with_reducible repeat (first | refine zK ?_ _ | refine zW ?_ | refine zB ?_ _)); exact BK244.out)) : gb244 ≠ gb261))
     have n9_ := zM ((by rw [hg]; exact Nat.ne_of_gt (blk_lt (g := gb244) (o := .cells #[.int .i64 a0_0, .slice A0_1 l0_1.length c0_1] 34 (0, 0)) (by (with_reducible repeat (first | refine zK ?_ _ | refine zW ?_ | refine zB ?_ _)); exact BK244.out)) : gb261 ≠ gb244))
     have n10_ := zM ((by rw [hg]; exact Nat.ne_of_lt (blk_lt (g := gb245) (o := .cells #[.int .i64 a1_0, .int .i64 a1_1, .slice A1_2 l1_2.length c1_2] 37 (0, 0)) (by (with_reducible repeat (first | refine zK ?_ _ | refine zW ?_ | refine zB ?_ _)); exact BK245.out)) : gb245 ≠ gb261))
     have n11_ := zM ((by rw [hg]; exact Nat.ne_of_gt (blk_lt (g := gb245) (o := .cells #[.int .i64 a1_0, .int .i64 a1_1, .slice A1_2 l1_2.length c1_2] 37 (0, 0)) (by (with_reducible repeat (first | refine zK ?_ _ | refine zW ?_ | refine zB ?_ _)); exact BK245.out)) : gb261 ≠ gb245))
     clear HO251
     clear HO256
     clear BK244
     clear BK245
     clear HB
     have HO251 := n0_
     have HO256 := n1_
     have BK244 := n2_
     have BK245 := n3_
     have HB := n4_
     have BK261 := n5_
     have GW261 := n6_
     have GE261 := n7_
     have NB244_261 := n8_
     have NB261_244 := n9_
     have NB245_261 := n10_
     have NB261_245 := n11_
     clear n0_ n1_ n2_ n3_ n4_ n5_ n6_ n7_ n8_ n9_ n10_ n11_
     clear hb hbox hg
     refine hK.out _ _ ⟨(zC BK244.out 0).trans rfl, (zC BK244.out 1).trans rfl, (zC BK245.out 0).trans rfl, (zC BK245.out 1).trans rfl, (zC BK245.out 2).trans rfl⟩ (fun hHeld => ?_)
     clear hK K
     refine norm_ (a' := ?_) ?_ ?_
     rotate_left
     ·show Act.put _ (some 10) _ = _
      simp only [Act.put, List.setIfInBounds_toArray, List.set_cons_zero, List.set_cons_succ, i64_w, i32_w]
      rfl
     exact norm_ (by simp only [putAll, Act.put, List.setIfInBounds_toArray, List.set_cons_zero, List.set_cons_succ]) (hCont (.slice Ao48 t249.length co48, .slice Ao49 t254.length co49, gb261) _ ⟨hHeld, (by (with_reducible repeat (first | apply Kd.S_alloc | apply Kd.S_drewN | apply Kd.S_drew)); exact HO251.out), (by (with_reducible repeat (first | apply Kd.R_alloc | apply Kd.R_drewN | apply Kd.R_drew)); exact HO256.out), (by (with_reducible repeat (first | refine zK ?_ _ | refine zW ?_ | refine zB ?_ _)); exact BK244.out), (by (with_reducible repeat (first | refine zK ?_ _ | refine zW ?_ | refine zB ?_ _)); exact BK245.out), (by (with_reducible repeat (first | refine zK ?_ _ | refine zW ?_ | refine zB ?_ _)); exact BK261.out), GW261.out, GE261.out, NB244_261.out, NB261_244.out, NB245_261.out, NB261_245.out, (by with_reducible repeat (first | exact HB.out | apply zA | apply zN | apply zD | refine zS ?_ GE244.out | refine zS ?_ GE245.out | refine zS ?_ GE261.out))⟩)
    ·skip
     refine box_step ?hg (N := 10) ?hd (cs := #[.int .i64 0, .string (⟨#[]⟩ : ByteArray), .int .i64 0, .int .i64 0]) (t := 41) ?hr ?_; (case hd => rfl); (case hg => rfl); (case hr => first | (go_simp; done) | (go_simp; rfl))
     intro gb261 hg w48 hbox hb
     have n0_ := zM (Kd.S_below (by (with_reducible repeat (first | apply Kd.S_alloc | apply Kd.S_drewN | apply Kd.S_drew)); exact HO251.out) hb)
     have n1_ := zM (Kd.R_below (by (with_reducible repeat (first | apply Kd.R_alloc | apply Kd.R_drewN | apply Kd.R_drew)); exact HO256.out) hb)
     have n2_ := zM (zL (g := gb244) (o := .cells #[.int .i64 a0_0, .slice A0_1 l0_1.length c0_1] 34 (0, 0)) (by (with_reducible repeat (first | refine zK ?_ _ | refine zW ?_ | refine zB ?_ _)); exact BK244.out) hb)
     have n3_ := zM (zL (g := gb245) (o := .cells #[.int .i64 a1_0, .int .i64 a1_1, .slice A1_2 l1_2.length c1_2] 37 (0, 0)) (by (with_reducible repeat (first | refine zK ?_ _ | refine zW ?_ | refine zB ?_ _)); exact BK245.out) hb)
     have n4_ := zM (zP (by with_reducible repeat (first | exact HB.out | apply zA | apply zN | apply zD | refine zS ?_ GE244.out | refine zS ?_ GE245.out)) hb)
     have n5_ := zM (hbox)
     have n6_ := zM ((by rw [hg]; exact (zZ (by with_reducible repeat (first | exact HB.out | apply zA | apply zN | apply zD | refine zS ?_ GE244.out | refine zS ?_ GE245.out))) : w.heap.size ≤ gb261))
     have n7_ := zM ((by rw [hg]; exact (zZ (by with_reducible repeat (first | exact HB.out | apply zA | apply zN | apply zD | refine zS ?_ GE244.out | refine zS ?_ GE245.out))) : w.heap.size ≤ gb261))
     have n8_ := zM ((by rw [hg]; exact Nat.ne_of_lt (blk_lt (g := gb244) (o := .cells #[.int .i64 a0_0, .slice A0_1 l0_1.length c0_1] 34 (0, 0)) (by (with_reducible repeat (first | refine zK ?_ _ | refine zW ?_ | refine zB ?_ _)); exact BK244.out)) : gb244 ≠ gb261))
     have n9_ := zM ((by rw [hg]; exact Nat.ne_of_gt (blk_lt (g := gb244) (o := .cells #[.int .i64 a0_0, .slice A0_1 l0_1.length c0_1] 34 (0, 0)) (by (with_reducible repeat (first | refine zK ?_ _ | refine zW ?_ | refine zB ?_ _)); exact BK244.out)) : gb261 ≠ gb244))
     have n10_ := zM ((by rw [hg]; exact Nat.ne_of_lt (blk_lt (g := gb245) (o := .cells #[.int .i64 a1_0, .int .i64 a1_1, .slice A1_2 l1_2.length c1_2] 37 (0, 0)) (by (with_reducible repeat (first | refine zK ?_ _ | refine zW ?_ | refine zB ?_ _)); exact BK245.out)) : gb245 ≠ gb261))
     have n11_ := zM ((by rw [hg]; exact Nat.ne_of_gt (blk_lt (g := gb245) (o := .cells #[.int .i64 a1_0, .int .i64 a1_1, .slice A1_2 l1_2.length c1_2] 37 (0, 0)) (by (with_reducible repeat (first | refine zK ?_ _ | refine zW ?_ | refine zB ?_ _)); exact BK245.out)) : gb261 ≠ gb245))
     clear HO251
     clear HO256
     clear BK244
     clear BK245
     clear HB
     have HO251 := n0_
     have HO256 := n1_
     have BK244 := n2_
     have BK245 := n3_
     have HB := n4_
     have BK261 := n5_
     have GW261 := n6_
     have GE261 := n7_
     have NB244_261 := n8_
     have NB261_244 := n9_
     have NB245_261 := n10_
     have NB261_245 := n11_
     clear n0_ n1_ n2_ n3_ n4_ n5_ n6_ n7_ n8_ n9_ n10_ n11_
     clear hb hbox hg
     obtain ⟨Ao49, co49, eo49⟩ := Kd.S_slice HO251.out
     (first | subst eo49 | (injection eo49 with f1_ f2_ f3_; have f4_ := f1_.symm; have f5_ := f3_.symm; clear f1_ f2_ f3_; subst f4_; subst f5_))
     obtain ⟨Ao50, co50, eo50⟩ := Kd.R_slice HO256.out
     (first | subst eo50 | (injection eo50 with f1_ f2_ f3_; have f4_ := f1_.symm; have f5_ := f3_.symm; clear f1_ f2_ f3_; subst f4_; subst f5_))
     refine hK.out _ _ ⟨(zC BK244.out 0).trans rfl, (zC BK244.out 1).trans rfl, (zC BK245.out 0).trans rfl, (zC BK245.out 1).trans rfl, (zC BK245.out 2).trans rfl⟩ (fun hHeld => ?_)
     clear hK K
     refine norm_ (a' := ?_) ?_ ?_
     rotate_left
     ·show Act.put _ (some 10) _ = _
      simp only [Act.put, List.setIfInBounds_toArray, List.set_cons_zero, List.set_cons_succ, i64_w, i32_w]
      rfl
     refine one_ (i := 6) (N := some 33) #[true, true, true, true, true, true, true, true, false] rfl rfl (one_of HT_.out (by kernel_rfl)) (by decide) (fun K hK => ?_)
     refine goes_ Tryd.func18 (by kernel_rfl) rfl #[.agg #[.int .i64 t248, .slice Ao49 t249.length co49], .agg #[.int .i64 t252, .int .i64 t253, .slice Ao50 t254.length co50], .string a2, .bool a3] (by rfl) rfl rfl (by (try simp only [List.map_toArray, List.map_cons, List.map_nil]); first | done | rfl | (simp only [List.length_drop, List.length_take]; rfl)) ?_
     with_reducible refine (spec_Walk.calls t248 _ _ t249 t252 t253 _ _ t254 a2 a3 t257 t258 t259 t260 _ ?side1 ?side2 ?side3 ?side4 A26.out).mono ?_
     (case side1 => repeat (first | exact (Kd.S_reads' HO251.out).2.2 | (with_reducible refine Kd.C_alloc ?_ _) | (with_reducible refine Kd.C_drewN ?_ _) | (with_reducible refine Kd.C_drew ?_)))
     (case side2 => exact (Kd.S_reads' HO251.out).2.1)
     (case side3 => repeat (first | exact (Kd.R_reads' HO256.out).2.2 | (with_reducible refine Kd.C_alloc ?_ _) | (with_reducible refine Kd.C_drewN ?_ _) | (with_reducible refine Kd.C_drew ?_)))
     (case side4 => exact (Kd.R_reads' HO256.out).2.1)
     rintro e w51 ⟨rfl, hb⟩
     refine ⟨_, rfl, ?_⟩
     have n0_ := zM (Kd.S_below (by (with_reducible repeat (first | apply Kd.S_alloc | apply Kd.S_drewN | apply Kd.S_drew)); exact HO251.out) hb)
     have n1_ := zM (Kd.R_below (by (with_reducible repeat (first | apply Kd.R_alloc | apply Kd.R_drewN | apply Kd.R_drew)); exact HO256.out) hb)
     have n2_ := zM (zL (g := gb244) (o := .cells #[.int .i64 a0_0, .slice A0_1 l0_1.length c0_1] 34 (0, 0)) (by (with_reducible repeat (first | refine zK ?_ _ | refine zW ?_ | refine zB ?_ _)); exact BK244.out) hb)
     have n3_ := zM (zL (g := gb245) (o := .cells #[.int .i64 a1_0, .int .i64 a1_1, .slice A1_2 l1_2.length c1_2] 37 (0, 0)) (by (with_reducible repeat (first | refine zK ?_ _ | refine zW ?_ | refine zB ?_ _)); exact BK245.out) hb)
     have n4_ := zM (zL (g := gb261) (o := .cells #[.int .i64 0, .string (⟨#[]⟩ : ByteArray), .int .i64 0, .int .i64 0] 41 (0, 0)) (by (with_reducible repeat (first | refine zK ?_ _ | refine zW ?_ | refine zB ?_ _)); exact BK261.out) hb)
     have n5_ := zM (zP (by with_reducible repeat (first | exact HB.out | apply zA | apply zN | apply zD | refine zS ?_ GE244.out | refine zS ?_ GE245.out | refine zS ?_ GE261.out)) hb)
     clear HO251
     clear HO256
     clear BK244
     clear BK245
     clear BK261
     clear HB
     have HO251 := n0_
     have HO256 := n1_
     have BK244 := n2_
     have BK245 := n3_
     have BK261 := n4_
     have HB := n5_
     clear n0_ n1_ n2_ n3_ n4_ n5_
     (try clear hb)
     (try clear hb2)
     (try clear hk)
     (try clear hi)
     refine hK.out _ _ ⟨(zC BK244.out 0).trans rfl, (zC BK244.out 1).trans rfl, (zC BK245.out 0).trans rfl, (zC BK245.out 1).trans rfl, (zC BK245.out 2).trans rfl⟩ (fun hHeld => ?_)
     clear hK K
     refine norm_ (a' := ?_) ?_ ?_
     rotate_left
     ·show Act.put _ (some 33) _ = _
      simp only [Act.put, List.setIfInBounds_toArray, List.set_cons_zero, List.set_cons_succ, i64_w, i32_w]
      rfl
     exact norm_ (by simp only [putAll, Act.put, List.setIfInBounds_toArray, List.set_cons_zero, List.set_cons_succ]) (hCont (.slice Ao49 t249.length co49, .slice Ao50 t254.length co50, gb261) _ ⟨hHeld, (by (with_reducible repeat (first | apply Kd.S_alloc | apply Kd.S_drewN | apply Kd.S_drew)); exact HO251.out), (by (with_reducible repeat (first | apply Kd.R_alloc | apply Kd.R_drewN | apply Kd.R_drew)); exact HO256.out), (by (with_reducible repeat (first | refine zK ?_ _ | refine zW ?_ | refine zB ?_ _)); exact BK244.out), (by (with_reducible repeat (first | refine zK ?_ _ | refine zW ?_ | refine zB ?_ _)); exact BK245.out), (by (with_reducible repeat (first | refine zK ?_ _ | refine zW ?_ | refine zB ?_ _)); exact BK261.out), GW261.out, GE261.out, NB244_261.out, NB261_244.out, NB245_261.out, NB261_245.out, (by with_reducible repeat (first | exact HB.out | apply zA | apply zN | apply zD | refine zS ?_ GE244.out | refine zS ?_ GE245.out | refine zS ?_ GE261.out))⟩)
   ·skip
    refine box_step ?hg (N := 10) ?hd (cs := #[.int .i64 0, .string (⟨#[]⟩ : ByteArray), .int .i64 0, .int .i64 0]) (t := 41) ?hr ?_; (case hd => rfl); (case hg => rfl); (case hr => first | (go_simp; done) | (go_simp; rfl))
    intro gb261 hg w47 hbox hb
    have n0_ := zM (Kd.S_below (by (with_reducible repeat (first | apply Kd.S_alloc | apply Kd.S_drewN | apply Kd.S_drew)); exact HO251.out) hb)
    have n1_ := zM (zL (g := gb244) (o := .cells #[.int .i64 a0_0, .slice A0_1 l0_1.length c0_1] 34 (0, 0)) (by (with_reducible repeat (first | refine zK ?_ _ | refine zW ?_ | refine zB ?_ _)); exact BK244.out) hb)
    have n2_ := zM (zL (g := gb245) (o := .cells #[.int .i64 a1_0, .int .i64 a1_1, .slice A1_2 l1_2.length c1_2] 37 (0, 0)) (by (with_reducible repeat (first | refine zK ?_ _ | refine zW ?_ | refine zB ?_ _)); exact BK245.out) hb)
    have n3_ := zM (zP (by with_reducible repeat (first | exact HB.out | apply zA | apply zN | apply zD | refine zS ?_ GE244.out | refine zS ?_ GE245.out)) hb)
    have n4_ := zM (hbox)
    have n5_ := zM ((by rw [hg]; exact (zZ (by with_reducible repeat (first | exact HB.out | apply zA | apply zN | apply zD | refine zS ?_ GE244.out | refine zS ?_ GE245.out))) : w.heap.size ≤ gb261))
    have n6_ := zM ((by rw [hg]; exact (zZ (by with_reducible repeat (first | exact HB.out | apply zA | apply zN | apply zD | refine zS ?_ GE244.out | refine zS ?_ GE245.out))) : w.heap.size ≤ gb261))
    have n7_ := zM ((by rw [hg]; exact Nat.ne_of_lt (blk_lt (g := gb244) (o := .cells #[.int .i64 a0_0, .slice A0_1 l0_1.length c0_1] 34 (0, 0)) (by (with_reducible repeat (first | refine zK ?_ _ | refine zW ?_ | refine zB ?_ _)); exact BK244.out)) : gb244 ≠ gb261))
    have n8_ := zM ((by rw [hg]; exact Nat.ne_of_gt (blk_lt (g := gb244) (o := .cells #[.int .i64 a0_0, .slice A0_1 l0_1.length c0_1] 34 (0, 0)) (by (with_reducible repeat (first | refine zK ?_ _ | refine zW ?_ | refine zB ?_ _)); exact BK244.out)) : gb261 ≠ gb244))
    have n9_ := zM ((by rw [hg]; exact Nat.ne_of_lt (blk_lt (g := gb245) (o := .cells #[.int .i64 a1_0, .int .i64 a1_1, .slice A1_2 l1_2.length c1_2] 37 (0, 0)) (by (with_reducible repeat (first | refine zK ?_ _ | refine zW ?_ | refine zB ?_ _)); exact BK245.out)) : gb245 ≠ gb261))
    have n10_ := zM ((by rw [hg]; exact Nat.ne_of_gt (blk_lt (g := gb245) (o := .cells #[.int .i64 a1_0, .int .i64 a1_1, .slice A1_2 l1_2.length c1_2] 37 (0, 0)) (by (with_reducible repeat (first | refine zK ?_ _ | refine zW ?_ | refine zB ?_ _)); exact BK245.out)) : gb261 ≠ gb245))
    clear HO251
    clear BK244
    clear BK245
    clear HB
    have HO251 := n0_
    have BK244 := n1_
    have BK245 := n2_
    have HB := n3_
    have BK261 := n4_
    have GW261 := n5_
    have GE261 := n6_
    have NB244_261 := n7_
    have NB261_244 := n8_
    have NB245_261 := n9_
    have NB261_245 := n10_
    clear n0_ n1_ n2_ n3_ n4_ n5_ n6_ n7_ n8_ n9_ n10_
    clear hb hbox hg
    refine hK.out _ _ ⟨(zC BK244.out 0).trans rfl, (zC BK244.out 1).trans rfl, (zC BK245.out 0).trans rfl, (zC BK245.out 1).trans rfl, (zC BK245.out 2).trans rfl⟩ (fun hHeld => ?_)
    clear hK K
    refine norm_ (a' := ?_) ?_ ?_
    rotate_left
    ·show Act.put _ (some 10) _ = _
     simp only [Act.put, List.setIfInBounds_toArray, List.set_cons_zero, List.set_cons_succ, i64_w, i32_w]
     rfl
    refine one_ (i := 3) (N := some 30) #[true, true, true, true, true, true, false, true, false] rfl rfl (one_of HT_.out (by kernel_rfl)) (by decide) (fun K hK => ?_)
    refine goes_ Tryd.func20 (by kernel_rfl) rfl #[.agg #[.int .i64 a1_0, .int .i64 a1_1, .slice A1_2 l1_2.length c1_2]] (by rfl) rfl rfl (by (try simp only [List.map_toArray, List.map_cons, List.map_nil]); first | done | rfl | (simp only [List.length_drop, List.length_take]; rfl)) ?_
    with_reducible refine (laws_toCred.calls k a1_0 a1_1 _ _ l1_2 t252 t253 t254 _ ?side1 ?side2 A25.out).mono ?_
    (case side1 => repeat (first | exact (Kd.C_below HR1_2.out HB.out) | (with_reducible refine Kd.C_alloc ?_ _) | (with_reducible refine Kd.C_drewN ?_ _) | (with_reducible refine Kd.C_drew ?_)))
    (case side2 => exact HC1_2.out)
    rintro e w48 ⟨v255, rfl, ho0, hb⟩
    refine ⟨_, rfl, ?_⟩
    have n0_ := zM (Kd.S_below (by (with_reducible repeat (first | apply Kd.S_alloc | apply Kd.S_drewN | apply Kd.S_drew)); exact HO251.out) hb)
    have n1_ := zM (Kd.R_lower ho0 (zZ (by with_reducible repeat (first | exact HB.out | apply zA | apply zN | apply zD | refine zS ?_ GE244.out | refine zS ?_ GE245.out | refine zS ?_ GE261.out))))
    have n2_ := zM (zL (g := gb244) (o := .cells #[.int .i64 a0_0, .slice A0_1 l0_1.length c0_1] 34 (0, 0)) (by (with_reducible repeat (first | refine zK ?_ _ | refine zW ?_ | refine zB ?_ _)); exact BK244.out) hb)
    have n3_ := zM (zL (g := gb245) (o := .cells #[.int .i64 a1_0, .int .i64 a1_1, .slice A1_2 l1_2.length c1_2] 37 (0, 0)) (by (with_reducible repeat (first | refine zK ?_ _ | refine zW ?_ | refine zB ?_ _)); exact BK245.out) hb)
    have n4_ := zM (zL (g := gb261) (o := .cells #[.int .i64 0, .string (⟨#[]⟩ : ByteArray), .int .i64 0, .int .i64 0] 41 (0, 0)) (by (with_reducible repeat (first | refine zK ?_ _ | refine zW ?_ | refine zB ?_ _)); exact BK261.out) hb)
    have n5_ := zM (zP (by with_reducible repeat (first | exact HB.out | apply zA | apply zN | apply zD | refine zS ?_ GE244.out | refine zS ?_ GE245.out | refine zS ?_ GE261.out)) hb)
    clear HO251
    clear BK244
    clear BK245
    clear BK261
    clear HB
    have HO251 := n0_
    have HO256 := n1_
    have BK244 := n2_
    have BK245 := n3_
    have BK261 := n4_
    have HB := n5_
    clear n0_ n1_ n2_ n3_ n4_ n5_
    (try clear hb)
    (try clear hb2)
    (try clear hk)
    (try clear hi)
    (try clear ho0)
    obtain ⟨Ao49, co49, eo49⟩ := Kd.S_slice HO251.out
    (first | subst eo49 | (injection eo49 with f1_ f2_ f3_; have f4_ := f1_.symm; have f5_ := f3_.symm; clear f1_ f2_ f3_; subst f4_; subst f5_))
    obtain ⟨Ao50, co50, eo50⟩ := Kd.R_slice HO256.out
    (first | subst eo50 | (injection eo50 with f1_ f2_ f3_; have f4_ := f1_.symm; have f5_ := f3_.symm; clear f1_ f2_ f3_; subst f4_; subst f5_))
    refine hK.out _ _ ⟨(zC BK244.out 0).trans rfl, (zC BK244.out 1).trans rfl, (zC BK245.out 0).trans rfl, (zC BK245.out 1).trans rfl, (zC BK245.out 2).trans rfl⟩ (fun hHeld => ?_)
    clear hK K
    refine norm_ (a' := ?_) ?_ ?_
    rotate_left
    ·show Act.put _ (some 30) _ = _
     simp only [Act.put, List.setIfInBounds_toArray, List.set_cons_zero, List.set_cons_succ, i64_w, i32_w]
     rfl
    refine one_ (i := 6) (N := some 33) #[true, true, true, true, true, true, true, true, false] rfl rfl (one_of HT_.out (by kernel_rfl)) (by decide) (fun K hK => ?_)
    refine goes_ Tryd.func18 (by kernel_rfl) rfl #[.agg #[.int .i64 t248, .slice Ao49 t249.length co49], .agg #[.int .i64 t252, .int .i64 t253, .slice Ao50 t254.length co50], .string a2, .bool a3] (by rfl) rfl rfl (by (try simp only [List.map_toArray, List.map_cons, List.map_nil]); first | done | rfl | (simp only [List.length_drop, List.length_take]; rfl)) ?_
    with_reducible refine (spec_Walk.calls t248 _ _ t249 t252 t253 _ _ t254 a2 a3 t257 t258 t259 t260 _ ?side1 ?side2 ?side3 ?side4 A26.out).mono ?_
    (case side1 => repeat (first | exact (Kd.S_reads' HO251.out).2.2 | (with_reducible refine Kd.C_alloc ?_ _) | (with_reducible refine Kd.C_drewN ?_ _) | (with_reducible refine Kd.C_drew ?_)))
    (case side2 => exact (Kd.S_reads' HO251.out).2.1)
    (case side3 => repeat (first | exact (Kd.R_reads' HO256.out).2.2 | (with_reducible refine Kd.C_alloc ?_ _) | (with_reducible refine Kd.C_drewN ?_ _) | (with_reducible refine Kd.C_drew ?_)))
    (case side4 => exact (Kd.R_reads' HO256.out).2.1)
    rintro e w51 ⟨rfl, hb⟩
    refine ⟨_, rfl, ?_⟩
    have n0_ := zM (Kd.S_below (by (with_reducible repeat (first | apply Kd.S_alloc | apply Kd.S_drewN | apply Kd.S_drew)); exact HO251.out) hb)
    have n1_ := zM (Kd.R_below (by (with_reducible repeat (first | apply Kd.R_alloc | apply Kd.R_drewN | apply Kd.R_drew)); exact HO256.out) hb)
    have n2_ := zM (zL (g := gb244) (o := .cells #[.int .i64 a0_0, .slice A0_1 l0_1.length c0_1] 34 (0, 0)) (by (with_reducible repeat (first | refine zK ?_ _ | refine zW ?_ | refine zB ?_ _)); exact BK244.out) hb)
    have n3_ := zM (zL (g := gb245) (o := .cells #[.int .i64 a1_0, .int .i64 a1_1, .slice A1_2 l1_2.length c1_2] 37 (0, 0)) (by (with_reducible repeat (first | refine zK ?_ _ | refine zW ?_ | refine zB ?_ _)); exact BK245.out) hb)
    have n4_ := zM (zL (g := gb261) (o := .cells #[.int .i64 0, .string (⟨#[]⟩ : ByteArray), .int .i64 0, .int .i64 0] 41 (0, 0)) (by (with_reducible repeat (first | refine zK ?_ _ | refine zW ?_ | refine zB ?_ _)); exact BK261.out) hb)
    have n5_ := zM (zP (by with_reducible repeat (first | exact HB.out | apply zA | apply zN | apply zD | refine zS ?_ GE244.out | refine zS ?_ GE245.out | refine zS ?_ GE261.out)) hb)
    clear HO251
    clear HO256
    clear BK244
    clear BK245
    clear BK261
    clear HB
    have HO251 := n0_
    have HO256 := n1_
    have BK244 := n2_
    have BK245 := n3_
    have BK261 := n4_
    have HB := n5_
    clear n0_ n1_ n2_ n3_ n4_ n5_
    (try clear hb)
    (try clear hb2)
    (try clear hk)
    (try clear hi)
    refine hK.out _ _ ⟨(zC BK244.out 0).trans rfl, (zC BK244.out 1).trans rfl, (zC BK245.out 0).trans rfl, (zC BK245.out 1).trans rfl, (zC BK245.out 2).trans rfl⟩ (fun hHeld => ?_)
    clear hK K
    refine norm_ (a' := ?_) ?_ ?_
    rotate_left
    ·show Act.put _ (some 33) _ = _
     simp only [Act.put, List.setIfInBounds_toArray, List.set_cons_zero, List.set_cons_succ, i64_w, i32_w]
     rfl
    exact norm_ (by simp only [putAll, Act.put, List.setIfInBounds_toArray, List.set_cons_zero, List.set_cons_succ]) (hCont (.slice Ao49 t249.length co49, .slice Ao50 t254.length co50, gb261) _ ⟨hHeld, (by (with_reducible repeat (first | apply Kd.S_alloc | apply Kd.S_drewN | apply Kd.S_drew)); exact HO251.out), (by (with_reducible repeat (first | apply Kd.R_alloc | apply Kd.R_drewN | apply Kd.R_drew)); exact HO256.out), (by (with_reducible repeat (first | refine zK ?_ _ | refine zW ?_ | refine zB ?_ _)); exact BK244.out), (by (with_reducible repeat (first | refine zK ?_ _ | refine zW ?_ | refine zB ?_ _)); exact BK245.out), (by (with_reducible repeat (first | refine zK ?_ _ | refine zW ?_ | refine zB ?_ _)); exact BK261.out), GW261.out, GE261.out, NB244_261.out, NB261_244.out, NB245_261.out, NB261_245.out, (by with_reducible repeat (first | exact HB.out | apply zA | apply zN | apply zD | refine zS ?_ GE244.out | refine zS ?_ GE245.out | refine zS ?_ GE261.out))⟩)
  ·skip
   refine box_step ?hg (N := 10) ?hd (cs := #[.int .i64 0, .string (⟨#[]⟩ : ByteArray), .int .i64 0, .int .i64 0]) (t := 41) ?hr ?_; (case hd => rfl); (case hg => rfl); (case hr => first | (go_simp; done) | (go_simp; rfl))
   intro gb261 hg w46 hbox hb
   have n0_ := zM (zL (g := gb244) (o := .cells #[.int .i64 a0_0, .slice A0_1 l0_1.length c0_1] 34 (0, 0)) (by (with_reducible repeat (first | refine zK ?_ _ | refine zW ?_ | refine zB ?_ _)); exact BK244.out) hb)
   have n1_ := zM (zL (g := gb245) (o := .cells #[.int .i64 a1_0, .int .i64 a1_1, .slice A1_2 l1_2.length c1_2] 37 (0, 0)) (by (with_reducible repeat (first | refine zK ?_ _ | refine zW ?_ | refine zB ?_ _)); exact BK245.out) hb)
   have n2_ := zM (zP (by with_reducible repeat (first | exact HB.out | apply zA | apply zN | apply zD | refine zS ?_ GE244.out | refine zS ?_ GE245.out)) hb)
   have n3_ := zM (hbox)
   have n4_ := zM ((by rw [hg]; exact (zZ (by with_reducible repeat (first | exact HB.out | apply zA | apply zN | apply zD | refine zS ?_ GE244.out | refine zS ?_ GE245.out))) : w.heap.size ≤ gb261))
   have n5_ := zM ((by rw [hg]; exact (zZ (by with_reducible repeat (first | exact HB.out | apply zA | apply zN | apply zD | refine zS ?_ GE244.out | refine zS ?_ GE245.out))) : w.heap.size ≤ gb261))
   have n6_ := zM ((by rw [hg]; exact Nat.ne_of_lt (blk_lt (g := gb244) (o := .cells #[.int .i64 a0_0, .slice A0_1 l0_1.length c0_1] 34 (0, 0)) (by (with_reducible repeat (first | refine zK ?_ _ | refine zW ?_ | refine zB ?_ _)); exact BK244.out)) : gb244 ≠ gb261))
   have n7_ := zM ((by rw [hg]; exact Nat.ne_of_gt (blk_lt (g := gb244) (o := .cells #[.int .i64 a0_0, .slice A0_1 l0_1.length c0_1] 34 (0, 0)) (by (with_reducible repeat (first | refine zK ?_ _ | refine zW ?_ | refine zB ?_ _)); exact BK244.out)) : gb261 ≠ gb244))
   have n8_ := zM ((by rw [hg]; exact Nat.ne_of_lt (blk_lt (g := gb245) (o := .cells #[.int .i64 a1_0, .int .i64 a1_1, .slice A1_2 l1_2.length c1_2] 37 (0, 0)) (by (with_reducible repeat (first | refine zK ?_ _ | refine zW ?_ | refine zB ?_ _)); exact BK245.out)) : gb245 ≠ gb261))
   have n9_ := zM ((by rw [hg]; exact Nat.ne_of_gt (blk_lt (g := gb245) (o := .cells #[.int .i64 a1_0, .int .i64 a1_1, .slice A1_2 l1_2.length c1_2] 37 (0, 0)) (by (with_reducible repeat (first | refine zK ?_ _ | refine zW ?_ | refine zB ?_ _)); exact BK245.out)) : gb261 ≠ gb245))
   clear BK244
   clear BK245
   clear HB
   have BK244 := n0_
   have BK245 := n1_
   have HB := n2_
   have BK261 := n3_
   have GW261 := n4_
   have GE261 := n5_
   have NB244_261 := n6_
   have NB261_244 := n7_
   have NB245_261 := n8_
   have NB261_245 := n9_
   clear n0_ n1_ n2_ n3_ n4_ n5_ n6_ n7_ n8_ n9_
   clear hb hbox hg
   refine hK.out _ _ ⟨(zC BK244.out 0).trans rfl, (zC BK244.out 1).trans rfl, (zC BK245.out 0).trans rfl, (zC BK245.out 1).trans rfl, (zC BK245.out 2).trans rfl⟩ (fun hHeld => ?_)
   clear hK K
   refine norm_ (a' := ?_) ?_ ?_
   rotate_left
   ·show Act.put _ (some 10) _ = _
    simp only [Act.put, List.setIfInBounds_toArray, List.set_cons_zero, List.set_cons_succ, i64_w, i32_w]
    rfl
   refine one_ (i := 1) (N := some 28) #[true, true, true, false, true, true, false, true, false] rfl rfl (one_of HT_.out (by kernel_rfl)) (by decide) (fun K hK => ?_)
   refine goes_ Tryd.func19 (by kernel_rfl) rfl #[.agg #[.int .i64 a0_0, .slice A0_1 l0_1.length c0_1]] (by rfl) rfl rfl (by (try simp only [List.map_toArray, List.map_cons, List.map_nil]); first | done | rfl | (simp only [List.length_drop, List.length_take]; rfl)) ?_
   with_reducible refine (laws_toVol.calls k a0_0 _ _ l0_1 t248 t249 _ ?side1 ?side2 A24.out).mono ?_
   (case side1 => repeat (first | exact (Kd.C_below HR0_1.out HB.out) | (with_reducible refine Kd.C_alloc ?_ _) | (with_reducible refine Kd.C_drewN ?_ _) | (with_reducible refine Kd.C_drew ?_)))
   (case side2 => exact HC0_1.out)
   rintro e w47 ⟨v250, rfl, ho0, hb⟩
   refine ⟨_, rfl, ?_⟩
   have n0_ := zM (Kd.S_lower ho0 (zZ (by with_reducible repeat (first | exact HB.out | apply zA | apply zN | apply zD | refine zS ?_ GE244.out | refine zS ?_ GE245.out | refine zS ?_ GE261.out))))
   have n1_ := zM (zL (g := gb244) (o := .cells #[.int .i64 a0_0, .slice A0_1 l0_1.length c0_1] 34 (0, 0)) (by (with_reducible repeat (first | refine zK ?_ _ | refine zW ?_ | refine zB ?_ _)); exact BK244.out) hb)
   have n2_ := zM (zL (g := gb245) (o := .cells #[.int .i64 a1_0, .int .i64 a1_1, .slice A1_2 l1_2.length c1_2] 37 (0, 0)) (by (with_reducible repeat (first | refine zK ?_ _ | refine zW ?_ | refine zB ?_ _)); exact BK245.out) hb)
   have n3_ := zM (zL (g := gb261) (o := .cells #[.int .i64 0, .string (⟨#[]⟩ : ByteArray), .int .i64 0, .int .i64 0] 41 (0, 0)) (by (with_reducible repeat (first | refine zK ?_ _ | refine zW ?_ | refine zB ?_ _)); exact BK261.out) hb)
   have n4_ := zM (zP (by with_reducible repeat (first | exact HB.out | apply zA | apply zN | apply zD | refine zS ?_ GE244.out | refine zS ?_ GE245.out | refine zS ?_ GE261.out)) hb)
   clear BK244
   clear BK245
   clear BK261
   clear HB
   have HO251 := n0_
   have BK244 := n1_
   have BK245 := n2_
   have BK261 := n3_
   have HB := n4_
   clear n0_ n1_ n2_ n3_ n4_
   (try clear hb)
   (try clear hb2)
   (try clear hk)
   (try clear hi)
   (try clear ho0)
   refine hK.out _ _ ⟨(zC BK244.out 0).trans rfl, (zC BK244.out 1).trans rfl, (zC BK245.out 0).trans rfl, (zC BK245.out 1).trans rfl, (zC BK245.out 2).trans rfl⟩ (fun hHeld => ?_)
   clear hK K
   refine norm_ (a' := ?_) ?_ ?_
   rotate_left
   ·show Act.put _ (some 28) _ = _
    simp only [Act.put, List.setIfInBounds_toArray, List.set_cons_zero, List.set_cons_succ, i64_w, i32_w]
    rfl
   refine one_ (i := 3) (N := some 30) #[true, true, true, true, true, true, false, true, false] rfl rfl (one_of HT_.out (by kernel_rfl)) (by decide) (fun K hK => ?_)
   refine goes_ Tryd.func20 (by kernel_rfl) rfl #[.agg #[.int .i64 a1_0, .int .i64 a1_1, .slice A1_2 l1_2.length c1_2]] (by rfl) rfl rfl (by (try simp only [List.map_toArray, List.map_cons, List.map_nil]); first | done | rfl | (simp only [List.length_drop, List.length_take]; rfl)) ?_
   with_reducible refine (laws_toCred.calls k a1_0 a1_1 _ _ l1_2 t252 t253 t254 _ ?side1 ?side2 A25.out).mono ?_
   (case side1 => repeat (first | exact (Kd.C_below HR1_2.out HB.out) | (with_reducible refine Kd.C_alloc ?_ _) | (with_reducible refine Kd.C_drewN ?_ _) | (with_reducible refine Kd.C_drew ?_)))
   (case side2 => exact HC1_2.out)
   rintro e w48 ⟨v255, rfl, ho0, hb⟩
   refine ⟨_, rfl, ?_⟩
   have n0_ := zM (Kd.S_below (by (with_reducible repeat (first | apply Kd.S_alloc | apply Kd.S_drewN | apply Kd.S_drew)); exact HO251.out) hb)
   have n1_ := zM (Kd.R_lower ho0 (zZ (by with_reducible repeat (first | exact HB.out | apply zA | apply zN | apply zD | refine zS ?_ GE244.out | refine zS ?_ GE245.out | refine zS ?_ GE261.out))))
   have n2_ := zM (zL (g := gb244) (o := .cells #[.int .i64 a0_0, .slice A0_1 l0_1.length c0_1] 34 (0, 0)) (by (with_reducible repeat (first | refine zK ?_ _ | refine zW ?_ | refine zB ?_ _)); exact BK244.out) hb)
   have n3_ := zM (zL (g := gb245) (o := .cells #[.int .i64 a1_0, .int .i64 a1_1, .slice A1_2 l1_2.length c1_2] 37 (0, 0)) (by (with_reducible repeat (first | refine zK ?_ _ | refine zW ?_ | refine zB ?_ _)); exact BK245.out) hb)
   have n4_ := zM (zL (g := gb261) (o := .cells #[.int .i64 0, .string (⟨#[]⟩ : ByteArray), .int .i64 0, .int .i64 0] 41 (0, 0)) (by (with_reducible repeat (first | refine zK ?_ _ | refine zW ?_ | refine zB ?_ _)); exact BK261.out) hb)
   have n5_ := zM (zP (by with_reducible repeat (first | exact HB.out | apply zA | apply zN | apply zD | refine zS ?_ GE244.out | refine zS ?_ GE245.out | refine zS ?_ GE261.out)) hb)
   clear HO251
   clear BK244
   clear BK245
   clear BK261
   clear HB
   have HO251 := n0_
   have HO256 := n1_
   have BK244 := n2_
   have BK245 := n3_
   have BK261 := n4_
   have HB := n5_
   clear n0_ n1_ n2_ n3_ n4_ n5_
   (try clear hb)
   (try clear hb2)
   (try clear hk)
   (try clear hi)
   (try clear ho0)
   obtain ⟨Ao49, co49, eo49⟩ := Kd.S_slice HO251.out
   (first | subst eo49 | (injection eo49 with f1_ f2_ f3_; have f4_ := f1_.symm; have f5_ := f3_.symm; clear f1_ f2_ f3_; subst f4_; subst f5_))
   obtain ⟨Ao50, co50, eo50⟩ := Kd.R_slice HO256.out
   (first | subst eo50 | (injection eo50 with f1_ f2_ f3_; have f4_ := f1_.symm; have f5_ := f3_.symm; clear f1_ f2_ f3_; subst f4_; subst f5_))
   refine hK.out _ _ ⟨(zC BK244.out 0).trans rfl, (zC BK244.out 1).trans rfl, (zC BK245.out 0).trans rfl, (zC BK245.out 1).trans rfl, (zC BK245.out 2).trans rfl⟩ (fun hHeld => ?_)
   clear hK K
   refine norm_ (a' := ?_) ?_ ?_
   rotate_left
   ·show Act.put _ (some 30) _ = _
    simp only [Act.put, List.setIfInBounds_toArray, List.set_cons_zero, List.set_cons_succ, i64_w, i32_w]
    rfl
   refine one_ (i := 6) (N := some 33) #[true, true, true, true, true, true, true, true, false] rfl rfl (one_of HT_.out (by kernel_rfl)) (by decide) (fun K hK => ?_)
   refine goes_ Tryd.func18 (by kernel_rfl) rfl #[.agg #[.int .i64 t248, .slice Ao49 t249.length co49], .agg #[.int .i64 t252, .int .i64 t253, .slice Ao50 t254.length co50], .string a2, .bool a3] (by rfl) rfl rfl (by (try simp only [List.map_toArray, List.map_cons, List.map_nil]); first | done | rfl | (simp only [List.length_drop, List.length_take]; rfl)) ?_
   with_reducible refine (spec_Walk.calls t248 _ _ t249 t252 t253 _ _ t254 a2 a3 t257 t258 t259 t260 _ ?side1 ?side2 ?side3 ?side4 A26.out).mono ?_
   (case side1 => repeat (first | exact (Kd.S_reads' HO251.out).2.2 | (with_reducible refine Kd.C_alloc ?_ _) | (with_reducible refine Kd.C_drewN ?_ _) | (with_reducible refine Kd.C_drew ?_)))
   (case side2 => exact (Kd.S_reads' HO251.out).2.1)
   (case side3 => repeat (first | exact (Kd.R_reads' HO256.out).2.2 | (with_reducible refine Kd.C_alloc ?_ _) | (with_reducible refine Kd.C_drewN ?_ _) | (with_reducible refine Kd.C_drew ?_)))
   (case side4 => exact (Kd.R_reads' HO256.out).2.1)
   rintro e w51 ⟨rfl, hb⟩
   refine ⟨_, rfl, ?_⟩
   have n0_ := zM (Kd.S_below (by (with_reducible repeat (first | apply Kd.S_alloc | apply Kd.S_drewN | apply Kd.S_drew)); exact HO251.out) hb)
   have n1_ := zM (Kd.R_below (by (with_reducible repeat (first | apply Kd.R_alloc | apply Kd.R_drewN | apply Kd.R_drew)); exact HO256.out) hb)
   have n2_ := zM (zL (g := gb244) (o := .cells #[.int .i64 a0_0, .slice A0_1 l0_1.length c0_1] 34 (0, 0)) (by (with_reducible repeat (first | refine zK ?_ _ | refine zW ?_ | refine zB ?_ _)); exact BK244.out) hb)
   have n3_ := zM (zL (g := gb245) (o := .cells #[.int .i64 a1_0, .int .i64 a1_1, .slice A1_2 l1_2.length c1_2] 37 (0, 0)) (by (with_reducible repeat (first | refine zK ?_ _ | refine zW ?_ | refine zB ?_ _)); exact BK245.out) hb)
   have n4_ := zM (zL (g := gb261) (o := .cells #[.int .i64 0, .string (⟨#[]⟩ : ByteArray), .int .i64 0, .int .i64 0] 41 (0, 0)) (by (with_reducible repeat (first | refine zK ?_ _ | refine zW ?_ | refine zB ?_ _)); exact BK261.out) hb)
   have n5_ := zM (zP (by with_reducible repeat (first | exact HB.out | apply zA | apply zN | apply zD | refine zS ?_ GE244.out | refine zS ?_ GE245.out | refine zS ?_ GE261.out)) hb)
   clear HO251
   clear HO256
   clear BK244
   clear BK245
   clear BK261
   clear HB
   have HO251 := n0_
   have HO256 := n1_
   have BK244 := n2_
   have BK245 := n3_
   have BK261 := n4_
   have HB := n5_
   clear n0_ n1_ n2_ n3_ n4_ n5_
   (try clear hb)
   (try clear hb2)
   (try clear hk)
   (try clear hi)
   refine hK.out _ _ ⟨(zC BK244.out 0).trans rfl, (zC BK244.out 1).trans rfl, (zC BK245.out 0).trans rfl, (zC BK245.out 1).trans rfl, (zC BK245.out 2).trans rfl⟩ (fun hHeld => ?_)
   clear hK K
   refine norm_ (a' := ?_) ?_ ?_
   rotate_left
   ·show Act.put _ (some 33) _ = _
    simp only [Act.put, List.setIfInBounds_toArray, List.set_cons_zero, List.set_cons_succ, i64_w, i32_w]
    rfl
   exact norm_ (by simp only [putAll, Act.put, List.setIfInBounds_toArray, List.set_cons_zero, List.set_cons_succ]) (hCont (.slice Ao49 t249.length co49, .slice Ao50 t254.length co50, gb261) _ ⟨hHeld, (by (with_reducible repeat (first | apply Kd.S_alloc | apply Kd.S_drewN | apply Kd.S_drew)); exact HO251.out), (by (with_reducible repeat (first | apply Kd.R_alloc | apply Kd.R_drewN | apply Kd.R_drew)); exact HO256.out), (by (with_reducible repeat (first | refine zK ?_ _ | refine zW ?_ | refine zB ?_ _)); exact BK244.out), (by (with_reducible repeat (first | refine zK ?_ _ | refine zW ?_ | refine zB ?_ _)); exact BK245.out), (by (with_reducible repeat (first | refine zK ?_ _ | refine zW ?_ | refine zB ?_ _)); exact BK261.out), GW261.out, GE261.out, NB244_261.out, NB261_244.out, NB245_261.out, NB261_245.out, (by with_reducible repeat (first | exact HB.out | apply zA | apply zN | apply zD | refine zS ?_ GE244.out | refine zS ?_ GE245.out | refine zS ?_ GE261.out))⟩)
 rintro ⟨v250, v255, gb261⟩ w52 ⟨hS_, h0_, h1_, h2_, h3_, h4_, h5_, h6_, h7_, h8_, h9_, h10_, h11_⟩
 have n0_ : Aside0 (Kd.S k90 90 w52 w.heap.size (fun _ => True) v250 t249) := ⟨h0_⟩
 have n1_ : Aside0 (Kd.R (Kd.int .i64) 3 w52 w.heap.size (fun _ => True) v255 t254) := ⟨h1_⟩
 have n2_ : Aside0 (w52.heap[gb244]? = some (.cells #[.int .i64 a0_0, .slice A0_1 l0_1.length c0_1] 34 (0, 0))) := ⟨h2_⟩
 have n3_ : Aside0 (w52.heap[gb245]? = some (.cells #[.int .i64 a1_0, .int .i64 a1_1, .slice A1_2 l1_2.length c1_2] 37 (0, 0))) := ⟨h3_⟩
 have n4_ : Aside0 (w52.heap[gb261]? = some (.cells #[.int .i64 0, .string (⟨#[]⟩ : ByteArray), .int .i64 0, .int .i64 0] 41 (0, 0))) := ⟨h4_⟩
 have n5_ : Aside0 (w.heap.size ≤ gb261) := ⟨h5_⟩
 have n6_ : Aside0 (w.heap.size ≤ gb261) := ⟨h6_⟩
 have n7_ : Aside0 (gb244 ≠ gb261) := ⟨h7_⟩
 have n8_ : Aside0 (gb261 ≠ gb244) := ⟨h8_⟩
 have n9_ : Aside0 (gb245 ≠ gb261) := ⟨h9_⟩
 have n10_ : Aside0 (gb261 ≠ gb245) := ⟨h10_⟩
 have n11_ : Aside0 (Below w.heap.size w w52) := ⟨h11_⟩
 clear BK244
 clear BK245
 clear HB
 clear h0_ h1_ h2_ h3_ h4_ h5_ h6_ h7_ h8_ h9_ h10_ h11_
 have HO251 := n0_
 have HO256 := n1_
 have BK244 := n2_
 have BK245 := n3_
 have BK261 := n4_
 have GW261 := n5_
 have GE261 := n6_
 have NB244_261 := n7_
 have NB261_244 := n8_
 have NB245_261 := n9_
 have NB261_245 := n10_
 have HB := n11_
 clear n0_ n1_ n2_ n3_ n4_ n5_ n6_ n7_ n8_ n9_ n10_ n11_
 have hHeld : w52.cell? ⟨gb244, 0, none⟩ = some (.int .i64 a0_0) ∧ w52.cell? ⟨gb244, 1, none⟩ = some (.slice A0_1 l0_1.length c0_1) ∧ w52.cell? ⟨gb245, 0, none⟩ = some (.int .i64 a1_0) ∧ w52.cell? ⟨gb245, 1, none⟩ = some (.int .i64 a1_1) ∧ w52.cell? ⟨gb245, 2, none⟩ = some (.slice A1_2 l1_2.length c1_2) := hS_
 refine norm_ (a' := ?_) ?_ ?_
 rotate_left
 ·simp only [putAll, Act.put, List.setIfInBounds_toArray, List.set_cons_zero, List.set_cons_succ]
  rfl
 refine one_ (i := 8) (N := none) #[true, true, true, true, true, true, true, true, true] rfl rfl (one_of HT_.out (by kernel_rfl)) (by decide) (fun K hK => ?_)
 have hs53 : w52.cell? ⟨gb261, 0, none⟩ = some (.int .i64 0) := (zC BK261.out 0).trans rfl
 have hfs53 := zF BK261.out 0
 have hns53_0 := NB244_261.out
 have hns53_1 := NB245_261.out
 have hms53_0 := NB261_244.out
 have hms53_1 := NB261_245.out
 have hs54 : w52.cell? ⟨gb261, 1, none⟩ = some (.string (⟨#[]⟩ : ByteArray)) := (zC BK261.out 1).trans rfl
 have hfs54 := zF BK261.out 1
 have hns54_0 := NB244_261.out
 have hns54_1 := NB245_261.out
 have hms54_0 := NB261_244.out
 have hms54_1 := NB261_245.out
 have hs55 : w52.cell? ⟨gb261, 2, none⟩ = some (.int .i64 0) := (zC BK261.out 2).trans rfl
 have hfs55 := zF BK261.out 2
 have hns55_0 := NB244_261.out
 have hns55_1 := NB245_261.out
 have hms55_0 := NB261_244.out
 have hms55_1 := NB261_245.out
 have hs56 : w52.cell? ⟨gb261, 3, none⟩ = some (.int .i64 0) := (zC BK261.out 3).trans rfl
 have hfs56 := zF BK261.out 3
 have hns56_0 := NB244_261.out
 have hns56_1 := NB245_261.out
 have hms56_0 := NB261_244.out
 have hms56_1 := NB261_245.out
 refine skip_ (w1 := ?_) (by rfl) rfl ?_ ?_
 rotate_left
 ·go_simp
  rfl
 refine hK.out _ _ ⟨((cell_far (p := ⟨gb261, _, none⟩) NB244_261.out _).trans (((cell_far (p := ⟨gb261, _, none⟩) NB244_261.out _).trans (((cell_far (p := ⟨gb261, _, none⟩) NB244_261.out _).trans (((cell_far (p := ⟨gb261, _, none⟩) NB244_261.out _).trans (hHeld.1)))))))), ((cell_far (p := ⟨gb261, _, none⟩) NB244_261.out _).trans (((cell_far (p := ⟨gb261, _, none⟩) NB244_261.out _).trans (((cell_far (p := ⟨gb261, _, none⟩) NB244_261.out _).trans (((cell_far (p := ⟨gb261, _, none⟩) NB244_261.out _).trans (hHeld.2.1)))))))), ((cell_far (p := ⟨gb261, _, none⟩) NB245_261.out _).trans (((cell_far (p := ⟨gb261, _, none⟩) NB245_261.out _).trans (((cell_far (p := ⟨gb261, _, none⟩) NB245_261.out _).trans (((cell_far (p := ⟨gb261, _, none⟩) NB245_261.out _).trans (hHeld.2.2.1)))))))), ((cell_far (p := ⟨gb261, _, none⟩) NB245_261.out _).trans (((cell_far (p := ⟨gb261, _, none⟩) NB245_261.out _).trans (((cell_far (p := ⟨gb261, _, none⟩) NB245_261.out _).trans (((cell_far (p := ⟨gb261, _, none⟩) NB245_261.out _).trans (hHeld.2.2.2.1)))))))), ((cell_far (p := ⟨gb261, _, none⟩) NB245_261.out _).trans (((cell_far (p := ⟨gb261, _, none⟩) NB245_261.out _).trans (((cell_far (p := ⟨gb261, _, none⟩) NB245_261.out _).trans (((cell_far (p := ⟨gb261, _, none⟩) NB245_261.out _).trans (hHeld.2.2.2.2))))))))⟩ (fun hHeld => ?_)
 clear hK K
 refine done_ (done_of HT_.out (by kernel_rfl)) ?_
 have hnb57 := NB244_261.out
 have hnc57 := NB261_244.out
 have hcz58_0 : w52.cell? ⟨gb244, 0, none⟩ = some (.int .i64 a0_0) := (zC BK244.out 0).trans rfl
 have hcz58_1 : w52.cell? ⟨gb244, 1, none⟩ = some (.slice A0_1 l0_1.length c0_1) := (zC BK244.out 1).trans rfl
 have hfz58_0 := zF BK244.out 0
 have hfz58_1 := zF BK244.out 1
 try go_wp2_with (first | ((with_reducible refine gate_callee (f := 19) rfl ?_); refine goesL_ (some 35) rfl rfl Tryd.func19 (by kernel_rfl) rfl #[.agg #[.int .i64 a0_0, .slice A0_1 l0_1.length c0_1]] rfl (by (try simp only [List.map_toArray, List.map_cons, List.map_nil]); first | done | rfl | (simp only [List.length_drop, List.length_take]; rfl)) ?_; (with_reducible refine (laws_toVol.calls k a0_0 _ _ l0_1 t262 t263 _ ?side1 ?side2 A27.out).mono ?_); (case side1 => exact Kd.C_below HR0_1.out (by with_reducible repeat (first | exact HB.out | apply zA | apply zN | apply zD | refine zS ?_ GE244.out | refine zS ?_ GE245.out | refine zS ?_ GE261.out))); (case side2 => exact HC0_1.out); rintro e w59 ⟨v264, rfl, ho0, hb⟩; refine ⟨_, rfl, ?_⟩; have n0_ := zM (Kd.S_elder' (by (with_reducible repeat (first | apply Kd.S_alloc | apply Kd.S_drewN | apply Kd.S_drew)); exact (Kd.S_mono (Kd.S_far (p := ⟨gb261, 3, none⟩) (Kd.S_far (p := ⟨gb261, 2, none⟩) (Kd.S_far (p := ⟨gb261, 1, none⟩) (Kd.S_far (p := ⟨gb261, 0, none⟩) (Kd.S_types HO251.out BK261.out (by decide)) (fun _ hk => hk.2) (.int .i64 t257)) (fun _ hk => hk.2) (.string t258)) (fun _ hk => hk.2) (.int .i64 t259)) (fun _ hk => hk.2) (.int .i64 t260)) (fun _ h_ => h_.1))) (Kd.S_base ho0) hb); have n1_ := zM (Kd.R_below (by (with_reducible repeat (first | apply Kd.R_alloc | apply Kd.R_drewN | apply Kd.R_drew)); exact (Kd.R_mono (Kd.R_far (p := ⟨gb261, 3, none⟩) (Kd.R_far (p := ⟨gb261, 2, none⟩) (Kd.R_far (p := ⟨gb261, 1, none⟩) (Kd.R_far (p := ⟨gb261, 0, none⟩) (Kd.R_types HO256.out BK261.out (by decide)) (fun _ hk => hk.2) (.int .i64 t257)) (fun _ hk => hk.2) (.string t258)) (fun _ hk => hk.2) (.int .i64 t259)) (fun _ hk => hk.2) (.int .i64 t260)) (fun _ h_ => h_.1))) hb); have n2_ := zM (Kd.S_lower (Kd.S_new' ho0 (Kd.S_lt (by (with_reducible repeat (first | apply Kd.S_alloc | apply Kd.S_drewN | apply Kd.S_drew)); exact (Kd.S_mono (Kd.S_far (p := ⟨gb261, 3, none⟩) (Kd.S_far (p := ⟨gb261, 2, none⟩) (Kd.S_far (p := ⟨gb261, 1, none⟩) (Kd.S_far (p := ⟨gb261, 0, none⟩) (Kd.S_types HO251.out BK261.out (by decide)) (fun _ hk => hk.2) (.int .i64 t257)) (fun _ hk => hk.2) (.string t258)) (fun _ hk => hk.2) (.int .i64 t259)) (fun _ hk => hk.2) (.int .i64 t260)) (fun _ h_ => h_.1))))) (zZ (by with_reducible repeat (first | exact HB.out | apply zA | apply zN | apply zD | refine zS ?_ GE244.out | refine zS ?_ GE245.out | refine zS ?_ GE261.out)))); have n3_ := zM (zL (g := gb244) (o := .cells #[.int .i64 a0_0, .slice A0_1 l0_1.length c0_1] 34 (0, 0)) (by (with_reducible repeat (first | refine zK ?_ _ | refine zW ?_ | refine zB ?_ _)); refine blk_far ?_ NB244_261.out _; (with_reducible repeat (first | refine zK ?_ _ | refine zW ?_ | refine zB ?_ _)); refine blk_far ?_ NB244_261.out _; (with_reducible repeat (first | refine zK ?_ _ | refine zW ?_ | refine zB ?_ _)); refine blk_far ?_ NB244_261.out _; (with_reducible repeat (first | refine zK ?_ _ | refine zW ?_ | refine zB ?_ _)); refine blk_far ?_ NB244_261.out _; (with_reducible repeat (first | refine zK ?_ _ | refine zW ?_ | refine zB ?_ _)); exact BK244.out) hb); have n4_ := zM (zL (g := gb245) (o := .cells #[.int .i64 a1_0, .int .i64 a1_1, .slice A1_2 l1_2.length c1_2] 37 (0, 0)) (by (with_reducible repeat (first | refine zK ?_ _ | refine zW ?_ | refine zB ?_ _)); refine blk_far ?_ NB245_261.out _; (with_reducible repeat (first | refine zK ?_ _ | refine zW ?_ | refine zB ?_ _)); refine blk_far ?_ NB245_261.out _; (with_reducible repeat (first | refine zK ?_ _ | refine zW ?_ | refine zB ?_ _)); refine blk_far ?_ NB245_261.out _; (with_reducible repeat (first | refine zK ?_ _ | refine zW ?_ | refine zB ?_ _)); refine blk_far ?_ NB245_261.out _; (with_reducible repeat (first | refine zK ?_ _ | refine zW ?_ | refine zB ?_ _)); exact BK245.out) hb); have n5_ := zM (zL (g := gb261) (o := .cells #[.int .i64 t257, .string t258, .int .i64 t259, .int .i64 t260] 41 (0, 0)) (by (with_reducible repeat (first | refine zK ?_ _ | refine zW ?_ | refine zB ?_ _)); refine blk_put (cs := #[.int .i64 t257, .string t258, .int .i64 t259, .int .i64 0]) ?_ 3 _ rfl; (with_reducible repeat (first | refine zK ?_ _ | refine zW ?_ | refine zB ?_ _)); refine blk_put (cs := #[.int .i64 t257, .string t258, .int .i64 0, .int .i64 0]) ?_ 2 _ rfl; (with_reducible repeat (first | refine zK ?_ _ | refine zW ?_ | refine zB ?_ _)); refine blk_put (cs := #[.int .i64 t257, .string (⟨#[]⟩ : ByteArray), .int .i64 0, .int .i64 0]) ?_ 1 _ rfl; (with_reducible repeat (first | refine zK ?_ _ | refine zW ?_ | refine zB ?_ _)); refine blk_put (cs := #[.int .i64 0, .string (⟨#[]⟩ : ByteArray), .int .i64 0, .int .i64 0]) ?_ 0 _ rfl; (with_reducible repeat (first | refine zK ?_ _ | refine zW ?_ | refine zB ?_ _)); exact BK261.out) hb); have n6_ := zM (zP (by with_reducible repeat (first | exact HB.out | apply zA | apply zN | apply zD | refine zS ?_ GE244.out | refine zS ?_ GE245.out | refine zS ?_ GE261.out)) hb); clear HO251; clear HO256; clear BK244; clear BK245; clear BK261; clear HB; have HO251 := n0_; have HO256 := n1_; have HO265 := n2_; have BK244 := n3_; have BK245 := n4_; have BK261 := n5_; have HB := n6_; clear n0_ n1_ n2_ n3_ n4_ n5_ n6_; (try clear hb); (try clear hb2); (try clear hk); (try clear hi); (try clear ho0)) | ((with_reducible refine gate_dst (N := 11) rfl ?_); refine box_event ?hg (N := 11) ?hd (cs := #[.int .i64 0, .slice none 0 0]) (t := 45) ?hr ?_; (case hd => rfl); (case hg => rfl); (case hr => first | (go_simp; done) | (go_simp; rfl)); intro gb266 hg w60 hbox hb; have n0_ := zM (Kd.S_below (by (with_reducible repeat (first | apply Kd.S_alloc | apply Kd.S_drewN | apply Kd.S_drew)); exact HO251.out) hb); have n1_ := zM (Kd.R_below (by (with_reducible repeat (first | apply Kd.R_alloc | apply Kd.R_drewN | apply Kd.R_drew)); exact HO256.out) hb); have n2_ := zM (Kd.S_below (by (with_reducible repeat (first | apply Kd.S_alloc | apply Kd.S_drewN | apply Kd.S_drew)); exact HO265.out) hb); have n3_ := zM (zL (g := gb244) (o := .cells #[.int .i64 a0_0, .slice A0_1 l0_1.length c0_1] 34 (0, 0)) (by (with_reducible repeat (first | refine zK ?_ _ | refine zW ?_ | refine zB ?_ _)); exact BK244.out) hb); have n4_ := zM (zL (g := gb245) (o := .cells #[.int .i64 a1_0, .int .i64 a1_1, .slice A1_2 l1_2.length c1_2] 37 (0, 0)) (by (with_reducible repeat (first | refine zK ?_ _ | refine zW ?_ | refine zB ?_ _)); exact BK245.out) hb); have n5_ := zM (zL (g := gb261) (o := .cells #[.int .i64 t257, .string t258, .int .i64 t259, .int .i64 t260] 41 (0, 0)) (by (with_reducible repeat (first | refine zK ?_ _ | refine zW ?_ | refine zB ?_ _)); exact BK261.out) hb); have n6_ := zM (zP (by with_reducible repeat (first | exact HB.out | apply zA | apply zN | apply zD | refine zS ?_ GE244.out | refine zS ?_ GE245.out | refine zS ?_ GE261.out)) hb); have n7_ := zM (hbox); have n8_ := zM ((by rw [hg]; exact (zZ (by with_reducible repeat (first | exact HB.out | apply zA | apply zN | apply zD | refine zS ?_ GE244.out | refine zS ?_ GE245.out | refine zS ?_ GE261.out))) : w.heap.size ≤ gb266)); have n9_ := zM ((by rw [hg]; exact (zZ (by with_reducible repeat (first | exact HB.out | apply zA | apply zN | apply zD | refine zS ?_ GE244.out | refine zS ?_ GE245.out | refine zS ?_ GE261.out))) : w.heap.size ≤ gb266)); have n10_ := zM ((by rw [hg]; exact Nat.ne_of_lt (blk_lt (g := gb244) (o := .cells #[.int .i64 a0_0, .slice A0_1 l0_1.length c0_1] 34 (0, 0)) (by (with_reducible repeat (first | refine zK ?_ _ | refine zW ?_ | refine zB ?_ _)); exact BK244.out)) : gb244 ≠ gb266)); have n11_ := zM ((by rw [hg]; exact Nat.ne_of_gt (blk_lt (g := gb244) (o := .cells #[.int .i64 a0_0, .slice A0_1 l0_1.length c0_1] 34 (0, 0)) (by (with_reducible repeat (first | refine zK ?_ _ | refine zW ?_ | refine zB ?_ _)); exact BK244.out)) : gb266 ≠ gb244)); have n12_ := zM ((by rw [hg]; exact Nat.ne_of_lt (blk_lt (g := gb245) (o := .cells #[.int .i64 a1_0, .int .i64 a1_1, .slice A1_2 l1_2.length c1_2] 37 (0, 0)) (by (with_reducible repeat (first | refine zK ?_ _ | refine zW ?_ | refine zB ?_ _)); exact BK245.out)) : gb245 ≠ gb266)); have n13_ := zM ((by rw [hg]; exact Nat.ne_of_gt (blk_lt (g := gb245) (o := .cells #[.int .i64 a1_0, .int .i64 a1_1, .slice A1_2 l1_2.length c1_2] 37 (0, 0)) (by (with_reducible repeat (first | refine zK ?_ _ | refine zW ?_ | refine zB ?_ _)); exact BK245.out)) : gb266 ≠ gb245)); have n14_ := zM ((by rw [hg]; exact Nat.ne_of_lt (blk_lt (g := gb261) (o := .cells #[.int .i64 t257, .string t258, .int .i64 t259, .int .i64 t260] 41 (0, 0)) (by (with_reducible repeat (first | refine zK ?_ _ | refine zW ?_ | refine zB ?_ _)); exact BK261.out)) : gb261 ≠ gb266)); have n15_ := zM ((by rw [hg]; exact Nat.ne_of_gt (blk_lt (g := gb261) (o := .cells #[.int .i64 t257, .string t258, .int .i64 t259, .int .i64 t260] 41 (0, 0)) (by (with_reducible repeat (first | refine zK ?_ _ | refine zW ?_ | refine zB ?_ _)); exact BK261.out)) : gb266 ≠ gb261)); clear HO251; clear HO256; clear HO265; clear BK244; clear BK245; clear BK261; clear HB; have HO251 := n0_; have HO256 := n1_; have HO265 := n2_; have BK244 := n3_; have BK245 := n4_; have BK261 := n5_; have HB := n6_; have BK266 := n7_; have GW266 := n8_; have GE266 := n9_; have NB244_266 := n10_; have NB266_244 := n11_; have NB245_266 := n12_; have NB266_245 := n13_; have NB261_266 := n14_; have NB266_261 := n15_; clear n0_ n1_ n2_ n3_ n4_ n5_ n6_ n7_ n8_ n9_ n10_ n11_ n12_ n13_ n14_ n15_; clear hb hbox hg; have hnb61 := NB266_244.out; have hnc61 := NB244_266.out; have hnb62 := NB266_245.out; have hnc62 := NB245_266.out; have hnb63 := NB266_261.out; have hnc63 := NB261_266.out; have hcz64_0 : w60.cell? ⟨gb266, 0, none⟩ = some (.int .i64 0) := (zC BK266.out 0).trans rfl; have hcz64_1 : w60.cell? ⟨gb266, 1, none⟩ = some (.slice none 0 0) := (zC BK266.out 1).trans rfl; have hfz64_0 := zF BK266.out 0; have hfz64_1 := zF BK266.out 1; obtain ⟨Ao65, co65, eo65⟩ := Kd.S_slice HO265.out; subst eo65; have hnb66 := NB245_261.out; have hnc66 := NB261_245.out; have hcz67_0 : w60.cell? ⟨gb245, 0, none⟩ = some (.int .i64 a1_0) := (zC BK245.out 0).trans rfl; have hcz67_1 : w60.cell? ⟨gb245, 1, none⟩ = some (.int .i64 a1_1) := (zC BK245.out 1).trans rfl; have hcz67_2 : w60.cell? ⟨gb245, 2, none⟩ = some (.slice A1_2 l1_2.length c1_2) := (zC BK245.out 2).trans rfl; have hfz67_0 := zF BK245.out 0; have hfz67_1 := zF BK245.out 1; have hfz67_2 := zF BK245.out 2) | ((with_reducible refine gate_callee (f := 20) rfl ?_); refine goesL_ (some 37) rfl rfl Tryd.func20 (by kernel_rfl) rfl #[.agg #[.int .i64 a1_0, .int .i64 a1_1, .slice A1_2 l1_2.length c1_2]] rfl (by (try simp only [List.map_toArray, List.map_cons, List.map_nil]); first | done | rfl | (simp only [List.length_drop, List.length_take]; rfl)) ?_; (with_reducible refine (laws_toCred.calls k a1_0 a1_1 _ _ l1_2 t267 t268 t269 _ ?side1 ?side2 A28.out).mono ?_); (case side1 => exact Kd.C_below HR1_2.out (by with_reducible repeat (first | exact HB.out | apply zA | apply zN | apply zD | refine zS ?_ GE244.out | refine zS ?_ GE245.out | refine zS ?_ GE261.out | refine zS ?_ GE266.out))); (case side2 => exact HC1_2.out); rintro e w68 ⟨v270, rfl, ho0, hb⟩; refine ⟨_, rfl, ?_⟩; have n0_ := zM (Kd.S_below (by (with_reducible repeat (first | apply Kd.S_alloc | apply Kd.S_drewN | apply Kd.S_drew)); exact (Kd.S_mono (Kd.S_far (p := ⟨gb266, 1, none⟩) (Kd.S_far (p := ⟨gb266, 0, none⟩) (Kd.S_types HO251.out BK266.out (by decide)) (fun _ hk => hk.2) (.int .i64 t262)) (fun _ hk => hk.2) (.slice Ao65 t263.length co65)) (fun _ h_ => h_.1))) hb); have n1_ := zM (Kd.R_elder' (by (with_reducible repeat (first | apply Kd.R_alloc | apply Kd.R_drewN | apply Kd.R_drew)); exact (Kd.R_mono (Kd.R_far (p := ⟨gb266, 1, none⟩) (Kd.R_far (p := ⟨gb266, 0, none⟩) (Kd.R_types HO256.out BK266.out (by decide)) (fun _ hk => hk.2) (.int .i64 t262)) (fun _ hk => hk.2) (.slice Ao65 t263.length co65)) (fun _ h_ => h_.1))) (Kd.R_base ho0) hb); have n2_ := zM (Kd.S_below (by (with_reducible repeat (first | apply Kd.S_alloc | apply Kd.S_drewN | apply Kd.S_drew)); exact (Kd.S_mono (Kd.S_far (p := ⟨gb266, 1, none⟩) (Kd.S_far (p := ⟨gb266, 0, none⟩) (Kd.S_types HO265.out BK266.out (by decide)) (fun _ hk => hk.2) (.int .i64 t262)) (fun _ hk => hk.2) (.slice Ao65 t263.length co65)) (fun _ h_ => h_.1))) hb); have n3_ := zM (Kd.R_lower (Kd.R_new' ho0 (Kd.R_lt (by (with_reducible repeat (first | apply Kd.R_alloc | apply Kd.R_drewN | apply Kd.R_drew)); exact (Kd.R_mono (Kd.R_far (p := ⟨gb266, 1, none⟩) (Kd.R_far (p := ⟨gb266, 0, none⟩) (Kd.R_types HO256.out BK266.out (by decide)) (fun _ hk => hk.2) (.int .i64 t262)) (fun _ hk => hk.2) (.slice Ao65 t263.length co65)) (fun _ h_ => h_.1))))) (zZ (by with_reducible repeat (first | exact HB.out | apply zA | apply zN | apply zD | refine zS ?_ GE244.out | refine zS ?_ GE245.out | refine zS ?_ GE261.out | refine zS ?_ GE266.out)))); have n4_ := zM (zL (g := gb244) (o := .cells #[.int .i64 a0_0, .slice A0_1 l0_1.length c0_1] 34 (0, 0)) (by (with_reducible repeat (first | refine zK ?_ _ | refine zW ?_ | refine zB ?_ _)); refine blk_far ?_ NB244_266.out _; (with_reducible repeat (first | refine zK ?_ _ | refine zW ?_ | refine zB ?_ _)); refine blk_far ?_ NB244_266.out _; (with_reducible repeat (first | refine zK ?_ _ | refine zW ?_ | refine zB ?_ _)); exact BK244.out) hb); have n5_ := zM (zL (g := gb245) (o := .cells #[.int .i64 a1_0, .int .i64 a1_1, .slice A1_2 l1_2.length c1_2] 37 (0, 0)) (by (with_reducible repeat (first | refine zK ?_ _ | refine zW ?_ | refine zB ?_ _)); refine blk_far ?_ NB245_266.out _; (with_reducible repeat (first | refine zK ?_ _ | refine zW ?_ | refine zB ?_ _)); refine blk_far ?_ NB245_266.out _; (with_reducible repeat (first | refine zK ?_ _ | refine zW ?_ | refine zB ?_ _)); exact BK245.out) hb); have n6_ := zM (zL (g := gb261) (o := .cells #[.int .i64 t257, .string t258, .int .i64 t259, .int .i64 t260] 41 (0, 0)) (by (with_reducible repeat (first | refine zK ?_ _ | refine zW ?_ | refine zB ?_ _)); refine blk_far ?_ NB261_266.out _; (with_reducible repeat (first | refine zK ?_ _ | refine zW ?_ | refine zB ?_ _)); refine blk_far ?_ NB261_266.out _; (with_reducible repeat (first | refine zK ?_ _ | refine zW ?_ | refine zB ?_ _)); exact BK261.out) hb); have n7_ := zM (zL (g := gb266) (o := .cells #[.int .i64 t262, .slice Ao65 t263.length co65] 45 (0, 0)) (by (with_reducible repeat (first | refine zK ?_ _ | refine zW ?_ | refine zB ?_ _)); refine blk_put (cs := #[.int .i64 t262, .slice none 0 0]) ?_ 1 _ rfl; (with_reducible repeat (first | refine zK ?_ _ | refine zW ?_ | refine zB ?_ _)); refine blk_put (cs := #[.int .i64 0, .slice none 0 0]) ?_ 0 _ rfl; (with_reducible repeat (first | refine zK ?_ _ | refine zW ?_ | refine zB ?_ _)); exact BK266.out) hb); have n8_ := zM (zP (by with_reducible repeat (first | exact HB.out | apply zA | apply zN | apply zD | refine zS ?_ GE244.out | refine zS ?_ GE245.out | refine zS ?_ GE261.out | refine zS ?_ GE266.out)) hb); clear HO251; clear HO256; clear HO265; clear BK244; clear BK245; clear BK261; clear BK266; clear HB; have HO251 := n0_; have HO256 := n1_; have HO265 := n2_; have HO271 := n3_; have BK244 := n4_; have BK245 := n5_; have BK261 := n6_; have BK266 := n7_; have HB := n8_; clear n0_ n1_ n2_ n3_ n4_ n5_ n6_ n7_ n8_; (try clear hb); (try clear hb2); (try clear hk); (try clear hi); (try clear ho0)) | ((with_reducible refine gate_dst (N := 12) rfl ?_); refine box_event ?hg (N := 12) ?hd (cs := #[.int .i64 0, .int .i64 0, .slice none 0 0]) (t := 47) ?hr ?_; (case hd => rfl); (case hg => rfl); (case hr => first | (go_simp; done) | (go_simp; rfl)); intro gb272 hg w69 hbox hb; have n0_ := zM (Kd.S_below (by (with_reducible repeat (first | apply Kd.S_alloc | apply Kd.S_drewN | apply Kd.S_drew)); exact HO251.out) hb); have n1_ := zM (Kd.R_below (by (with_reducible repeat (first | apply Kd.R_alloc | apply Kd.R_drewN | apply Kd.R_drew)); exact HO256.out) hb); have n2_ := zM (Kd.S_below (by (with_reducible repeat (first | apply Kd.S_alloc | apply Kd.S_drewN | apply Kd.S_drew)); exact HO265.out) hb); have n3_ := zM (Kd.R_below (by (with_reducible repeat (first | apply Kd.R_alloc | apply Kd.R_drewN | apply Kd.R_drew)); exact HO271.out) hb); have n4_ := zM (zL (g := gb244) (o := .cells #[.int .i64 a0_0, .slice A0_1 l0_1.length c0_1] 34 (0, 0)) (by (with_reducible repeat (first | refine zK ?_ _ | refine zW ?_ | refine zB ?_ _)); exact BK244.out) hb); have n5_ := zM (zL (g := gb245) (o := .cells #[.int .i64 a1_0, .int .i64 a1_1, .slice A1_2 l1_2.length c1_2] 37 (0, 0)) (by (with_reducible repeat (first | refine zK ?_ _ | refine zW ?_ | refine zB ?_ _)); exact BK245.out) hb); have n6_ := zM (zL (g := gb261) (o := .cells #[.int .i64 t257, .string t258, .int .i64 t259, .int .i64 t260] 41 (0, 0)) (by (with_reducible repeat (first | refine zK ?_ _ | refine zW ?_ | refine zB ?_ _)); exact BK261.out) hb); have n7_ := zM (zL (g := gb266) (o := .cells #[.int .i64 t262, .slice Ao65 t263.length co65] 45 (0, 0)) (by (with_reducible repeat (first | refine zK ?_ _ | refine zW ?_ | refine zB ?_ _)); exact BK266.out) hb); have n8_ := zM (zP (by with_reducible repeat (first | exact HB.out | apply zA | apply zN | apply zD | refine zS ?_ GE244.out | refine zS ?_ GE245.out | refine zS ?_ GE261.out | refine zS ?_ GE266.out)) hb); have n9_ := zM (hbox); have n10_ := zM ((by rw [hg]; exact (zZ (by with_reducible repeat (first | exact HB.out | apply zA | apply zN | apply zD | refine zS ?_ GE244.out | refine zS ?_ GE245.out | refine zS ?_ GE261.out | refine zS ?_ GE266.out))) : w.heap.size ≤ gb272)); have n11_ := zM ((by rw [hg]; exact (zZ (by with_reducible repeat (first | exact HB.out | apply zA | apply zN | apply zD | refine zS ?_ GE244.out | refine zS ?_ GE245.out | refine zS ?_ GE261.out | refine zS ?_ GE266.out))) : w.heap.size ≤ gb272)); have n12_ := zM ((by rw [hg]; exact Nat.ne_of_lt (blk_lt (g := gb244) (o := .cells #[.int .i64 a0_0, .slice A0_1 l0_1.length c0_1] 34 (0, 0)) (by (with_reducible repeat (first | refine zK ?_ _ | refine zW ?_ | refine zB ?_ _)); exact BK244.out)) : gb244 ≠ gb272)); have n13_ := zM ((by rw [hg]; exact Nat.ne_of_gt (blk_lt (g := gb244) (o := .cells #[.int .i64 a0_0, .slice A0_1 l0_1.length c0_1] 34 (0, 0)) (by (with_reducible repeat (first | refine zK ?_ _ | refine zW ?_ | refine zB ?_ _)); exact BK244.out)) : gb272 ≠ gb244)); have n14_ := zM ((by rw [hg]; exact Nat.ne_of_lt (blk_lt (g := gb245) (o := .cells #[.int .i64 a1_0, .int .i64 a1_1, .slice A1_2 l1_2.length c1_2] 37 (0, 0)) (by (with_reducible repeat (first | refine zK ?_ _ | refine zW ?_ | refine zB ?_ _)); exact BK245.out)) : gb245 ≠ gb272)); have n15_ := zM ((by rw [hg]; exact Nat.ne_of_gt (blk_lt (g := gb245) (o := .cells #[.int .i64 a1_0, .int .i64 a1_1, .slice A1_2 l1_2.length c1_2] 37 (0, 0)) (by (with_reducible repeat (first | refine zK ?_ _ | refine zW ?_ | refine zB ?_ _)); exact BK245.out)) : gb272 ≠ gb245)); have n16_ := zM ((by rw [hg]; exact Nat.ne_of_lt (blk_lt (g := gb261) (o := .cells #[.int .i64 t257, .string t258, .int .i64 t259, .int .i64 t260] 41 (0, 0)) (by (with_reducible repeat (first | refine zK ?_ _ | refine zW ?_ | refine zB ?_ _)); exact BK261.out)) : gb261 ≠ gb272)); have n17_ := zM ((by rw [hg]; exact Nat.ne_of_gt (blk_lt (g := gb261) (o := .cells #[.int .i64 t257, .string t258, .int .i64 t259, .int .i64 t260] 41 (0, 0)) (by (with_reducible repeat (first | refine zK ?_ _ | refine zW ?_ | refine zB ?_ _)); exact BK261.out)) : gb272 ≠ gb261)); have n18_ := zM ((by rw [hg]; exact Nat.ne_of_lt (blk_lt (g := gb266) (o := .cells #[.int .i64 t262, .slice Ao65 t263.length co65] 45 (0, 0)) (by (with_reducible repeat (first | refine zK ?_ _ | refine zW ?_ | refine zB ?_ _)); exact BK266.out)) : gb266 ≠ gb272)); have n19_ := zM ((by rw [hg]; exact Nat.ne_of_gt (blk_lt (g := gb266) (o := .cells #[.int .i64 t262, .slice Ao65 t263.length co65] 45 (0, 0)) (by (with_reducible repeat (first | refine zK ?_ _ | refine zW ?_ | refine zB ?_ _)); exact BK266.out)) : gb272 ≠ gb266)); clear HO251; clear HO256; clear HO265; clear HO271; clear BK244; clear BK245; clear BK261; clear BK266; clear HB; have HO251 := n0_; have HO256 := n1_; have HO265 := n2_; have HO271 := n3_; have BK244 := n4_; have BK245 := n5_; have BK261 := n6_; have BK266 := n7_; have HB := n8_; have BK272 := n9_; have GW272 := n10_; have GE272 := n11_; have NB244_272 := n12_; have NB272_244 := n13_; have NB245_272 := n14_; have NB272_245 := n15_; have NB261_272 := n16_; have NB272_261 := n17_; have NB266_272 := n18_; have NB272_266 := n19_; clear n0_ n1_ n2_ n3_ n4_ n5_ n6_ n7_ n8_ n9_ n10_ n11_ n12_ n13_ n14_ n15_ n16_ n17_ n18_ n19_; clear hb hbox hg; have hnb70 := NB272_244.out; have hnc70 := NB244_272.out; have hnb71 := NB272_245.out; have hnc71 := NB245_272.out; have hnb72 := NB272_261.out; have hnc72 := NB261_272.out; have hnb73 := NB272_266.out; have hnc73 := NB266_272.out; have hcz74_0 : w69.cell? ⟨gb272, 0, none⟩ = some (.int .i64 0) := (zC BK272.out 0).trans rfl; have hcz74_1 : w69.cell? ⟨gb272, 1, none⟩ = some (.int .i64 0) := (zC BK272.out 1).trans rfl; have hcz74_2 : w69.cell? ⟨gb272, 2, none⟩ = some (.slice none 0 0) := (zC BK272.out 2).trans rfl; have hfz74_0 := zF BK272.out 0; have hfz74_1 := zF BK272.out 1; have hfz74_2 := zF BK272.out 2; obtain ⟨Ao75, co75, eo75⟩ := Kd.R_slice HO271.out; subst eo75; have hcz76_0 : w69.cell? ⟨gb266, 0, none⟩ = some (.int .i64 t262) := (zC BK266.out 0).trans rfl; have hcz76_1 : w69.cell? ⟨gb266, 1, none⟩ = some (.slice Ao65 t263.length co65) := (zC BK266.out 1).trans rfl; have hfz76_0 := zF BK266.out 0; have hfz76_1 := zF BK266.out 1) | ((with_reducible refine gate_callee (f := 21) rfl ?_); refine goesL_ (some 42) rfl rfl Tryd.func21 (by kernel_rfl) rfl #[.agg #[.int .i64 t262, .slice Ao65 t263.length co65], .agg #[.int .i64 t267, .int .i64 t268, .slice Ao75 t269.length co75], .string a2, .bool a3] rfl (by (try simp only [List.map_toArray, List.map_cons, List.map_nil]); first | done | rfl | (simp only [List.length_drop, List.length_take]; rfl)) ?_; (with_reducible refine (impl_Walk.callsM m0 t262 _ _ t263 t267 t268 _ _ t269 a2 a3 t273 t274 t275 t276 _ ?side1 ?side2 ?side3 ?side4 A29.out (pw_cell_below (by with_reducible repeat (first | exact HB.out | apply zA | apply zN | apply zD | refine zS ?_ GE244.out | refine zS ?_ GE245.out | refine zS ?_ GE261.out | refine zS ?_ GE266.out | refine zS ?_ GE272.out)) HM0.out)).mono ?_); (case side1 => refine (Kd.S_reads' (e := 90) (base := w.heap.size) (ok := fun k_ => (True ∧ some k_ ≠ (v250 : Value).ownBlock)) (n := t263.length) (c := co65) ?_).2.2; exact (by (with_reducible repeat (first | apply Kd.S_alloc | apply Kd.S_drewN | apply Kd.S_drew)); exact (Kd.S_mono (Kd.S_far (p := ⟨gb272, 2, none⟩) (Kd.S_far (p := ⟨gb272, 1, none⟩) (Kd.S_far (p := ⟨gb272, 0, none⟩) (Kd.S_types HO265.out BK272.out (by decide)) (fun _ hk => hk.2) (.int .i64 t267)) (fun _ hk => hk.2) (.int .i64 t268)) (fun _ hk => hk.2) (.slice Ao75 t269.length co75)) (fun _ h_ => h_.1)))); (case side2 => exact (Kd.S_reads' HO265.out).2.1); (case side3 => refine (Kd.R_reads' (e := 3) (base := w.heap.size) (ok := fun k_ => (True ∧ some k_ ≠ (v255 : Value).ownBlock)) (n := t269.length) (c := co75) ?_).2.2; exact (by (with_reducible repeat (first | apply Kd.R_alloc | apply Kd.R_drewN | apply Kd.R_drew)); exact (Kd.R_mono (Kd.R_far (p := ⟨gb272, 2, none⟩) (Kd.R_far (p := ⟨gb272, 1, none⟩) (Kd.R_far (p := ⟨gb272, 0, none⟩) (Kd.R_types HO271.out BK272.out (by decide)) (fun _ hk => hk.2) (.int .i64 t267)) (fun _ hk => hk.2) (.int .i64 t268)) (fun _ hk => hk.2) (.slice Ao75 t269.length co75)) (fun _ h_ => h_.1)))); (case side4 => exact (Kd.R_reads' HO271.out).2.1); rintro e w77 ⟨rfl, hb⟩; refine ⟨_, rfl, ?_⟩; have n0_ := zM (Kd.S_below (by (with_reducible repeat (first | apply Kd.S_alloc | apply Kd.S_drewN | apply Kd.S_drew)); exact (Kd.S_mono (Kd.S_far (p := ⟨gb272, 2, none⟩) (Kd.S_far (p := ⟨gb272, 1, none⟩) (Kd.S_far (p := ⟨gb272, 0, none⟩) (Kd.S_types HO251.out BK272.out (by decide)) (fun _ hk => hk.2) (.int .i64 t267)) (fun _ hk => hk.2) (.int .i64 t268)) (fun _ hk => hk.2) (.slice Ao75 t269.length co75)) (fun _ h_ => h_.1))) hb); have n1_ := zM (Kd.R_below (by (with_reducible repeat (first | apply Kd.R_alloc | apply Kd.R_drewN | apply Kd.R_drew)); exact (Kd.R_mono (Kd.R_far (p := ⟨gb272, 2, none⟩) (Kd.R_far (p := ⟨gb272, 1, none⟩) (Kd.R_far (p := ⟨gb272, 0, none⟩) (Kd.R_types HO256.out BK272.out (by decide)) (fun _ hk => hk.2) (.int .i64 t267)) (fun _ hk => hk.2) (.int .i64 t268)) (fun _ hk => hk.2) (.slice Ao75 t269.length co75)) (fun _ h_ => h_.1))) hb); have n2_ := zM (Kd.S_below (by (with_reducible repeat (first | apply Kd.S_alloc | apply Kd.S_drewN | apply Kd.S_drew)); exact (Kd.S_mono (Kd.S_far (p := ⟨gb272, 2, none⟩) (Kd.S_far (p := ⟨gb272, 1, none⟩) (Kd.S_far (p := ⟨gb272, 0, none⟩) (Kd.S_types HO265.out BK272.out (by decide)) (fun _ hk => hk.2) (.int .i64 t267)) (fun _ hk => hk.2) (.int .i64 t268)) (fun _ hk => hk.2) (.slice Ao75 t269.length co75)) (fun _ h_ => h_.1))) hb); have n3_ := zM (Kd.R_below (by (with_reducible repeat (first | apply Kd.R_alloc | apply Kd.R_drewN | apply Kd.R_drew)); exact (Kd.R_mono (Kd.R_far (p := ⟨gb272, 2, none⟩) (Kd.R_far (p := ⟨gb272, 1, none⟩) (Kd.R_far (p := ⟨gb272, 0, none⟩) (Kd.R_types HO271.out BK272.out (by decide)) (fun _ hk => hk.2) (.int .i64 t267)) (fun _ hk => hk.2) (.int .i64 t268)) (fun _ hk => hk.2) (.slice Ao75 t269.length co75)) (fun _ h_ => h_.1))) hb); have n4_ := zM (zL (g := gb244) (o := .cells #[.int .i64 a0_0, .slice A0_1 l0_1.length c0_1] 34 (0, 0)) (by (with_reducible repeat (first | refine zK ?_ _ | refine zW ?_ | refine zB ?_ _)); refine blk_far ?_ NB244_272.out _; (with_reducible repeat (first | refine zK ?_ _ | refine zW ?_ | refine zB ?_ _)); refine blk_far ?_ NB244_272.out _; (with_reducible repeat (first | refine zK ?_ _ | refine zW ?_ | refine zB ?_ _)); refine blk_far ?_ NB244_272.out _; (with_reducible repeat (first | refine zK ?_ _ | refine zW ?_ | refine zB ?_ _)); exact BK244.out) hb); have n5_ := zM (zL (g := gb245) (o := .cells #[.int .i64 a1_0, .int .i64 a1_1, .slice A1_2 l1_2.length c1_2] 37 (0, 0)) (by (with_reducible repeat (first | refine zK ?_ _ | refine zW ?_ | refine zB ?_ _)); refine blk_far ?_ NB245_272.out _; (with_reducible repeat (first | refine zK ?_ _ | refine zW ?_ | refine zB ?_ _)); refine blk_far ?_ NB245_272.out _; (with_reducible repeat (first | refine zK ?_ _ | refine zW ?_ | refine zB ?_ _)); refine blk_far ?_ NB245_272.out _; (with_reducible repeat (first | refine zK ?_ _ | refine zW ?_ | refine zB ?_ _)); exact BK245.out) hb); have n6_ := zM (zL (g := gb261) (o := .cells #[.int .i64 t257, .string t258, .int .i64 t259, .int .i64 t260] 41 (0, 0)) (by (with_reducible repeat (first | refine zK ?_ _ | refine zW ?_ | refine zB ?_ _)); refine blk_far ?_ NB261_272.out _; (with_reducible repeat (first | refine zK ?_ _ | refine zW ?_ | refine zB ?_ _)); refine blk_far ?_ NB261_272.out _; (with_reducible repeat (first | refine zK ?_ _ | refine zW ?_ | refine zB ?_ _)); refine blk_far ?_ NB261_272.out _; (with_reducible repeat (first | refine zK ?_ _ | refine zW ?_ | refine zB ?_ _)); exact BK261.out) hb); have n7_ := zM (zL (g := gb266) (o := .cells #[.int .i64 t262, .slice Ao65 t263.length co65] 45 (0, 0)) (by (with_reducible repeat (first | refine zK ?_ _ | refine zW ?_ | refine zB ?_ _)); refine blk_far ?_ NB266_272.out _; (with_reducible repeat (first | refine zK ?_ _ | refine zW ?_ | refine zB ?_ _)); refine blk_far ?_ NB266_272.out _; (with_reducible repeat (first | refine zK ?_ _ | refine zW ?_ | refine zB ?_ _)); refine blk_far ?_ NB266_272.out _; (with_reducible repeat (first | refine zK ?_ _ | refine zW ?_ | refine zB ?_ _)); exact BK266.out) hb); have n8_ := zM (zL (g := gb272) (o := .cells #[.int .i64 t267, .int .i64 t268, .slice Ao75 t269.length co75] 47 (0, 0)) (by (with_reducible repeat (first | refine zK ?_ _ | refine zW ?_ | refine zB ?_ _)); refine blk_put (cs := #[.int .i64 t267, .int .i64 t268, .slice none 0 0]) ?_ 2 _ rfl; (with_reducible repeat (first | refine zK ?_ _ | refine zW ?_ | refine zB ?_ _)); refine blk_put (cs := #[.int .i64 t267, .int .i64 0, .slice none 0 0]) ?_ 1 _ rfl; (with_reducible repeat (first | refine zK ?_ _ | refine zW ?_ | refine zB ?_ _)); refine blk_put (cs := #[.int .i64 0, .int .i64 0, .slice none 0 0]) ?_ 0 _ rfl; (with_reducible repeat (first | refine zK ?_ _ | refine zW ?_ | refine zB ?_ _)); exact BK272.out) hb); have n9_ := zM (zP (by with_reducible repeat (first | exact HB.out | apply zA | apply zN | apply zD | refine zS ?_ GE244.out | refine zS ?_ GE245.out | refine zS ?_ GE261.out | refine zS ?_ GE266.out | refine zS ?_ GE272.out)) hb); clear HO251; clear HO256; clear HO265; clear HO271; clear BK244; clear BK245; clear BK261; clear BK266; clear BK272; clear HB; have HO251 := n0_; have HO256 := n1_; have HO265 := n2_; have HO271 := n3_; have BK244 := n4_; have BK245 := n5_; have BK261 := n6_; have BK266 := n7_; have BK272 := n8_; have HB := n9_; clear n0_ n1_ n2_ n3_ n4_ n5_ n6_ n7_ n8_ n9_; (try clear hb); (try clear hb2); (try clear hk); (try clear hi)) | ((with_reducible refine gate_dst (N := 13) rfl ?_); refine box_event ?hg (N := 13) ?hd (cs := #[.int .i64 0, .string (⟨#[]⟩ : ByteArray), .int .i64 0, .int .i64 0]) (t := 41) ?hr ?_; (case hd => rfl); (case hg => rfl); (case hr => first | (go_simp; done) | (go_simp; rfl)); intro gb277 hg w78 hbox hb; have n0_ := zM (Kd.S_below (by (with_reducible repeat (first | apply Kd.S_alloc | apply Kd.S_drewN | apply Kd.S_drew)); exact HO251.out) hb); have n1_ := zM (Kd.R_below (by (with_reducible repeat (first | apply Kd.R_alloc | apply Kd.R_drewN | apply Kd.R_drew)); exact HO256.out) hb); have n2_ := zM (Kd.S_below (by (with_reducible repeat (first | apply Kd.S_alloc | apply Kd.S_drewN | apply Kd.S_drew)); exact HO265.out) hb); have n3_ := zM (Kd.R_below (by (with_reducible repeat (first | apply Kd.R_alloc | apply Kd.R_drewN | apply Kd.R_drew)); exact HO271.out) hb); have n4_ := zM (zL (g := gb244) (o := .cells #[.int .i64 a0_0, .slice A0_1 l0_1.length c0_1] 34 (0, 0)) (by (with_reducible repeat (first | refine zK ?_ _ | refine zW ?_ | refine zB ?_ _)); exact BK244.out) hb); have n5_ := zM (zL (g := gb245) (o := .cells #[.int .i64 a1_0, .int .i64 a1_1, .slice A1_2 l1_2.length c1_2] 37 (0, 0)) (by (with_reducible repeat (first | refine zK ?_ _ | refine zW ?_ | refine zB ?_ _)); exact BK245.out) hb); have n6_ := zM (zL (g := gb261) (o := .cells #[.int .i64 t257, .string t258, .int .i64 t259, .int .i64 t260] 41 (0, 0)) (by (with_reducible repeat (first | refine zK ?_ _ | refine zW ?_ | refine zB ?_ _)); exact BK261.out) hb); have n7_ := zM (zL (g := gb266) (o := .cells #[.int .i64 t262, .slice Ao65 t263.length co65] 45 (0, 0)) (by (with_reducible repeat (first | refine zK ?_ _ | refine zW ?_ | refine zB ?_ _)); exact BK266.out) hb); have n8_ := zM (zL (g := gb272) (o := .cells #[.int .i64 t267, .int .i64 t268, .slice Ao75 t269.length co75] 47 (0, 0)) (by (with_reducible repeat (first | refine zK ?_ _ | refine zW ?_ | refine zB ?_ _)); exact BK272.out) hb); have n9_ := zM (zP (by with_reducible repeat (first | exact HB.out | apply zA | apply zN | apply zD | refine zS ?_ GE244.out | refine zS ?_ GE245.out | refine zS ?_ GE261.out | refine zS ?_ GE266.out | refine zS ?_ GE272.out)) hb); have n10_ := zM (hbox); have n11_ := zM ((by rw [hg]; exact (zZ (by with_reducible repeat (first | exact HB.out | apply zA | apply zN | apply zD | refine zS ?_ GE244.out | refine zS ?_ GE245.out | refine zS ?_ GE261.out | refine zS ?_ GE266.out | refine zS ?_ GE272.out))) : w.heap.size ≤ gb277)); have n12_ := zM ((by rw [hg]; exact (zZ (by with_reducible repeat (first | exact HB.out | apply zA | apply zN | apply zD | refine zS ?_ GE244.out | refine zS ?_ GE245.out | refine zS ?_ GE261.out | refine zS ?_ GE266.out | refine zS ?_ GE272.out))) : w.heap.size ≤ gb277)); have n13_ := zM ((by rw [hg]; exact Nat.ne_of_lt (blk_lt (g := gb244) (o := .cells #[.int .i64 a0_0, .slice A0_1 l0_1.length c0_1] 34 (0, 0)) (by (with_reducible repeat (first | refine zK ?_ _ | refine zW ?_ | refine zB ?_ _)); exact BK244.out)) : gb244 ≠ gb277)); have n14_ := zM ((by rw [hg]; exact Nat.ne_of_gt (blk_lt (g := gb244) (o := .cells #[.int .i64 a0_0, .slice A0_1 l0_1.length c0_1] 34 (0, 0)) (by (with_reducible repeat (first | refine zK ?_ _ | refine zW ?_ | refine zB ?_ _)); exact BK244.out)) : gb277 ≠ gb244)); have n15_ := zM ((by rw [hg]; exact Nat.ne_of_lt (blk_lt (g := gb245) (o := .cells #[.int .i64 a1_0, .int .i64 a1_1, .slice A1_2 l1_2.length c1_2] 37 (0, 0)) (by (with_reducible repeat (first | refine zK ?_ _ | refine zW ?_ | refine zB ?_ _)); exact BK245.out)) : gb245 ≠ gb277)); have n16_ := zM ((by rw [hg]; exact Nat.ne_of_gt (blk_lt (g := gb245) (o := .cells #[.int .i64 a1_0, .int .i64 a1_1, .slice A1_2 l1_2.length c1_2] 37 (0, 0)) (by (with_reducible repeat (first | refine zK ?_ _ | refine zW ?_ | refine zB ?_ _)); exact BK245.out)) : gb277 ≠ gb245)); have n17_ := zM ((by rw [hg]; exact Nat.ne_of_lt (blk_lt (g := gb261) (o := .cells #[.int .i64 t257, .string t258, .int .i64 t259, .int .i64 t260] 41 (0, 0)) (by (with_reducible repeat (first | refine zK ?_ _ | refine zW ?_ | refine zB ?_ _)); exact BK261.out)) : gb261 ≠ gb277)); have n18_ := zM ((by rw [hg]; exact Nat.ne_of_gt (blk_lt (g := gb261) (o := .cells #[.int .i64 t257, .string t258, .int .i64 t259, .int .i64 t260] 41 (0, 0)) (by (with_reducible repeat (first | refine zK ?_ _ | refine zW ?_ | refine zB ?_ _)); exact BK261.out)) : gb277 ≠ gb261)); have n19_ := zM ((by rw [hg]; exact Nat.ne_of_lt (blk_lt (g := gb266) (o := .cells #[.int .i64 t262, .slice Ao65 t263.length co65] 45 (0, 0)) (by (with_reducible repeat (first | refine zK ?_ _ | refine zW ?_ | refine zB ?_ _)); exact BK266.out)) : gb266 ≠ gb277)); have n20_ := zM ((by rw [hg]; exact Nat.ne_of_gt (blk_lt (g := gb266) (o := .cells #[.int .i64 t262, .slice Ao65 t263.length co65] 45 (0, 0)) (by (with_reducible repeat (first | refine zK ?_ _ | refine zW ?_ | refine zB ?_ _)); exact BK266.out)) : gb277 ≠ gb266)); have n21_ := zM ((by rw [hg]; exact Nat.ne_of_lt (blk_lt (g := gb272) (o := .cells #[.int .i64 t267, .int .i64 t268, .slice Ao75 t269.length co75] 47 (0, 0)) (by (with_reducible repeat (first | refine zK ?_ _ | refine zW ?_ | refine zB ?_ _)); exact BK272.out)) : gb272 ≠ gb277)); have n22_ := zM ((by rw [hg]; exact Nat.ne_of_gt (blk_lt (g := gb272) (o := .cells #[.int .i64 t267, .int .i64 t268, .slice Ao75 t269.length co75] 47 (0, 0)) (by (with_reducible repeat (first | refine zK ?_ _ | refine zW ?_ | refine zB ?_ _)); exact BK272.out)) : gb277 ≠ gb272)); clear HO251; clear HO256; clear HO265; clear HO271; clear BK244; clear BK245; clear BK261; clear BK266; clear BK272; clear HB; have HO251 := n0_; have HO256 := n1_; have HO265 := n2_; have HO271 := n3_; have BK244 := n4_; have BK245 := n5_; have BK261 := n6_; have BK266 := n7_; have BK272 := n8_; have HB := n9_; have BK277 := n10_; have GW277 := n11_; have GE277 := n12_; have NB244_277 := n13_; have NB277_244 := n14_; have NB245_277 := n15_; have NB277_245 := n16_; have NB261_277 := n17_; have NB277_261 := n18_; have NB266_277 := n19_; have NB277_266 := n20_; have NB272_277 := n21_; have NB277_272 := n22_; clear n0_ n1_ n2_ n3_ n4_ n5_ n6_ n7_ n8_ n9_ n10_ n11_ n12_ n13_ n14_ n15_ n16_ n17_ n18_ n19_ n20_ n21_ n22_; clear hb hbox hg; have hnb79 := NB277_244.out; have hnc79 := NB244_277.out; have hnb80 := NB277_245.out; have hnc80 := NB245_277.out; have hnb81 := NB277_261.out; have hnc81 := NB261_277.out; have hnb82 := NB277_266.out; have hnc82 := NB266_277.out; have hnb83 := NB277_272.out; have hnc83 := NB272_277.out; have hcz84_0 : w78.cell? ⟨gb277, 0, none⟩ = some (.int .i64 0) := (zC BK277.out 0).trans rfl; have hcz84_1 : w78.cell? ⟨gb277, 1, none⟩ = some (.string (⟨#[]⟩ : ByteArray)) := (zC BK277.out 1).trans rfl; have hcz84_2 : w78.cell? ⟨gb277, 2, none⟩ = some (.int .i64 0) := (zC BK277.out 2).trans rfl; have hcz84_3 : w78.cell? ⟨gb277, 3, none⟩ = some (.int .i64 0) := (zC BK277.out 3).trans rfl; have hfz84_0 := zF BK277.out 0; have hfz84_1 := zF BK277.out 1; have hfz84_2 := zF BK277.out 2; have hfz84_3 := zF BK277.out 3; have hcz85_0 : w78.cell? ⟨gb261, 0, none⟩ = some (.int .i64 t257) := (zC BK261.out 0).trans rfl; have hcz85_1 : w78.cell? ⟨gb261, 1, none⟩ = some (.string t258) := (zC BK261.out 1).trans rfl; have hcz85_2 : w78.cell? ⟨gb261, 2, none⟩ = some (.int .i64 t259) := (zC BK261.out 2).trans rfl; have hcz85_3 : w78.cell? ⟨gb261, 3, none⟩ = some (.int .i64 t260) := (zC BK261.out 3).trans rfl; have hfz85_0 := zF BK261.out 0; have hfz85_1 := zF BK261.out 1; have hfz85_2 := zF BK261.out 2; have hfz85_3 := zF BK261.out 3) | ((with_reducible refine gate_callee (f := 22) rfl ?_); refine goesL_ (some 45) rfl rfl Tryd.func22 (by kernel_rfl) rfl #[.agg #[.int .i64 t273, .string t274, .int .i64 t275, .int .i64 t276], .agg #[.int .i64 t257, .string t258, .int .i64 t259, .int .i64 t260]] rfl (by (try simp only [List.map_toArray, List.map_cons, List.map_nil]); first | done | rfl | (simp only [List.length_drop, List.length_take]; rfl)) ?_; (with_reducible refine (laws_eqSpot.calls t273 t274 t275 t276 t257 t258 t259 t260 true _ A30.out).mono ?_); rintro e w86 ⟨rfl, hb⟩; refine ⟨_, rfl, ?_⟩; have n0_ := zM (Kd.S_below (by (with_reducible repeat (first | apply Kd.S_alloc | apply Kd.S_drewN | apply Kd.S_drew)); exact (Kd.S_mono (Kd.S_far (p := ⟨gb277, 3, none⟩) (Kd.S_far (p := ⟨gb277, 2, none⟩) (Kd.S_far (p := ⟨gb277, 1, none⟩) (Kd.S_far (p := ⟨gb277, 0, none⟩) (Kd.S_types HO251.out BK277.out (by decide)) (fun _ hk => hk.2) (.int .i64 t273)) (fun _ hk => hk.2) (.string t274)) (fun _ hk => hk.2) (.int .i64 t275)) (fun _ hk => hk.2) (.int .i64 t276)) (fun _ h_ => h_.1))) hb); have n1_ := zM (Kd.R_below (by (with_reducible repeat (first | apply Kd.R_alloc | apply Kd.R_drewN | apply Kd.R_drew)); exact (Kd.R_mono (Kd.R_far (p := ⟨gb277, 3, none⟩) (Kd.R_far (p := ⟨gb277, 2, none⟩) (Kd.R_far (p := ⟨gb277, 1, none⟩) (Kd.R_far (p := ⟨gb277, 0, none⟩) (Kd.R_types HO256.out BK277.out (by decide)) (fun _ hk => hk.2) (.int .i64 t273)) (fun _ hk => hk.2) (.string t274)) (fun _ hk => hk.2) (.int .i64 t275)) (fun _ hk => hk.2) (.int .i64 t276)) (fun _ h_ => h_.1))) hb); have n2_ := zM (Kd.S_below (by (with_reducible repeat (first | apply Kd.S_alloc | apply Kd.S_drewN | apply Kd.S_drew)); exact (Kd.S_mono (Kd.S_far (p := ⟨gb277, 3, none⟩) (Kd.S_far (p := ⟨gb277, 2, none⟩) (Kd.S_far (p := ⟨gb277, 1, none⟩) (Kd.S_far (p := ⟨gb277, 0, none⟩) (Kd.S_types HO265.out BK277.out (by decide)) (fun _ hk => hk.2) (.int .i64 t273)) (fun _ hk => hk.2) (.string t274)) (fun _ hk => hk.2) (.int .i64 t275)) (fun _ hk => hk.2) (.int .i64 t276)) (fun _ h_ => h_.1))) hb); have n3_ := zM (Kd.R_below (by (with_reducible repeat (first | apply Kd.R_alloc | apply Kd.R_drewN | apply Kd.R_drew)); exact (Kd.R_mono (Kd.R_far (p := ⟨gb277, 3, none⟩) (Kd.R_far (p := ⟨gb277, 2, none⟩) (Kd.R_far (p := ⟨gb277, 1, none⟩) (Kd.R_far (p := ⟨gb277, 0, none⟩) (Kd.R_types HO271.out BK277.out (by decide)) (fun _ hk => hk.2) (.int .i64 t273)) (fun _ hk => hk.2) (.string t274)) (fun _ hk => hk.2) (.int .i64 t275)) (fun _ hk => hk.2) (.int .i64 t276)) (fun _ h_ => h_.1))) hb); have n4_ := zM (zL (g := gb244) (o := .cells #[.int .i64 a0_0, .slice A0_1 l0_1.length c0_1] 34 (0, 0)) (by (with_reducible repeat (first | refine zK ?_ _ | refine zW ?_ | refine zB ?_ _)); refine blk_far ?_ NB244_277.out _; (with_reducible repeat (first | refine zK ?_ _ | refine zW ?_ | refine zB ?_ _)); refine blk_far ?_ NB244_277.out _; (with_reducible repeat (first | refine zK ?_ _ | refine zW ?_ | refine zB ?_ _)); refine blk_far ?_ NB244_277.out _; (with_reducible repeat (first | refine zK ?_ _ | refine zW ?_ | refine zB ?_ _)); refine blk_far ?_ NB244_277.out _; (with_reducible repeat (first | refine zK ?_ _ | refine zW ?_ | refine zB ?_ _)); exact BK244.out) hb); have n5_ := zM (zL (g := gb245) (o := .cells #[.int .i64 a1_0, .int .i64 a1_1, .slice A1_2 l1_2.length c1_2] 37 (0, 0)) (by (with_reducible repeat (first | refine zK ?_ _ | refine zW ?_ | refine zB ?_ _)); refine blk_far ?_ NB245_277.out _; (with_reducible repeat (first | refine zK ?_ _ | refine zW ?_ | refine zB ?_ _)); refine blk_far ?_ NB245_277.out _; (with_reducible repeat (first | refine zK ?_ _ | refine zW ?_ | refine zB ?_ _)); refine blk_far ?_ NB245_277.out _; (with_reducible repeat (first | refine zK ?_ _ | refine zW ?_ | refine zB ?_ _)); refine blk_far ?_ NB245_277.out _; (with_reducible repeat (first | refine zK ?_ _ | refine zW ?_ | refine zB ?_ _)); exact BK245.out) hb); have n6_ := zM (zL (g := gb261) (o := .cells #[.int .i64 t257, .string t258, .int .i64 t259, .int .i64 t260] 41 (0, 0)) (by (with_reducible repeat (first | refine zK ?_ _ | refine zW ?_ | refine zB ?_ _)); refine blk_far ?_ NB261_277.out _; (with_reducible repeat (first | refine zK ?_ _ | refine zW ?_ | refine zB ?_ _)); refine blk_far ?_ NB261_277.out _; (with_reducible repeat (first | refine zK ?_ _ | refine zW ?_ | refine zB ?_ _)); refine blk_far ?_ NB261_277.out _; (with_reducible repeat (first | refine zK ?_ _ | refine zW ?_ | refine zB ?_ _)); refine blk_far ?_ NB261_277.out _; (with_reducible repeat (first | refine zK ?_ _ | refine zW ?_ | refine zB ?_ _)); exact BK261.out) hb); have n7_ := zM (zL (g := gb266) (o := .cells #[.int .i64 t262, .slice Ao65 t263.length co65] 45 (0, 0)) (by (with_reducible repeat (first | refine zK ?_ _ | refine zW ?_ | refine zB ?_ _)); refine blk_far ?_ NB266_277.out _; (with_reducible repeat (first | refine zK ?_ _ | refine zW ?_ | refine zB ?_ _)); refine blk_far ?_ NB266_277.out _; (with_reducible repeat (first | refine zK ?_ _ | refine zW ?_ | refine zB ?_ _)); refine blk_far ?_ NB266_277.out _; (with_reducible repeat (first | refine zK ?_ _ | refine zW ?_ | refine zB ?_ _)); refine blk_far ?_ NB266_277.out _; (with_reducible repeat (first | refine zK ?_ _ | refine zW ?_ | refine zB ?_ _)); exact BK266.out) hb); have n8_ := zM (zL (g := gb272) (o := .cells #[.int .i64 t267, .int .i64 t268, .slice Ao75 t269.length co75] 47 (0, 0)) (by (with_reducible repeat (first | refine zK ?_ _ | refine zW ?_ | refine zB ?_ _)); refine blk_far ?_ NB272_277.out _; (with_reducible repeat (first | refine zK ?_ _ | refine zW ?_ | refine zB ?_ _)); refine blk_far ?_ NB272_277.out _; (with_reducible repeat (first | refine zK ?_ _ | refine zW ?_ | refine zB ?_ _)); refine blk_far ?_ NB272_277.out _; (with_reducible repeat (first | refine zK ?_ _ | refine zW ?_ | refine zB ?_ _)); refine blk_far ?_ NB272_277.out _; (with_reducible repeat (first | refine zK ?_ _ | refine zW ?_ | refine zB ?_ _)); exact BK272.out) hb); have n9_ := zM (zL (g := gb277) (o := .cells #[.int .i64 t273, .string t274, .int .i64 t275, .int .i64 t276] 41 (0, 0)) (by (with_reducible repeat (first | refine zK ?_ _ | refine zW ?_ | refine zB ?_ _)); refine blk_put (cs := #[.int .i64 t273, .string t274, .int .i64 t275, .int .i64 0]) ?_ 3 _ rfl; (with_reducible repeat (first | refine zK ?_ _ | refine zW ?_ | refine zB ?_ _)); refine blk_put (cs := #[.int .i64 t273, .string t274, .int .i64 0, .int .i64 0]) ?_ 2 _ rfl; (with_reducible repeat (first | refine zK ?_ _ | refine zW ?_ | refine zB ?_ _)); refine blk_put (cs := #[.int .i64 t273, .string (⟨#[]⟩ : ByteArray), .int .i64 0, .int .i64 0]) ?_ 1 _ rfl; (with_reducible repeat (first | refine zK ?_ _ | refine zW ?_ | refine zB ?_ _)); refine blk_put (cs := #[.int .i64 0, .string (⟨#[]⟩ : ByteArray), .int .i64 0, .int .i64 0]) ?_ 0 _ rfl; (with_reducible repeat (first | refine zK ?_ _ | refine zW ?_ | refine zB ?_ _)); exact BK277.out) hb); have n10_ := zM (zP (by with_reducible repeat (first | exact HB.out | apply zA | apply zN | apply zD | refine zS ?_ GE244.out | refine zS ?_ GE245.out | refine zS ?_ GE261.out | refine zS ?_ GE266.out | refine zS ?_ GE272.out | refine zS ?_ GE277.out)) hb); clear HO251; clear HO256; clear HO265; clear HO271; clear BK244; clear BK245; clear BK261; clear BK266; clear BK272; clear BK277; clear HB; have HO251 := n0_; have HO256 := n1_; have HO265 := n2_; have HO271 := n3_; have BK244 := n4_; have BK245 := n5_; have BK261 := n6_; have BK266 := n7_; have BK272 := n8_; have BK277 := n9_; have HB := n10_; clear n0_ n1_ n2_ n3_ n4_ n5_ n6_ n7_ n8_ n9_ n10_; (try clear hb); (try clear hb2); (try clear hk); (try clear hi)))
 have n0_ := zM (Kd.S_drew HO251.out)
 have n1_ := zM (Kd.R_drew HO256.out)
 have n2_ := zM (Kd.S_drew HO265.out)
 have n3_ := zM (Kd.R_drew HO271.out)
 have n4_ := zM (zW BK244.out)
 have n5_ := zM (zW BK245.out)
 have n6_ := zM (zW BK261.out)
 have n7_ := zM (zW BK266.out)
 have n8_ := zM (zW BK272.out)
 have n9_ := zM (zW BK277.out)
 have n10_ := zM (zD HB.out)
 clear HO251
 clear HO256
 clear HO265
 clear HO271
 clear BK244
 clear BK245
 clear BK261
 clear BK266
 clear BK272
 clear BK277
 clear HB
 have HO251 := n0_
 have HO256 := n1_
 have HO265 := n2_
 have HO271 := n3_
 have BK244 := n4_
 have BK245 := n5_
 have BK261 := n6_
 have BK266 := n7_
 have BK272 := n8_
 have BK277 := n9_
 have HB := n10_
 clear n0_ n1_ n2_ n3_ n4_ n5_ n6_ n7_ n8_ n9_ n10_
 refine start_ (n := 5) (S := fun w' => w'.cell? ⟨gb266, 0, none⟩ = some (.int .i64 t262) ∧ w'.cell? ⟨gb266, 1, none⟩ = some (.slice Ao65 t263.length co65) ∧ w'.cell? ⟨gb244, 0, none⟩ = some (.int .i64 a0_0) ∧ w'.cell? ⟨gb244, 1, none⟩ = some (.slice A0_1 l0_1.length c0_1)) (ds := []) #[false, false, false, false, false] (by kernel_rfl) rfl rfl ⟨(zC BK266.out 0).trans rfl, (zC BK266.out 1).trans rfl, (zC BK244.out 0).trans rfl, (zC BK244.out 1).trans rfl⟩ (fun hHeld => ?_)
 generalize w86.drew = w87 at HO251 HO256 HO265 HO271 BK244 BK245 BK261 BK266 BK272 BK277 HB hHeld ⊢
 refine take_ (i := 0) (N := some 47) (v := ?_) (a' := ?_) #[true, false, false, false, false] rfl rfl (by kernel_rfl) (fun _ _ _ h => h) (Or.inl ⟨by rfl, ?_⟩) hHeld ?_ ?_
 rotate_left
 ·rintro w' ⟨s0, s1, s2, s3⟩
  go_simp
  with_reducible rfl
 rotate_left
 ·simp only [Act.put, List.setIfInBounds_toArray, List.set_cons_zero, List.set_cons_succ, i64_w, i32_w]
  rfl
 refine take_ (i := 1) (N := some 48) (v := ?_) (a' := ?_) #[true, true, false, false, false] rfl rfl (by kernel_rfl) (fun _ _ _ h => h) (Or.inl ⟨by rfl, ?_⟩) hHeld ?_ ?_
 rotate_left
 ·rintro w' ⟨s0, s1, s2, s3⟩
  go_simp
  with_reducible rfl
 rotate_left
 ·simp only [Act.put, List.setIfInBounds_toArray, List.set_cons_zero, List.set_cons_succ, i64_w, i32_w]
  rfl
 refine one_ (i := 2) (N := some 49) #[true, true, true, false, false] rfl rfl (by kernel_rfl) (by decide) (fun K hK => ?_)
 refine goes_ Tryd.func19 (by kernel_rfl) rfl #[.agg #[.int .i64 a0_0, .slice A0_1 l0_1.length c0_1]] (by rfl) rfl rfl (by (try simp only [List.map_toArray, List.map_cons, List.map_nil]); first | done | rfl | (simp only [List.length_drop, List.length_take]; rfl)) ?_
 with_reducible refine (laws_toVol.calls k a0_0 _ _ l0_1 t279 t280 _ ?side1 ?side2 A32.out).mono ?_
 (case side1 => repeat (first | exact (Kd.C_below HR0_1.out HB.out) | (with_reducible refine Kd.C_alloc ?_ _) | (with_reducible refine Kd.C_drewN ?_ _) | (with_reducible refine Kd.C_drew ?_)))
 (case side2 => exact HC0_1.out)
 rintro e w88 ⟨v281, rfl, ho0, hb⟩
 refine ⟨_, rfl, ?_⟩
 have n0_ := zM (Kd.S_elder' (by (with_reducible repeat (first | apply Kd.S_alloc | apply Kd.S_drewN | apply Kd.S_drew)); exact HO251.out) (Kd.S_base ho0) hb)
 have n1_ := zM (Kd.R_below (by (with_reducible repeat (first | apply Kd.R_alloc | apply Kd.R_drewN | apply Kd.R_drew)); exact HO256.out) hb)
 have n2_ := zM (Kd.S_elder' (by (with_reducible repeat (first | apply Kd.S_alloc | apply Kd.S_drewN | apply Kd.S_drew)); exact HO265.out) (Kd.S_base ho0) hb)
 have n3_ := zM (Kd.R_below (by (with_reducible repeat (first | apply Kd.R_alloc | apply Kd.R_drewN | apply Kd.R_drew)); exact HO271.out) hb)
 have n4_ := zM (Kd.S_lower (Kd.S_new' (Kd.S_new' ho0 (Kd.S_lt (by (with_reducible repeat (first | apply Kd.S_alloc | apply Kd.S_drewN | apply Kd.S_drew)); exact HO251.out))) (Kd.S_lt (by (with_reducible repeat (first | apply Kd.S_alloc | apply Kd.S_drewN | apply Kd.S_drew)); exact HO265.out))) (zZ (by with_reducible repeat (first | exact HB.out | apply zA | apply zN | apply zD | refine zS ?_ GE244.out | refine zS ?_ GE245.out | refine zS ?_ GE261.out | refine zS ?_ GE266.out | refine zS ?_ GE272.out | refine zS ?_ GE277.out))))
 have n5_ := zM (zL (g := gb244) (o := .cells #[.int .i64 a0_0, .slice A0_1 l0_1.length c0_1] 34 (0, 0)) (by (with_reducible repeat (first | refine zK ?_ _ | refine zW ?_ | refine zB ?_ _)); exact BK244.out) hb)
 have n6_ := zM (zL (g := gb245) (o := .cells #[.int .i64 a1_0, .int .i64 a1_1, .slice A1_2 l1_2.length c1_2] 37 (0, 0)) (by (with_reducible repeat (first | refine zK ?_ _ | refine zW ?_ | refine zB ?_ _)); exact BK245.out) hb)
 have n7_ := zM (zL (g := gb261) (o := .cells #[.int .i64 t257, .string t258, .int .i64 t259, .int .i64 t260] 41 (0, 0)) (by (with_reducible repeat (first | refine zK ?_ _ | refine zW ?_ | refine zB ?_ _)); exact BK261.out) hb)
 have n8_ := zM (zL (g := gb266) (o := .cells #[.int .i64 t262, .slice Ao65 t263.length co65] 45 (0, 0)) (by (with_reducible repeat (first | refine zK ?_ _ | refine zW ?_ | refine zB ?_ _)); exact BK266.out) hb)
 have n9_ := zM (zL (g := gb272) (o := .cells #[.int .i64 t267, .int .i64 t268, .slice Ao75 t269.length co75] 47 (0, 0)) (by (with_reducible repeat (first | refine zK ?_ _ | refine zW ?_ | refine zB ?_ _)); exact BK272.out) hb)
 have n10_ := zM (zL (g := gb277) (o := .cells #[.int .i64 t273, .string t274, .int .i64 t275, .int .i64 t276] 41 (0, 0)) (by (with_reducible repeat (first | refine zK ?_ _ | refine zW ?_ | refine zB ?_ _)); exact BK277.out) hb)
 have n11_ := zM (zP (by with_reducible repeat (first | exact HB.out | apply zA | apply zN | apply zD | refine zS ?_ GE244.out | refine zS ?_ GE245.out | refine zS ?_ GE261.out | refine zS ?_ GE266.out | refine zS ?_ GE272.out | refine zS ?_ GE277.out)) hb)
 clear HO251
 clear HO256
 clear HO265
 clear HO271
 clear BK244
 clear BK245
 clear BK261
 clear BK266
 clear BK272
 clear BK277
 clear HB
 have HO251 := n0_
 have HO256 := n1_
 have HO265 := n2_
 have HO271 := n3_
 have HO282 := n4_
 have BK244 := n5_
 have BK245 := n6_
 have BK261 := n7_
 have BK266 := n8_
 have BK272 := n9_
 have BK277 := n10_
 have HB := n11_
 clear n0_ n1_ n2_ n3_ n4_ n5_ n6_ n7_ n8_ n9_ n10_ n11_
 (try clear hb)
 (try clear hb2)
 (try clear hk)
 (try clear hi)
 (try clear ho0)
 obtain ⟨Ao89, co89, eo89⟩ := Kd.S_slice HO282.out
 (first | subst eo89 | (injection eo89 with f1_ f2_ f3_; have f4_ := f1_.symm; have f5_ := f3_.symm; clear f1_ f2_ f3_; subst f4_; subst f5_))
 refine hK.out _ _ ⟨(zC BK266.out 0).trans rfl, (zC BK266.out 1).trans rfl, (zC BK244.out 0).trans rfl, (zC BK244.out 1).trans rfl⟩ (fun hHeld => ?_)
 clear hK K
 refine norm_ (a' := ?_) ?_ ?_
 rotate_left
 ·show Act.put _ (some 49) _ = _
  simp only [Act.put, List.setIfInBounds_toArray, List.set_cons_zero, List.set_cons_succ, i64_w, i32_w]
  rfl
 refine one_ (i := 3) (N := some 50) #[true, true, true, true, false] rfl rfl (by kernel_rfl) (by decide) (fun K hK => ?_)
 refine goes_ Tryd.func23 (by kernel_rfl) rfl #[.agg #[.int .i64 t262, .slice Ao65 t263.length co65], .agg #[.int .i64 t279, .slice Ao89 t280.length co89]] (by rfl) rfl rfl (by (try simp only [List.map_toArray, List.map_cons, List.map_nil]); first | done | rfl | (simp only [List.length_drop, List.length_take]; rfl)) ?_
 with_reducible refine (laws_eqVol.calls t262 _ _ t263 t279 _ _ t280 true _ ?side1 ?side2 ?side3 ?side4 A33.out).mono ?_
 (case side1 => repeat (first | exact (Kd.S_reads' HO265.out).2.2 | (with_reducible refine Kd.C_alloc ?_ _) | (with_reducible refine Kd.C_drewN ?_ _) | (with_reducible refine Kd.C_drew ?_)))
 (case side2 => exact (Kd.S_reads' HO265.out).2.1)
 (case side3 => repeat (first | exact (Kd.S_reads' HO282.out).2.2 | (with_reducible refine Kd.C_alloc ?_ _) | (with_reducible refine Kd.C_drewN ?_ _) | (with_reducible refine Kd.C_drew ?_)))
 (case side4 => exact (Kd.S_reads' HO282.out).2.1)
 rintro e w90 ⟨rfl, hb⟩
 refine ⟨_, rfl, ?_⟩
 have n0_ := zM (Kd.S_below (by (with_reducible repeat (first | apply Kd.S_alloc | apply Kd.S_drewN | apply Kd.S_drew)); exact HO251.out) hb)
 have n1_ := zM (Kd.R_below (by (with_reducible repeat (first | apply Kd.R_alloc | apply Kd.R_drewN | apply Kd.R_drew)); exact HO256.out) hb)
 have n2_ := zM (Kd.S_below (by (with_reducible repeat (first | apply Kd.S_alloc | apply Kd.S_drewN | apply Kd.S_drew)); exact HO265.out) hb)
 have n3_ := zM (Kd.R_below (by (with_reducible repeat (first | apply Kd.R_alloc | apply Kd.R_drewN | apply Kd.R_drew)); exact HO271.out) hb)
 have n4_ := zM (Kd.S_below (by (with_reducible repeat (first | apply Kd.S_alloc | apply Kd.S_drewN | apply Kd.S_drew)); exact HO282.out) hb)
 have n5_ := zM (zL (g := gb244) (o := .cells #[.int .i64 a0_0, .slice A0_1 l0_1.length c0_1] 34 (0, 0)) (by (with_reducible repeat (first | refine zK ?_ _ | refine zW ?_ | refine zB ?_ _)); exact BK244.out) hb)
 have n6_ := zM (zL (g := gb245) (o := .cells #[.int .i64 a1_0, .int .i64 a1_1, .slice A1_2 l1_2.length c1_2] 37 (0, 0)) (by (with_reducible repeat (first | refine zK ?_ _ | refine zW ?_ | refine zB ?_ _)); exact BK245.out) hb)
 have n7_ := zM (zL (g := gb261) (o := .cells #[.int .i64 t257, .string t258, .int .i64 t259, .int .i64 t260] 41 (0, 0)) (by (with_reducible repeat (first | refine zK ?_ _ | refine zW ?_ | refine zB ?_ _)); exact BK261.out) hb)
 have n8_ := zM (zL (g := gb266) (o := .cells #[.int .i64 t262, .slice Ao65 t263.length co65] 45 (0, 0)) (by (with_reducible repeat (first | refine zK ?_ _ | refine zW ?_ | refine zB ?_ _)); exact BK266.out) hb)
 have n9_ := zM (zL (g := gb272) (o := .cells #[.int .i64 t267, .int .i64 t268, .slice Ao75 t269.length co75] 47 (0, 0)) (by (with_reducible repeat (first | refine zK ?_ _ | refine zW ?_ | refine zB ?_ _)); exact BK272.out) hb)
 have n10_ := zM (zL (g := gb277) (o := .cells #[.int .i64 t273, .string t274, .int .i64 t275, .int .i64 t276] 41 (0, 0)) (by (with_reducible repeat (first | refine zK ?_ _ | refine zW ?_ | refine zB ?_ _)); exact BK277.out) hb)
 have n11_ := zM (zP (by with_reducible repeat (first | exact HB.out | apply zA | apply zN | apply zD | refine zS ?_ GE244.out | refine zS ?_ GE245.out | refine zS ?_ GE261.out | refine zS ?_ GE266.out | refine zS ?_ GE272.out | refine zS ?_ GE277.out)) hb)
 clear HO251
 clear HO256
 clear HO265
 clear HO271
 clear HO282
 clear BK244
 clear BK245
 clear BK261
 clear BK266
 clear BK272
 clear BK277
 clear HB
 have HO251 := n0_
 have HO256 := n1_
 have HO265 := n2_
 have HO271 := n3_
 have HO282 := n4_
 have BK244 := n5_
 have BK245 := n6_
 have BK261 := n7_
 have BK266 := n8_
 have BK272 := n9_
 have BK277 := n10_
 have HB := n11_
 clear n0_ n1_ n2_ n3_ n4_ n5_ n6_ n7_ n8_ n9_ n10_ n11_
 (try clear hb)
 (try clear hb2)
 (try clear hk)
 (try clear hi)
 refine hK.out _ _ ⟨(zC BK266.out 0).trans rfl, (zC BK266.out 1).trans rfl, (zC BK244.out 0).trans rfl, (zC BK244.out 1).trans rfl⟩ (fun hHeld => ?_)
 clear hK K
 refine norm_ (a' := ?_) ?_ ?_
 rotate_left
 ·show Act.put _ (some 50) _ = _
  simp only [Act.put, List.setIfInBounds_toArray, List.set_cons_zero, List.set_cons_succ, i64_w, i32_w]
  rfl
 refine pure_ (i := 4) (N := some 51) (v := ?_) (a' := ?_) #[true, true, true, true, true] rfl rfl (by kernel_rfl) (fun _ _ _ h => h) (Or.inl ⟨by rfl, ?_⟩) ?_ ?_
 rotate_left
 ·intro w'
  go_simp
  with_reducible rfl
 rotate_left
 ·simp only [Act.put, List.setIfInBounds_toArray, List.set_cons_zero, List.set_cons_succ, i64_w, i32_w]
  rfl
 refine done_ (by kernel_rfl) ?_
 try go_wp2
 have n0_ := zM (Kd.S_drew HO251.out)
 have n1_ := zM (Kd.R_drew HO256.out)
 have n2_ := zM (Kd.S_drew HO265.out)
 have n3_ := zM (Kd.R_drew HO271.out)
 have n4_ := zM (Kd.S_drew HO282.out)
 have n5_ := zM (zW BK244.out)
 have n6_ := zM (zW BK245.out)
 have n7_ := zM (zW BK261.out)
 have n8_ := zM (zW BK266.out)
 have n9_ := zM (zW BK272.out)
 have n10_ := zM (zW BK277.out)
 have n11_ := zM (zD HB.out)
 clear HO251
 clear HO256
 clear HO265
 clear HO271
 clear HO282
 clear BK244
 clear BK245
 clear BK261
 clear BK266
 clear BK272
 clear BK277
 clear HB
 have HO251 := n0_
 have HO256 := n1_
 have HO265 := n2_
 have HO271 := n3_
 have HO282 := n4_
 have BK244 := n5_
 have BK245 := n6_
 have BK261 := n7_
 have BK266 := n8_
 have BK272 := n9_
 have BK277 := n10_
 have HB := n11_
 clear n0_ n1_ n2_ n3_ n4_ n5_ n6_ n7_ n8_ n9_ n10_ n11_
 refine start_ (n := 5) (S := fun w' => w'.cell? ⟨gb272, 0, none⟩ = some (.int .i64 t267) ∧ w'.cell? ⟨gb272, 1, none⟩ = some (.int .i64 t268) ∧ w'.cell? ⟨gb272, 2, none⟩ = some (.slice Ao75 t269.length co75) ∧ w'.cell? ⟨gb245, 0, none⟩ = some (.int .i64 a1_0) ∧ w'.cell? ⟨gb245, 1, none⟩ = some (.int .i64 a1_1) ∧ w'.cell? ⟨gb245, 2, none⟩ = some (.slice A1_2 l1_2.length c1_2)) (ds := []) #[false, false, false, false, false] (by kernel_rfl) rfl rfl ⟨(zC BK272.out 0).trans rfl, (zC BK272.out 1).trans rfl, (zC BK272.out 2).trans rfl, (zC BK245.out 0).trans rfl, (zC BK245.out 1).trans rfl, (zC BK245.out 2).trans rfl⟩ (fun hHeld => ?_)
 generalize w90.drew = w91 at HO251 HO256 HO265 HO271 HO282 BK244 BK245 BK261 BK266 BK272 BK277 HB hHeld ⊢
 refine take_ (i := 0) (N := some 52) (v := ?_) (a' := ?_) #[true, false, false, false, false] rfl rfl (by kernel_rfl) (fun _ _ _ h => h) (Or.inl ⟨by rfl, ?_⟩) hHeld ?_ ?_
 rotate_left
 ·rintro w' ⟨s0, s1, s2, s3, s4, s5⟩
  go_simp
  with_reducible rfl
 rotate_left
 ·simp only [Act.put, List.setIfInBounds_toArray, List.set_cons_zero, List.set_cons_succ, i64_w, i32_w]
  rfl
 refine take_ (i := 1) (N := some 53) (v := ?_) (a' := ?_) #[true, true, false, false, false] rfl rfl (by kernel_rfl) (fun _ _ _ h => h) (Or.inl ⟨by rfl, ?_⟩) hHeld ?_ ?_
 rotate_left
 ·rintro w' ⟨s0, s1, s2, s3, s4, s5⟩
  go_simp
  with_reducible rfl
 rotate_left
 ·simp only [Act.put, List.setIfInBounds_toArray, List.set_cons_zero, List.set_cons_succ, i64_w, i32_w]
  rfl
 refine one_ (i := 2) (N := some 54) #[true, true, true, false, false] rfl rfl (by kernel_rfl) (by decide) (fun K hK => ?_)
 refine goes_ Tryd.func20 (by kernel_rfl) rfl #[.agg #[.int .i64 a1_0, .int .i64 a1_1, .slice A1_2 l1_2.length c1_2]] (by rfl) rfl rfl (by (try simp only [List.map_toArray, List.map_cons, List.map_nil]); first | done | rfl | (simp only [List.length_drop, List.length_take]; rfl)) ?_
 with_reducible refine (laws_toCred.calls k a1_0 a1_1 _ _ l1_2 t284 t285 t286 _ ?side1 ?side2 A35.out).mono ?_
 (case side1 => repeat (first | exact (Kd.C_below HR1_2.out HB.out) | (with_reducible refine Kd.C_alloc ?_ _) | (with_reducible refine Kd.C_drewN ?_ _) | (with_reducible refine Kd.C_drew ?_)))
 (case side2 => exact HC1_2.out)
 rintro e w92 ⟨v287, rfl, ho0, hb⟩
 refine ⟨_, rfl, ?_⟩
 have n0_ := zM (Kd.S_below (by (with_reducible repeat (first | apply Kd.S_alloc | apply Kd.S_drewN | apply Kd.S_drew)); exact HO251.out) hb)
 have n1_ := zM (Kd.R_elder' (by (with_reducible repeat (first | apply Kd.R_alloc | apply Kd.R_drewN | apply Kd.R_drew)); exact HO256.out) (Kd.R_base ho0) hb)
 have n2_ := zM (Kd.S_below (by (with_reducible repeat (first | apply Kd.S_alloc | apply Kd.S_drewN | apply Kd.S_drew)); exact HO265.out) hb)
 have n3_ := zM (Kd.R_elder' (by (with_reducible repeat (first | apply Kd.R_alloc | apply Kd.R_drewN | apply Kd.R_drew)); exact HO271.out) (Kd.R_base ho0) hb)
 have n4_ := zM (Kd.S_below (by (with_reducible repeat (first | apply Kd.S_alloc | apply Kd.S_drewN | apply Kd.S_drew)); exact HO282.out) hb)
 have n5_ := zM (Kd.R_lower (Kd.R_new' (Kd.R_new' ho0 (Kd.R_lt (by (with_reducible repeat (first | apply Kd.R_alloc | apply Kd.R_drewN | apply Kd.R_drew)); exact HO256.out))) (Kd.R_lt (by (with_reducible repeat (first | apply Kd.R_alloc | apply Kd.R_drewN | apply Kd.R_drew)); exact HO271.out))) (zZ (by with_reducible repeat (first | exact HB.out | apply zA | apply zN | apply zD | refine zS ?_ GE244.out | refine zS ?_ GE245.out | refine zS ?_ GE261.out | refine zS ?_ GE266.out | refine zS ?_ GE272.out | refine zS ?_ GE277.out))))
 have n6_ := zM (zL (g := gb244) (o := .cells #[.int .i64 a0_0, .slice A0_1 l0_1.length c0_1] 34 (0, 0)) (by (with_reducible repeat (first | refine zK ?_ _ | refine zW ?_ | refine zB ?_ _)); exact BK244.out) hb)
 have n7_ := zM (zL (g := gb245) (o := .cells #[.int .i64 a1_0, .int .i64 a1_1, .slice A1_2 l1_2.length c1_2] 37 (0, 0)) (by (with_reducible repeat (first | refine zK ?_ _ | refine zW ?_ | refine zB ?_ _)); exact BK245.out) hb)
 have n8_ := zM (zL (g := gb261) (o := .cells #[.int .i64 t257, .string t258, .int .i64 t259, .int .i64 t260] 41 (0, 0)) (by (with_reducible repeat (first | refine zK ?_ _ | refine zW ?_ | refine zB ?_ _)); exact BK261.out) hb)
 have n9_ := zM (zL (g := gb266) (o := .cells #[.int .i64 t262, .slice Ao65 t263.length co65] 45 (0, 0)) (by (with_reducible repeat (first | refine zK ?_ _ | refine zW ?_ | refine zB ?_ _)); exact BK266.out) hb)
 have n10_ := zM (zL (g := gb272) (o := .cells #[.int .i64 t267, .int .i64 t268, .slice Ao75 t269.length co75] 47 (0, 0)) (by (with_reducible repeat (first | refine zK ?_ _ | refine zW ?_ | refine zB ?_ _)); exact BK272.out) hb)
 have n11_ := zM (zL (g := gb277) (o := .cells #[.int .i64 t273, .string t274, .int .i64 t275, .int .i64 t276] 41 (0, 0)) (by (with_reducible repeat (first | refine zK ?_ _ | refine zW ?_ | refine zB ?_ _)); exact BK277.out) hb)
 have n12_ := zM (zP (by with_reducible repeat (first | exact HB.out | apply zA | apply zN | apply zD | refine zS ?_ GE244.out | refine zS ?_ GE245.out | refine zS ?_ GE261.out | refine zS ?_ GE266.out | refine zS ?_ GE272.out | refine zS ?_ GE277.out)) hb)
 clear HO251
 clear HO256
 clear HO265
 clear HO271
 clear HO282
 clear BK244
 clear BK245
 clear BK261
 clear BK266
 clear BK272
 clear BK277
 clear HB
 have HO251 := n0_
 have HO256 := n1_
 have HO265 := n2_
 have HO271 := n3_
 have HO282 := n4_
 have HO288 := n5_
 have BK244 := n6_
 have BK245 := n7_
 have BK261 := n8_
 have BK266 := n9_
 have BK272 := n10_
 have BK277 := n11_
 have HB := n12_
 clear n0_ n1_ n2_ n3_ n4_ n5_ n6_ n7_ n8_ n9_ n10_ n11_ n12_
 (try clear hb)
 (try clear hb2)
 (try clear hk)
 (try clear hi)
 (try clear ho0)
 obtain ⟨Ao93, co93, eo93⟩ := Kd.R_slice HO288.out
 (first | subst eo93 | (injection eo93 with f1_ f2_ f3_; have f4_ := f1_.symm; have f5_ := f3_.symm; clear f1_ f2_ f3_; subst f4_; subst f5_))
 refine hK.out _ _ ⟨(zC BK272.out 0).trans rfl, (zC BK272.out 1).trans rfl, (zC BK272.out 2).trans rfl, (zC BK245.out 0).trans rfl, (zC BK245.out 1).trans rfl, (zC BK245.out 2).trans rfl⟩ (fun hHeld => ?_)
 clear hK K
 refine norm_ (a' := ?_) ?_ ?_
 rotate_left
 ·show Act.put _ (some 54) _ = _
  simp only [Act.put, List.setIfInBounds_toArray, List.set_cons_zero, List.set_cons_succ, i64_w, i32_w]
  rfl
 refine one_ (i := 3) (N := some 55) #[true, true, true, true, false] rfl rfl (by kernel_rfl) (by decide) (fun K hK => ?_)
 refine goes_ Tryd.func24 (by kernel_rfl) rfl #[.agg #[.int .i64 t267, .int .i64 t268, .slice Ao75 t269.length co75], .agg #[.int .i64 t284, .int .i64 t285, .slice Ao93 t286.length co93]] (by rfl) rfl rfl (by (try simp only [List.map_toArray, List.map_cons, List.map_nil]); first | done | rfl | (simp only [List.length_drop, List.length_take]; rfl)) ?_
 with_reducible refine (laws_eqCred.calls t267 t268 _ _ t269 t284 t285 _ _ t286 true _ ?side1 ?side2 ?side3 ?side4 A36.out).mono ?_
 (case side1 => repeat (first | exact (Kd.R_reads' HO271.out).2.2 | (with_reducible refine Kd.C_alloc ?_ _) | (with_reducible refine Kd.C_drewN ?_ _) | (with_reducible refine Kd.C_drew ?_)))
 (case side2 => exact (Kd.R_reads' HO271.out).2.1)
 (case side3 => repeat (first | exact (Kd.R_reads' HO288.out).2.2 | (with_reducible refine Kd.C_alloc ?_ _) | (with_reducible refine Kd.C_drewN ?_ _) | (with_reducible refine Kd.C_drew ?_)))
 (case side4 => exact (Kd.R_reads' HO288.out).2.1)
 rintro e w94 ⟨rfl, hb⟩
 refine ⟨_, rfl, ?_⟩
 have n0_ := zM (Kd.S_below (by (with_reducible repeat (first | apply Kd.S_alloc | apply Kd.S_drewN | apply Kd.S_drew)); exact HO251.out) hb)
 have n1_ := zM (Kd.R_below (by (with_reducible repeat (first | apply Kd.R_alloc | apply Kd.R_drewN | apply Kd.R_drew)); exact HO256.out) hb)
 have n2_ := zM (Kd.S_below (by (with_reducible repeat (first | apply Kd.S_alloc | apply Kd.S_drewN | apply Kd.S_drew)); exact HO265.out) hb)
 have n3_ := zM (Kd.R_below (by (with_reducible repeat (first | apply Kd.R_alloc | apply Kd.R_drewN | apply Kd.R_drew)); exact HO271.out) hb)
 have n4_ := zM (Kd.S_below (by (with_reducible repeat (first | apply Kd.S_alloc | apply Kd.S_drewN | apply Kd.S_drew)); exact HO282.out) hb)
 have n5_ := zM (Kd.R_below (by (with_reducible repeat (first | apply Kd.R_alloc | apply Kd.R_drewN | apply Kd.R_drew)); exact HO288.out) hb)
 have n6_ := zM (zL (g := gb244) (o := .cells #[.int .i64 a0_0, .slice A0_1 l0_1.length c0_1] 34 (0, 0)) (by (with_reducible repeat (first | refine zK ?_ _ | refine zW ?_ | refine zB ?_ _)); exact BK244.out) hb)
 have n7_ := zM (zL (g := gb245) (o := .cells #[.int .i64 a1_0, .int .i64 a1_1, .slice A1_2 l1_2.length c1_2] 37 (0, 0)) (by (with_reducible repeat (first | refine zK ?_ _ | refine zW ?_ | refine zB ?_ _)); exact BK245.out) hb)
 have n8_ := zM (zL (g := gb261) (o := .cells #[.int .i64 t257, .string t258, .int .i64 t259, .int .i64 t260] 41 (0, 0)) (by (with_reducible repeat (first | refine zK ?_ _ | refine zW ?_ | refine zB ?_ _)); exact BK261.out) hb)
 have n9_ := zM (zL (g := gb266) (o := .cells #[.int .i64 t262, .slice Ao65 t263.length co65] 45 (0, 0)) (by (with_reducible repeat (first | refine zK ?_ _ | refine zW ?_ | refine zB ?_ _)); exact BK266.out) hb)
 have n10_ := zM (zL (g := gb272) (o := .cells #[.int .i64 t267, .int .i64 t268, .slice Ao75 t269.length co75] 47 (0, 0)) (by (with_reducible repeat (first | refine zK ?_ _ | refine zW ?_ | refine zB ?_ _)); exact BK272.out) hb)
 have n11_ := zM (zL (g := gb277) (o := .cells #[.int .i64 t273, .string t274, .int .i64 t275, .int .i64 t276] 41 (0, 0)) (by (with_reducible repeat (first | refine zK ?_ _ | refine zW ?_ | refine zB ?_ _)); exact BK277.out) hb)
 have n12_ := zM (zP (by with_reducible repeat (first | exact HB.out | apply zA | apply zN | apply zD | refine zS ?_ GE244.out | refine zS ?_ GE245.out | refine zS ?_ GE261.out | refine zS ?_ GE266.out | refine zS ?_ GE272.out | refine zS ?_ GE277.out)) hb)
 clear HO251
 clear HO256
 clear HO265
 clear HO271
 clear HO282
 clear HO288
 clear BK244
 clear BK245
 clear BK261
 clear BK266
 clear BK272
 clear BK277
 clear HB
 have HO251 := n0_
 have HO256 := n1_
 have HO265 := n2_
 have HO271 := n3_
 have HO282 := n4_
 have HO288 := n5_
 have BK244 := n6_
 have BK245 := n7_
 have BK261 := n8_
 have BK266 := n9_
 have BK272 := n10_
 have BK277 := n11_
 have HB := n12_
 clear n0_ n1_ n2_ n3_ n4_ n5_ n6_ n7_ n8_ n9_ n10_ n11_ n12_
 (try clear hb)
 (try clear hb2)
 (try clear hk)
 (try clear hi)
 refine hK.out _ _ ⟨(zC BK272.out 0).trans rfl, (zC BK272.out 1).trans rfl, (zC BK272.out 2).trans rfl, (zC BK245.out 0).trans rfl, (zC BK245.out 1).trans rfl, (zC BK245.out 2).trans rfl⟩ (fun hHeld => ?_)
 clear hK K
 refine norm_ (a' := ?_) ?_ ?_
 rotate_left
 ·show Act.put _ (some 55) _ = _
  simp only [Act.put, List.setIfInBounds_toArray, List.set_cons_zero, List.set_cons_succ, i64_w, i32_w]
  rfl
 refine pure_ (i := 4) (N := some 56) (v := ?_) (a' := ?_) #[true, true, true, true, true] rfl rfl (by kernel_rfl) (fun _ _ _ h => h) (Or.inl ⟨by rfl, ?_⟩) ?_ ?_
 rotate_left
 ·intro w'
  go_simp
  with_reducible rfl
 rotate_left
 ·simp only [Act.put, List.setIfInBounds_toArray, List.set_cons_zero, List.set_cons_succ, i64_w, i32_w]
  rfl
 refine done_ (by kernel_rfl) ?_
 try go_wp2
 go_ret
 exact ⟨by first | rfl | (simp [errW_none, errW_some] <;> rfl) | (simp [*, errW_none, errW_some] <;> rfl), by repeat (first | (with_reducible first | exact HB.out | apply zA | apply zN | apply zD | refine zS ?_ GE244.out | refine zS ?_ GE245.out | refine zS ?_ GE261.out | refine zS ?_ GE266.out | refine zS ?_ GE272.out | refine zS ?_ GE277.out) | exact HB.out)⟩
end Go.Proofs.YtiopcpkfjikfdaaDoor.PFnExactWalk
