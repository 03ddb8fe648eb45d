/- Written by programs of mine (over the kit's print.py; l8surg.py): spec.l8Inode as a Lean function, and that the program answers as it does. -/
import Derived.Test.YtiopcpkfjikfdaaRv0
namespace Go.Proofs.Ytiopcpkfjikfdaa.PFnExactVolOk
open Go.RowKit Go.Proofs.YtiopcpkfjikfdaaW.PrintWords Go.Proofs.YtiopcpkfjikfdaaW.PrintLast Go.Proofs.YtiopcpkfjikfdaaW.PrintMore
attribute [local go_sem] max2_int min2_int max_two min_two max_three min_three max_four min_four   -- for this text's walks alone
set_option linter.unusedVariables false
set_option linter.unusedSimpArgs false
theorem far9 {w : World} {p : Addr} {v : Value} {g : Nat} (h : w.cell? p = some v) (hne : p.block ≠ g) (u0 u1 u2 u3 u4 u5 u6 u7 u8 : Value) : ((((((((((w.setCell ⟨g, 0, none⟩ u0).setCell ⟨g, 1, none⟩ u1).setCell ⟨g, 2, none⟩ u2).setCell ⟨g, 3, none⟩ u3).setCell ⟨g, 4, none⟩ u4).setCell ⟨g, 5, none⟩ u5).setCell ⟨g, 6, none⟩ u6).setCell ⟨g, 7, none⟩ u7).setCell ⟨g, 8, none⟩ u8).cell? p) = some v := by
  refine (cell_far (p := ⟨g, 8, none⟩) hne _).trans ?_
  refine (cell_far (p := ⟨g, 7, none⟩) hne _).trans ?_
  refine (cell_far (p := ⟨g, 6, none⟩) hne _).trans ?_
  refine (cell_far (p := ⟨g, 5, none⟩) hne _).trans ?_
  refine (cell_far (p := ⟨g, 4, none⟩) hne _).trans ?_
  refine (cell_far (p := ⟨g, 3, none⟩) hne _).trans ?_
  refine (cell_far (p := ⟨g, 2, none⟩) hne _).trans ?_
  refine (cell_far (p := ⟨g, 1, none⟩) hne _).trans ?_
  refine (cell_far (p := ⟨g, 0, none⟩) hne _).trans ?_
  exact h
/-! ### spec_l8Inode: function 56 -/
mutual
def spec_l8Inode.j0 : Nat → ByteArray → Int → List Int → Bool → Int → Int → Int → Int → Int → ByteArray → Int → Int → Option (Int × Int × Int × Int × Int × ByteArray × (List (S68)) × Int × Int × Int)
 | 0, _, _, _, _, _, _, _, _, _, _, _, _ => none
 | k + 1, x0, x7, x10, x70, x218000, x218001, x218002, x218003, x218004, x218005, x218007, x218008 => if x70 = true then (some (x218000, x218001, x218002, x218003, x218004, x218005, ([] : List (S68)), x218007, x218008, (-1))) else (spec_l8Inode.l0 k x0 x7 x10 0 x218000 x218001 x218002 x218003 x218004 x218005 ([] : List (S68)) x218007 x218008)
def spec_l8Inode.l0 : Nat → ByteArray → Int → List Int → Int → Int → Int → Int → Int → Int → ByteArray → List (S68) → Int → Int → Option (Int × Int × Int × Int × Int × ByteArray × (List (S68)) × Int × Int × Int)
 | 0, _, _, _, _, _, _, _, _, _, _, _, _, _ => none
 | k + 1, x0, x7, x10, x11, x218000, x218001, x218002, x218003, x218004, x218005, x218006, x218007, x218008 => if 0 < (x10.length : Int) then (if x11 < (rd x10 0) then ((spec_l8Take.f k x0 x7).bind fun bt226 => ((spec_l8Vars.f k x0 bt226.2 1).bind fun bt228 => (if bt228.2 < 0 then (some (x218000, x218001, x218002, x218003, x218004, x218005, x218006, x218007, x218008, (-1))) else (if 0 < (bt228.1.length : Int) then (if x218006.length < 5864062014805 then (spec_l8Inode.l0 k x0 bt228.2 x10 (wrap64 (x11 + 1)) x218000 x218001 x218002 x218003 x218004 x218005 (x218006 ++ [(⟨bt226.1, rd bt228.1 0⟩ : S68)]) x218007 x218008) else (none)) else (none))))) else (some (x218000, x218001, x218002, x218003, x218004, x218005, x218006, x218007, x218008, x7))) else (none)
end
def spec_l8Inode.f (k : Nat) (a0 : ByteArray) (a1 : Int) : Option (Int × Int × Int × Int × Int × ByteArray × (List (S68)) × Int × Int × Int) := (spec_l8Vars.f k a0 a1 7).bind fun bt206 => (if bt206.2 < 0 then (some (0, 0, 0, 0, 0, (⟨#[]⟩ : ByteArray), ([] : List (S68)), 0, 0, (-1))) else (if 0 < (bt206.1.length : Int) then (if 1 < (bt206.1.length : Int) then (if 2 < (bt206.1.length : Int) then (if 3 < (bt206.1.length : Int) then (if 4 < (bt206.1.length : Int) then (if 5 < (bt206.1.length : Int) then (if 6 < (bt206.1.length : Int) then ((spec_l8Take.f k a0 bt206.2).bind fun bt218 => (if bt218.2 < 0 then (some (rd bt206.1 0, rd bt206.1 1, rd bt206.1 2, rd bt206.1 3, rd bt206.1 4, (⟨#[]⟩ : ByteArray), ([] : List (S68)), rd bt206.1 5, rd bt206.1 6, (-1))) else ((spec_l8Vars.f k a0 bt218.2 1).bind fun bt220 => (if bt220.2 < 0 then (spec_l8Inode.j0 k a0 bt220.2 bt220.1 true (rd bt206.1 0) (rd bt206.1 1) (rd bt206.1 2) (rd bt206.1 3) (rd bt206.1 4) bt218.1 (rd bt206.1 5) (rd bt206.1 6)) else (if 0 < (bt220.1.length : Int) then (spec_l8Inode.j0 k a0 bt220.2 bt220.1 (decide ((rd bt220.1 0) > 12)) (rd bt206.1 0) (rd bt206.1 1) (rd bt206.1 2) (rd bt206.1 3) (rd bt206.1 4) bt218.1 (rd bt206.1 5) (rd bt206.1 6)) else (none)))))) else (none)) else (none)) else (none)) else (none)) else (none)) else (none)) else (none)))
theorem spec_l8Inode.mono_l : ∀ k, (∀ y0 y1 y2 y3 y4 y5 y6 y7 y8 y9 y10 y11, LeO (spec_l8Inode.j0 k y0 y1 y2 y3 y4 y5 y6 y7 y8 y9 y10 y11) (spec_l8Inode.j0 (k + 1) y0 y1 y2 y3 y4 y5 y6 y7 y8 y9 y10 y11)) ∧ (∀ y0 y1 y2 y3 y4 y5 y6 y7 y8 y9 y10 y11 y12, LeO (spec_l8Inode.l0 k y0 y1 y2 y3 y4 y5 y6 y7 y8 y9 y10 y11 y12) (spec_l8Inode.l0 (k + 1) y0 y1 y2 y3 y4 y5 y6 y7 y8 y9 y10 y11 y12))
 | 0 => ⟨fun _ _ _ _ _ _ _ _ _ _ _ _ r h => by simp [spec_l8Inode.j0] at h, fun _ _ _ _ _ _ _ _ _ _ _ _ _ r h => by simp [spec_l8Inode.l0] at h⟩
 | k + 1 => by
  obtain ⟨ih0, ih1⟩ := spec_l8Inode.mono_l k
  refine ⟨?_, ?_⟩
  ·intro y0 y1 y2 y3 y4 y5 y6 y7 y8 y9 y10 y11
   unfold spec_l8Inode.j0
   repeat' first
   | (with_reducible exact ih0 _ _ _ _ _ _ _ _ _ _ _ _)
   | (with_reducible exact ih1 _ _ _ _ _ _ _ _ _ _ _ _ _)
   | (with_reducible exact spec_l8Take.mono _ _ _)
   | (with_reducible exact spec_l8Vars.mono _ _ _ _)
   | (with_reducible exact LeO.refl _)
   | (with_reducible exact LeO.none _)
   | (with_reducible refine LeO.ite ?_ ?_)
   | (with_reducible refine LeO.bind ?_ (fun _ => ?_))
   | exact ih0 _ _ _ _ _ _ _ _ _ _ _ _
   | exact ih1 _ _ _ _ _ _ _ _ _ _ _ _ _
   | exact spec_l8Take.mono _ _ _
   | exact spec_l8Vars.mono _ _ _ _
   | exact LeO.none _
   | refine LeO.ite ?_ ?_
   | refine LeO.bind ?_ (fun _ => ?_)
  ·intro y0 y1 y2 y3 y4 y5 y6 y7 y8 y9 y10 y11 y12
   unfold spec_l8Inode.l0
   repeat' first
   | (with_reducible exact ih0 _ _ _ _ _ _ _ _ _ _ _ _)
   | (with_reducible exact ih1 _ _ _ _ _ _ _ _ _ _ _ _ _)
   | (with_reducible exact spec_l8Take.mono _ _ _)
   | (with_reducible exact spec_l8Vars.mono _ _ _ _)
   | (with_reducible exact LeO.refl _)
   | (with_reducible exact LeO.none _)
   | (with_reducible refine LeO.ite ?_ ?_)
   | (with_reducible refine LeO.bind ?_ (fun _ => ?_))
   | exact ih0 _ _ _ _ _ _ _ _ _ _ _ _
   | exact ih1 _ _ _ _ _ _ _ _ _ _ _ _ _
   | exact spec_l8Take.mono _ _ _
   | exact spec_l8Vars.mono _ _ _ _
   | exact LeO.none _
   | refine LeO.ite ?_ ?_
   | refine LeO.bind ?_ (fun _ => ?_)
theorem spec_l8Inode.mono : ∀ a0 a1 k, LeO (spec_l8Inode.f k a0 a1) (spec_l8Inode.f (k + 1) a0 a1) := by
 intro a0 a1 k
 obtain ⟨ih0, ih1⟩ := spec_l8Inode.mono_l k
 unfold spec_l8Inode.f
 repeat' first
   | (with_reducible exact ih0 _ _ _ _ _ _ _ _ _ _ _ _)
   | (with_reducible exact ih1 _ _ _ _ _ _ _ _ _ _ _ _ _)
   | (with_reducible exact spec_l8Take.mono _ _ _)
   | (with_reducible exact spec_l8Vars.mono _ _ _ _)
   | (with_reducible exact LeO.refl _)
   | (with_reducible exact LeO.none _)
   | (with_reducible refine LeO.ite ?_ ?_)
   | (with_reducible refine LeO.bind ?_ (fun _ => ?_))
   | exact ih0 _ _ _ _ _ _ _ _ _ _ _ _
   | exact ih1 _ _ _ _ _ _ _ _ _ _ _ _ _
   | exact spec_l8Take.mono _ _ _
   | exact spec_l8Vars.mono _ _ _ _
   | exact LeO.none _
   | refine LeO.ite ?_ ?_
   | refine LeO.bind ?_ (fun _ => ?_)
def spec_l8Inode.T4 : Bool × List (List Nat × List Nat) := (true, [([], []), ([0], [0]), ([1], [1]), ([], []), ([3], [3]), ([4], [4]), ([], []), ([6], [6]), ([7], [7]), ([], []), ([9], [9]), ([10], [10]), ([], []), ([12], [12]), ([13], [13]), ([], []), ([15], [15]), ([16], [16]), ([], []), ([18], [18]), ([19], [19]), ([2, 5, 8, 11, 14, 17, 20], [2, 5, 8, 11, 14, 17, 20]), ([], []), ([22, 21, 0, 1, 2, 3, 4, 5, 6, 7, 8, 9, 10, 11, 12, 13, 14, 15, 16, 17, 18, 19, 20, 21, 22], [21, 22])])
def spec_l8Inode.B4 : List Nat := [0, 1, 3, 0, 8, 24, 0, 64, 192, 0, 512, 1536, 0, 4096, 12288, 0, 32768, 98304, 0, 262144, 786432, 2097151, 0, 8388607]
theorem spec_l8Inode.tab4 : rtab .any (opsOf Try.f56 4) = spec_l8Inode.T4 := by kernel_rfl
theorem spec_l8Inode.bits4 : waitsOk spec_l8Inode.T4.2 spec_l8Inode.B4 = true := by kernel_rfl
def spec_l8Inode.T19 : Bool × List (List Nat × List Nat) := (true, [([], []), ([0], [0]), ([], []), ([], []), ([3], [3]), ([4], [4]), ([2, 5], [2, 5]), ([6], [6]), ([1, 7], [1, 7]), ([0, 1, 2, 3, 4, 5, 6, 7, 8], []), ([9, 8, 8, 0, 1, 2, 3, 4, 5, 6, 7, 8], [8, 9])])
def spec_l8Inode.B19 : List Nat := [0, 1, 0, 0, 8, 24, 60, 124, 255, 511, 1023]
theorem spec_l8Inode.tab19 : rtab .any (opsOf Try.f56 19) = spec_l8Inode.T19 := by kernel_rfl
theorem spec_l8Inode.bits19 : waitsOk spec_l8Inode.T19.2 spec_l8Inode.B19 = true := by kernel_rfl
set_option maxHeartbeats 8000000 in
set_option maxRecDepth 100000 in
theorem spec_l8Inode.calls (k : Nat) (a0 : ByteArray) (a1 : Int) (r1 : Int) (r2 : Int) (r3 : Int) (r4 : Int) (r5 : Int) (r6 : ByteArray) (r7 : List (S68)) (r8 : Int) (r9 : Int) (r10 : Int) (w : World) (h : spec_l8Inode.f k a0 a1 = some (r1, r2, r3, r4, r5, r6, r7, r8, r9, r10)) :
  Calls Try.prog 56 #[.string a0, .int .i64 a1] w fun e w' => ∃ v6_ : Value, e = .returned (.tuple #[.agg #[.int .i64 r1, .int .i64 r2, .int .i64 r3, .int .i64 r4, .int .i64 r5, .string r6, v6_, .int .i64 r8, .int .i64 r9], .int .i64 r10]) ∧ Kd.R k68 68 w' w.heap.size (fun _ => True) v6_ r7 ∧ Below w.heap.size w w' := by
 have hu45 := Try.underlying45
 have hu68 := Try.underlying68
 have HB := Aside0.mk (Below.refl w.heap.size w)
 have H : ((spec_l8Vars.f k a0 a1 7).bind fun bt206 => (if bt206.2 < 0 then (some (0, 0, 0, 0, 0, (⟨#[]⟩ : ByteArray), ([] : List (S68)), 0, 0, (-1))) else (if 0 < (bt206.1.length : Int) then (if 1 < (bt206.1.length : Int) then (if 2 < (bt206.1.length : Int) then (if 3 < (bt206.1.length : Int) then (if 4 < (bt206.1.length : Int) then (if 5 < (bt206.1.length : Int) then (if 6 < (bt206.1.length : Int) then ((spec_l8Take.f k a0 bt206.2).bind fun bt218 => (if bt218.2 < 0 then (some (rd bt206.1 0, rd bt206.1 1, rd bt206.1 2, rd bt206.1 3, rd bt206.1 4, (⟨#[]⟩ : ByteArray), ([] : List (S68)), rd bt206.1 5, rd bt206.1 6, (-1))) else ((spec_l8Vars.f k a0 bt218.2 1).bind fun bt220 => (if bt220.2 < 0 then (spec_l8Inode.j0 k a0 bt220.2 bt220.1 true (rd bt206.1 0) (rd bt206.1 1) (rd bt206.1 2) (rd bt206.1 3) (rd bt206.1 4) bt218.1 (rd bt206.1 5) (rd bt206.1 6)) else (if 0 < (bt220.1.length : Int) then (spec_l8Inode.j0 k a0 bt220.2 bt220.1 (decide ((rd bt220.1 0) > 12)) (rd bt206.1 0) (rd bt206.1 1) (rd bt206.1 2) (rd bt206.1 3) (rd bt206.1 4) bt218.1 (rd bt206.1 5) (rd bt206.1 6)) else (none)))))) else (none)) else (none)) else (none)) else (none)) else (none)) else (none)) else (none)))) = some (r1, r2, r3, r4, r5, r6, r7, r8, r9, r10) := h
 clear h
 replace H := Option.bind_eq_some_iff.mp H
 obtain ⟨⟨t206, t207⟩, A30, H⟩ := H
 replace H : (if t207 < 0 then (some (0, 0, 0, 0, 0, (⟨#[]⟩ : ByteArray), ([] : List (S68)), 0, 0, (-1))) else (if 0 < (t206.length : Int) then (if 1 < (t206.length : Int) then (if 2 < (t206.length : Int) then (if 3 < (t206.length : Int) then (if 4 < (t206.length : Int) then (if 5 < (t206.length : Int) then (if 6 < (t206.length : Int) then ((spec_l8Take.f k a0 t207).bind fun bt218 => (if bt218.2 < 0 then (some (rd t206 0, rd t206 1, rd t206 2, rd t206 3, rd t206 4, (⟨#[]⟩ : ByteArray), ([] : List (S68)), rd t206 5, rd t206 6, (-1))) else ((spec_l8Vars.f k a0 bt218.2 1).bind fun bt220 => (if bt220.2 < 0 then (spec_l8Inode.j0 k a0 bt220.2 bt220.1 true (rd t206 0) (rd t206 1) (rd t206 2) (rd t206 3) (rd t206 4) bt218.1 (rd t206 5) (rd t206 6)) else (if 0 < (bt220.1.length : Int) then (spec_l8Inode.j0 k a0 bt220.2 bt220.1 (decide ((rd bt220.1 0) > 12)) (rd t206 0) (rd t206 1) (rd t206 2) (rd t206 3) (rd t206 4) bt218.1 (rd t206 5) (rd t206 6)) else (none)))))) else (none)) else (none)) else (none)) else (none)) else (none)) else (none)) else (none))) = some (r1, r2, r3, r4, r5, r6, r7, r8, r9, r10) := H
 have A3 := Aside0.mk A30
 clear A30
 by_cases c4 : t207 < 0
 ·rw [if_pos c4] at H
  have c4b0 : decide (t207 < 0) = true := decide_eq_true c4
  clear c4
  simp only [Option.some.injEq, Prod.mk.injEq] at H
  obtain ⟨rfl, rfl, rfl, rfl, rfl, rfl, rfl, rfl, rfl, rfl⟩ := H
  go_enter Try.func56, Try.ntmps56
  go_wp2_with (first | ((with_reducible refine gate_dst (N := 4) rfl ?_); refine box_event ?hg (N := 4) ?hd (cs := #[.int .i64 0, .int .i64 0, .int .i64 0, .int .i64 0, .int .i64 0, .string (⟨#[]⟩ : ByteArray), .slice none 0 0, .int .i64 0, .int .i64 0]) (t := 45) ?hr ?_; (case hd => rfl); (case hg => rfl); (case hr => first | (go_simp; done) | (go_simp; rfl)); intro gb205 hg w5 hbox hb; have n0_ := Aside0.mk (below_step (by repeat (first | (with_reducible first | exact HB.out | apply below_alloc | apply pw_below_drewN | apply below_drew1) | exact HB.out)) hb); have n1_ := Aside0.mk (hbox); have n2_ := Aside0.mk ((by rw [hg]; exact (below_size (by repeat (first | (with_reducible first | exact HB.out | apply below_alloc | apply pw_below_drewN | apply below_drew1) | exact HB.out))) : w.heap.size ≤ gb205)); have n3_ := Aside0.mk ((by rw [hg]; exact (below_size (by repeat (first | (with_reducible first | exact HB.out | apply below_alloc | apply pw_below_drewN | apply below_drew1) | exact HB.out))) : w.heap.size ≤ gb205)); clear HB; have HB := n0_; have BK205 := n1_; have GW205 := n2_; have GE205 := n3_; clear n0_ n1_ n2_ n3_; clear hb hbox hg) | ((with_reducible refine gate_callee (f := 55) rfl ?_); refine goesL_ (some 18) rfl rfl Try.func55 (by kernel_rfl) rfl #[.string a0, .int .i64 a1, .int .i64 7] rfl (by (try simp only [List.map_toArray, List.map_cons, List.map_nil]); first | done | rfl | (simp only [List.length_drop, List.length_take]; rfl)) ?_; (with_reducible refine (spec_l8Vars.calls k a0 a1 7 t206 t207 _ A3.out).mono ?_); rintro e w6 ⟨v208, rfl, ho0, hb⟩; refine ⟨_, rfl, ?_⟩; have n0_ := Aside0.mk (Kd.R_lower ho0 (below_size (by repeat (first | (with_reducible first | exact HB.out | apply below_alloc | apply pw_below_drewN | apply below_drew1 | refine below_set ?_ GE205.out) | exact HB.out)))); have n1_ := Aside0.mk (blk_below (g := gb205) (o := .cells #[.int .i64 0, .int .i64 0, .int .i64 0, .int .i64 0, .int .i64 0, .string (⟨#[]⟩ : ByteArray), .slice none 0 0, .int .i64 0, .int .i64 0] 45 (0, 0)) (by (with_reducible repeat (first | refine blk_drewN ?_ _ | refine blk_drew ?_ | refine blk_alloc ?_ _)); exact BK205.out) hb); have n2_ := Aside0.mk (below_step (by repeat (first | (with_reducible first | exact HB.out | apply below_alloc | apply pw_below_drewN | apply below_drew1 | refine below_set ?_ GE205.out) | exact HB.out)) hb); clear BK205; clear HB; have HO209 := n0_; have BK205 := n1_; have HB := n2_; clear n0_ n1_ n2_; (try clear hb); (try clear hb2); (try clear hk); (try clear hi); (try clear ho0); have hcz7_0 : w6.cell? ⟨gb205, 0, none⟩ = some (.int .i64 0) := (blk_cell BK205.out 0).trans rfl; have hcz7_1 : w6.cell? ⟨gb205, 1, none⟩ = some (.int .i64 0) := (blk_cell BK205.out 1).trans rfl; have hcz7_2 : w6.cell? ⟨gb205, 2, none⟩ = some (.int .i64 0) := (blk_cell BK205.out 2).trans rfl; have hcz7_3 : w6.cell? ⟨gb205, 3, none⟩ = some (.int .i64 0) := (blk_cell BK205.out 3).trans rfl; have hcz7_4 : w6.cell? ⟨gb205, 4, none⟩ = some (.int .i64 0) := (blk_cell BK205.out 4).trans rfl; have hcz7_5 : w6.cell? ⟨gb205, 5, none⟩ = some (.string (⟨#[]⟩ : ByteArray)) := (blk_cell BK205.out 5).trans rfl; have hcz7_6 : w6.cell? ⟨gb205, 6, none⟩ = some (.slice none 0 0) := (blk_cell BK205.out 6).trans rfl; have hcz7_7 : w6.cell? ⟨gb205, 7, none⟩ = some (.int .i64 0) := (blk_cell BK205.out 7).trans rfl; have hcz7_8 : w6.cell? ⟨gb205, 8, none⟩ = some (.int .i64 0) := (blk_cell BK205.out 8).trans rfl; have hfz7_0 := blk_frozen BK205.out 0; have hfz7_1 := blk_frozen BK205.out 1; have hfz7_2 := blk_frozen BK205.out 2; have hfz7_3 := blk_frozen BK205.out 3; have hfz7_4 := blk_frozen BK205.out 4; have hfz7_5 := blk_frozen BK205.out 5; have hfz7_6 := blk_frozen BK205.out 6; have hfz7_7 := blk_frozen BK205.out 7; have hfz7_8 := blk_frozen BK205.out 8))
  refine bodyPost_ret (results_ct rfl _ _ gb205 45 #[.int .i64 0, .int .i64 0, .int .i64 0, .int .i64 0, .int .i64 0, .string (⟨#[]⟩ : ByteArray), .slice none 0 0, .int .i64 0, .int .i64 0] (0, 0) _ rfl (by (with_reducible repeat (first | refine blk_drewN ?_ _ | refine blk_drew ?_ | refine blk_alloc ?_ _)); refine blk_put (cs := #[.int .i64 0, .int .i64 0, .int .i64 0, .int .i64 0, .int .i64 0, .string (⟨#[]⟩ : ByteArray), .slice none 0 0, .int .i64 0, .int .i64 0]) ?_ 8 _ rfl; (with_reducible repeat (first | refine blk_drewN ?_ _ | refine blk_drew ?_ | refine blk_alloc ?_ _)); refine blk_put (cs := #[.int .i64 0, .int .i64 0, .int .i64 0, .int .i64 0, .int .i64 0, .string (⟨#[]⟩ : ByteArray), .slice none 0 0, .int .i64 0, .int .i64 0]) ?_ 7 _ rfl; (with_reducible repeat (first | refine blk_drewN ?_ _ | refine blk_drew ?_ | refine blk_alloc ?_ _)); refine blk_put (cs := #[.int .i64 0, .int .i64 0, .int .i64 0, .int .i64 0, .int .i64 0, .string (⟨#[]⟩ : ByteArray), .slice none 0 0, .int .i64 0, .int .i64 0]) ?_ 6 _ rfl; (with_reducible repeat (first | refine blk_drewN ?_ _ | refine blk_drew ?_ | refine blk_alloc ?_ _)); refine blk_put (cs := #[.int .i64 0, .int .i64 0, .int .i64 0, .int .i64 0, .int .i64 0, .string (⟨#[]⟩ : ByteArray), .slice none 0 0, .int .i64 0, .int .i64 0]) ?_ 5 _ rfl; (with_reducible repeat (first | refine blk_drewN ?_ _ | refine blk_drew ?_ | refine blk_alloc ?_ _)); refine blk_put (cs := #[.int .i64 0, .int .i64 0, .int .i64 0, .int .i64 0, .int .i64 0, .string (⟨#[]⟩ : ByteArray), .slice none 0 0, .int .i64 0, .int .i64 0]) ?_ 4 _ rfl; (with_reducible repeat (first | refine blk_drewN ?_ _ | refine blk_drew ?_ | refine blk_alloc ?_ _)); refine blk_put (cs := #[.int .i64 0, .int .i64 0, .int .i64 0, .int .i64 0, .int .i64 0, .string (⟨#[]⟩ : ByteArray), .slice none 0 0, .int .i64 0, .int .i64 0]) ?_ 3 _ rfl; (with_reducible repeat (first | refine blk_drewN ?_ _ | refine blk_drew ?_ | refine blk_alloc ?_ _)); refine blk_put (cs := #[.int .i64 0, .int .i64 0, .int .i64 0, .int .i64 0, .int .i64 0, .string (⟨#[]⟩ : ByteArray), .slice none 0 0, .int .i64 0, .int .i64 0]) ?_ 2 _ rfl; (with_reducible repeat (first | refine blk_drewN ?_ _ | refine blk_drew ?_ | refine blk_alloc ?_ _)); refine blk_put (cs := #[.int .i64 0, .int .i64 0, .int .i64 0, .int .i64 0, .int .i64 0, .string (⟨#[]⟩ : ByteArray), .slice none 0 0, .int .i64 0, .int .i64 0]) ?_ 1 _ rfl; (with_reducible repeat (first | refine blk_drewN ?_ _ | refine blk_drew ?_ | refine blk_alloc ?_ _)); refine blk_put (cs := #[.int .i64 0, .int .i64 0, .int .i64 0, .int .i64 0, .int .i64 0, .string (⟨#[]⟩ : ByteArray), .slice none 0 0, .int .i64 0, .int .i64 0]) ?_ 0 _ rfl; (with_reducible repeat (first | refine blk_drewN ?_ _ | refine blk_drew ?_ | refine blk_alloc ?_ _)); exact BK205.out) Try.underlying45 rfl (by kernel_rfl)) rfl ?_
  exact ⟨_, by first | rfl | (simp [errW_none, errW_some] <;> rfl) | (simp [*, errW_none, errW_some] <;> rfl), by first | exact Kd.R_nil _ _ _ _ _ | exact Kd.N_nil _ _ _ _ _ | exact Kd.V_nil _ _ _ _ _ | exact Kd.Q_nil _ _ _ _ _ | exact Kd.S_nil _ _ _ _ _, by repeat (first | (with_reducible first | exact HB.out | apply below_alloc | apply pw_below_drewN | apply below_drew1 | refine below_set ?_ GE205.out) | exact HB.out)⟩
 rw [if_neg c4] at H
 have c4b0 : decide (t207 < 0) = false := decide_eq_false c4
 clear c4
 by_cases c8 : 0 < (t206.length : Int)
 rotate_left
 ·rw [if_neg c8] at H
  exact absurd H (by simp)

 rw [if_pos c8] at H
 have c8b0 : decide (0 < (t206.length : Int)) = true := decide_eq_true c8
 have c8b1 : decide (0 < t206.length) = true := decide_eq_true (by omega)
 clear c8
 by_cases c9 : 1 < (t206.length : Int)
 rotate_left
 ·rw [if_neg c9] at H
  exact absurd H (by simp)
 rw [if_pos c9] at H
 have c9b0 : decide (1 < (t206.length : Int)) = true := decide_eq_true c9
 have c9b1 : decide (1 < t206.length) = true := decide_eq_true (by omega)
 clear c9
 by_cases c10 : 2 < (t206.length : Int)
 rotate_left
 ·rw [if_neg c10] at H
  exact absurd H (by simp)
 rw [if_pos c10] at H
 have c10b0 : decide (2 < (t206.length : Int)) = true := decide_eq_true c10
 have c10b1 : decide (2 < t206.length) = true := decide_eq_true (by omega)
 clear c10
 by_cases c11 : 3 < (t206.length : Int)
 rotate_left
 ·rw [if_neg c11] at H
  exact absurd H (by simp)
 rw [if_pos c11] at H
 have c11b0 : decide (3 < (t206.length : Int)) = true := decide_eq_true c11
 have c11b1 : decide (3 < t206.length) = true := decide_eq_true (by omega)
 clear c11
 by_cases c12 : 4 < (t206.length : Int)
 rotate_left
 ·rw [if_neg c12] at H
  exact absurd H (by simp)
 rw [if_pos c12] at H
 have c12b0 : decide (4 < (t206.length : Int)) = true := decide_eq_true c12
 have c12b1 : decide (4 < t206.length) = true := decide_eq_true (by omega)
 clear c12
 by_cases c13 : 5 < (t206.length : Int)
 rotate_left
 ·rw [if_neg c13] at H
  exact absurd H (by simp)
 rw [if_pos c13] at H
 have c13b0 : decide (5 < (t206.length : Int)) = true := decide_eq_true c13
 have c13b1 : decide (5 < t206.length) = true := decide_eq_true (by omega)
 clear c13
 by_cases c14 : 6 < (t206.length : Int)
 rotate_left
 ·rw [if_neg c14] at H
  exact absurd H (by simp)
 rw [if_pos c14] at H
 have c14b0 : decide (6 < (t206.length : Int)) = true := decide_eq_true c14
 have c14b1 : decide (6 < t206.length) = true := decide_eq_true (by omega)
 clear c14
 replace H := Option.bind_eq_some_iff.mp H
 obtain ⟨⟨t218, t219⟩, A150, H⟩ := H
 replace H : (if t219 < 0 then (some (rd t206 0, rd t206 1, rd t206 2, rd t206 3, rd t206 4, (⟨#[]⟩ : ByteArray), ([] : List (S68)), rd t206 5, rd t206 6, (-1))) else ((spec_l8Vars.f k a0 t219 1).bind fun bt220 => (if bt220.2 < 0 then (spec_l8Inode.j0 k a0 bt220.2 bt220.1 true (rd t206 0) (rd t206 1) (rd t206 2) (rd t206 3) (rd t206 4) t218 (rd t206 5) (rd t206 6)) else (if 0 < (bt220.1.length : Int) then (spec_l8Inode.j0 k a0 bt220.2 bt220.1 (decide ((rd bt220.1 0) > 12)) (rd t206 0) (rd t206 1) (rd t206 2) (rd t206 3) (rd t206 4) t218 (rd t206 5) (rd t206 6)) else (none))))) = some (r1, r2, r3, r4, r5, r6, r7, r8, r9, r10) := H
 have A15 := Aside0.mk A150
 clear A150
 have HH := Aside0.mk H
 clear H
 go_enter Try.func56, Try.ntmps56
 try go_wp2_with (first | ((with_reducible refine gate_dst (N := 4) rfl ?_); refine box_event ?hg (N := 4) ?hd (cs := #[.int .i64 0, .int .i64 0, .int .i64 0, .int .i64 0, .int .i64 0, .string (⟨#[]⟩ : ByteArray), .slice none 0 0, .int .i64 0, .int .i64 0]) (t := 45) ?hr ?_; (case hd => rfl); (case hg => rfl); (case hr => first | (go_simp; done) | (go_simp; rfl)); intro gb205 hg w37 hbox hb; have n0_ := Aside0.mk (below_step (by repeat (first | (with_reducible first | exact HB.out | apply below_alloc | apply pw_below_drewN | apply below_drew1) | exact HB.out)) hb); have n1_ := Aside0.mk (hbox); have n2_ := Aside0.mk ((by rw [hg]; exact (below_size (by repeat (first | (with_reducible first | exact HB.out | apply below_alloc | apply pw_below_drewN | apply below_drew1) | exact HB.out))) : w.heap.size ≤ gb205)); have n3_ := Aside0.mk ((by rw [hg]; exact (below_size (by repeat (first | (with_reducible first | exact HB.out | apply below_alloc | apply pw_below_drewN | apply below_drew1) | exact HB.out))) : w.heap.size ≤ gb205)); clear HB; have HB := n0_; have BK205 := n1_; have GW205 := n2_; have GE205 := n3_; clear n0_ n1_ n2_ n3_; clear hb hbox hg) | ((with_reducible refine gate_callee (f := 55) rfl ?_); refine goesL_ (some 18) rfl rfl Try.func55 (by kernel_rfl) rfl #[.string a0, .int .i64 a1, .int .i64 7] rfl (by (try simp only [List.map_toArray, List.map_cons, List.map_nil]); first | done | rfl | (simp only [List.length_drop, List.length_take]; rfl)) ?_; (with_reducible refine (spec_l8Vars.calls k a0 a1 7 t206 t207 _ A3.out).mono ?_); rintro e w38 ⟨v208, rfl, ho0, hb⟩; refine ⟨_, rfl, ?_⟩; have n0_ := Aside0.mk (Kd.R_lower ho0 (below_size (by repeat (first | (with_reducible first | exact HB.out | apply below_alloc | apply pw_below_drewN | apply below_drew1 | refine below_set ?_ GE205.out) | exact HB.out)))); have n1_ := Aside0.mk (blk_below (g := gb205) (o := .cells #[.int .i64 0, .int .i64 0, .int .i64 0, .int .i64 0, .int .i64 0, .string (⟨#[]⟩ : ByteArray), .slice none 0 0, .int .i64 0, .int .i64 0] 45 (0, 0)) (by (with_reducible repeat (first | refine blk_drewN ?_ _ | refine blk_drew ?_ | refine blk_alloc ?_ _)); exact BK205.out) hb); have n2_ := Aside0.mk (below_step (by repeat (first | (with_reducible first | exact HB.out | apply below_alloc | apply pw_below_drewN | apply below_drew1 | refine below_set ?_ GE205.out) | exact HB.out)) hb); clear BK205; clear HB; have HO209 := n0_; have BK205 := n1_; have HB := n2_; clear n0_ n1_ n2_; (try clear hb); (try clear hb2); (try clear hk); (try clear hi); (try clear ho0)))
 have n0_ := Aside0.mk (Kd.R_drew HO209.out)
 have n1_ := Aside0.mk (blk_drew BK205.out)
 have n2_ := Aside0.mk (below_drew1 HB.out)
 clear HO209
 clear BK205
 clear HB
 have HO209 := n0_
 have BK205 := n1_
 have HB := n2_
 clear n0_ n1_ n2_
 obtain ⟨Ao40, co40, eo40⟩ := Kd.R_slice HO209.out
 (first | subst eo40 | (injection eo40 with f1_ f2_ f3_; have f4_ := f1_.symm; have f5_ := f3_.symm; clear f1_ f2_ f3_; subst f4_; subst f5_))
 have p210 : 0 ≤ (0 : Int) := (by omega)
 have q210 : 0 < (t206.length : Int) := of_decide_eq_true (by first | (with_reducible assumption) | assumption)
 obtain ⟨ad210, e210, hx210_0⟩ := Kd.at_int (Kd.R_reads' HO209.out).2.2 0 p210 q210
 cases e210
 have qi210 : (0 < t206.length) = True := eq_true (by omega)
 (try rw [show ((0 : Int)).toNat = 0 from rfl] at hx210_0)
 (try rw [Addr.add_zero'] at hx210_0)
 replace p210 := eq_true p210
 replace q210 := eq_true q210
 have p211 : 0 ≤ (1 : Int) := (by omega)
 have q211 : 1 < (t206.length : Int) := of_decide_eq_true (by first | (with_reducible assumption) | assumption)
 obtain ⟨ad211, e211, hx211_0⟩ := Kd.at_int (Kd.R_reads' HO209.out).2.2 1 p211 q211
 obtain rfl : ad210 = ad211 := (by injection e211)
 (try simp only [show (1 : Int).toNat = 1 from rfl, Nat.reduceMul, Nat.reduceEqDiff, Go.Addr.add, ↓reduceIte] at hx211_0)
 have qi211 : (1 < t206.length) = True := eq_true (by omega)
 (try rw [show ((1 : Int)).toNat = 1 from rfl] at hx211_0)
 replace p211 := eq_true p211
 replace q211 := eq_true q211
 have p212 : 0 ≤ (2 : Int) := (by omega)
 have q212 : 2 < (t206.length : Int) := of_decide_eq_true (by first | (with_reducible assumption) | assumption)
 obtain ⟨ad212, e212, hx212_0⟩ := Kd.at_int (Kd.R_reads' HO209.out).2.2 2 p212 q212
 obtain rfl : ad210 = ad212 := (by injection e212)
 (try simp only [show (2 : Int).toNat = 2 from rfl, Nat.reduceMul, Nat.reduceEqDiff, Go.Addr.add, ↓reduceIte] at hx212_0)
 have qi212 : (2 < t206.length) = True := eq_true (by omega)
 (try rw [show ((2 : Int)).toNat = 2 from rfl] at hx212_0)
 replace p212 := eq_true p212
 replace q212 := eq_true q212
 have p213 : 0 ≤ (3 : Int) := (by omega)
 have q213 : 3 < (t206.length : Int) := of_decide_eq_true (by first | (with_reducible assumption) | assumption)
 obtain ⟨ad213, e213, hx213_0⟩ := Kd.at_int (Kd.R_reads' HO209.out).2.2 3 p213 q213
 obtain rfl : ad210 = ad213 := (by injection e213)
 (try simp only [show (3 : Int).toNat = 3 from rfl, Nat.reduceMul, Nat.reduceEqDiff, Go.Addr.add, ↓reduceIte] at hx213_0)
 have qi213 : (3 < t206.length) = True := eq_true (by omega)
 (try rw [show ((3 : Int)).toNat = 3 from rfl] at hx213_0)
 replace p213 := eq_true p213
 replace q213 := eq_true q213
 have p214 : 0 ≤ (4 : Int) := (by omega)
 have q214 : 4 < (t206.length : Int) := of_decide_eq_true (by first | (with_reducible assumption) | assumption)
 obtain ⟨ad214, e214, hx214_0⟩ := Kd.at_int (Kd.R_reads' HO209.out).2.2 4 p214 q214
 obtain rfl : ad210 = ad214 := (by injection e214)
 (try simp only [show (4 : Int).toNat = 4 from rfl, Nat.reduceMul, Nat.reduceEqDiff, Go.Addr.add, ↓reduceIte] at hx214_0)
 have qi214 : (4 < t206.length) = True := eq_true (by omega)
 (try rw [show ((4 : Int)).toNat = 4 from rfl] at hx214_0)
 replace p214 := eq_true p214
 replace q214 := eq_true q214
 have p215 : 0 ≤ (5 : Int) := (by omega)
 have q215 : 5 < (t206.length : Int) := of_decide_eq_true (by first | (with_reducible assumption) | assumption)
 obtain ⟨ad215, e215, hx215_0⟩ := Kd.at_int (Kd.R_reads' HO209.out).2.2 5 p215 q215
 obtain rfl : ad210 = ad215 := (by injection e215)
 (try simp only [show (5 : Int).toNat = 5 from rfl, Nat.reduceMul, Nat.reduceEqDiff, Go.Addr.add, ↓reduceIte] at hx215_0)
 have qi215 : (5 < t206.length) = True := eq_true (by omega)
 (try rw [show ((5 : Int)).toNat = 5 from rfl] at hx215_0)
 replace p215 := eq_true p215
 replace q215 := eq_true q215
 have p216 : 0 ≤ (6 : Int) := (by omega)
 have q216 : 6 < (t206.length : Int) := of_decide_eq_true (by first | (with_reducible assumption) | assumption)
 obtain ⟨ad216, e216, hx216_0⟩ := Kd.at_int (Kd.R_reads' HO209.out).2.2 6 p216 q216
 obtain rfl : ad210 = ad216 := (by injection e216)
 (try simp only [show (6 : Int).toNat = 6 from rfl, Nat.reduceMul, Nat.reduceEqDiff, Go.Addr.add, ↓reduceIte] at hx216_0)
 have qi216 : (6 < t206.length) = True := eq_true (by omega)
 (try rw [show ((6 : Int)).toNat = 6 from rfl] at hx216_0)
 replace p216 := eq_true p216
 replace q216 := eq_true q216
 refine start_ (n := 24) (S := fun w' => w'.cell? ad210 = some (.int .i64 (rd t206 0)) ∧ w'.cell? ⟨ad210.block, ad210.off + 1, none⟩ = some (.int .i64 (rd t206 1)) ∧ w'.cell? ⟨ad210.block, ad210.off + 2, none⟩ = some (.int .i64 (rd t206 2)) ∧ w'.cell? ⟨ad210.block, ad210.off + 3, none⟩ = some (.int .i64 (rd t206 3)) ∧ w'.cell? ⟨ad210.block, ad210.off + 4, none⟩ = some (.int .i64 (rd t206 4)) ∧ w'.cell? ⟨ad210.block, ad210.off + 5, none⟩ = some (.int .i64 (rd t206 5)) ∧ w'.cell? ⟨ad210.block, ad210.off + 6, none⟩ = some (.int .i64 (rd t206 6))) (ds := []) #[false, false, false, false, false, false, false, false, false, false, false, false, false, false, false, false, false, false, false, false, false, false, false, false] (by kernel_rfl) rfl rfl ⟨hx210_0, hx211_0, hx212_0, hx213_0, hx214_0, hx215_0, hx216_0⟩ (fun hHeld => ?_); refine with_tabW spec_l8Inode.tab4 spec_l8Inode.bits4 (fun HT_ HW_ => ?_)
 generalize w38.drew = w39 at HO209 BK205 HB hx210_0 hx211_0 hx212_0 hx213_0 hx214_0 hx215_0 hx216_0 hHeld ⊢
 refine pure_ (i := 0) (N := some 24) (v := ?_) (a' := ?_) #[true, false, false, false, false, false, false, false, false, false, false, false, false, false, false, false, false, false, false, false, false, false, false, false] rfl rfl (any_of HT_.out (by kernel_rfl)) (fun _ _ _ h => h) (Or.inl ⟨by rfl, ?_⟩) ?_ ?_
 rotate_left
 ·intro w'
  go_simp
  with_reducible rfl
 rotate_left
 ·simp only [Act.put, List.setIfInBounds_toArray, List.set_cons_zero, List.set_cons_succ, i64_w, i32_w]
  rfl
 refine pure_ (i := 1) (N := some 25) (v := ?_) (a' := ?_) #[true, true, false, false, false, false, false, false, false, false, false, false, false, false, false, false, false, false, false, false, false, false, false, false] rfl rfl (any_of HT_.out (by kernel_rfl)) (fun _ _ _ h => h) (Or.inl ⟨by rfl, ?_⟩) ?_ ?_
 rotate_left
 ·intro w'
  go_simp
  with_reducible rfl
 rotate_left
 ·simp only [Act.put, List.setIfInBounds_toArray, List.set_cons_zero, List.set_cons_succ, i64_w, i32_w]
  rfl
 refine pure_ (i := 3) (N := some 27) (v := ?_) (a' := ?_) #[true, true, false, true, false, false, false, false, false, false, false, false, false, false, false, false, false, false, false, false, false, false, false, false] rfl rfl (any_of HT_.out (by kernel_rfl)) (fun _ _ _ h => h) (Or.inl ⟨by rfl, ?_⟩) ?_ ?_
 rotate_left
 ·intro w'
  go_simp
  with_reducible rfl
 rotate_left
 ·simp only [Act.put, List.setIfInBounds_toArray, List.set_cons_zero, List.set_cons_succ, i64_w, i32_w]
  rfl
 refine pure_ (i := 4) (N := some 28) (v := ?_) (a' := ?_) #[true, true, false, true, true, false, false, false, false, false, false, false, false, false, false, false, false, false, false, false, false, false, false, false] rfl rfl (any_of HT_.out (by kernel_rfl)) (fun _ _ _ h => h) (Or.inl ⟨by rfl, ?_⟩) ?_ ?_
 rotate_left
 ·intro w'
  go_simp
  with_reducible rfl
 rotate_left
 ·simp only [Act.put, List.setIfInBounds_toArray, List.set_cons_zero, List.set_cons_succ, i64_w, i32_w]
  rfl
 refine pure_ (i := 6) (N := some 30) (v := ?_) (a' := ?_) #[true, true, false, true, true, false, true, false, false, false, false, false, false, false, false, false, false, false, false, false, false, false, false, false] rfl rfl (any_of HT_.out (by kernel_rfl)) (fun _ _ _ h => h) (Or.inl ⟨by rfl, ?_⟩) ?_ ?_
 rotate_left
 ·intro w'
  go_simp
  with_reducible rfl
 rotate_left
 ·simp only [Act.put, List.setIfInBounds_toArray, List.set_cons_zero, List.set_cons_succ, i64_w, i32_w]
  rfl
 refine pure_ (i := 7) (N := some 31) (v := ?_) (a' := ?_) #[true, true, false, true, true, false, true, true, false, false, false, false, false, false, false, false, false, false, false, false, false, false, false, false] rfl rfl (any_of HT_.out (by kernel_rfl)) (fun _ _ _ h => h) (Or.inl ⟨by rfl, ?_⟩) ?_ ?_
 rotate_left
 ·intro w'
  go_simp
  with_reducible rfl
 rotate_left
 ·simp only [Act.put, List.setIfInBounds_toArray, List.set_cons_zero, List.set_cons_succ, i64_w, i32_w]
  rfl
 refine pure_ (i := 9) (N := some 33) (v := ?_) (a' := ?_) #[true, true, false, true, true, false, true, true, false, true, false, false, false, false, false, false, false, false, false, false, false, false, false, false] rfl rfl (any_of HT_.out (by kernel_rfl)) (fun _ _ _ h => h) (Or.inl ⟨by rfl, ?_⟩) ?_ ?_
 rotate_left
 ·intro w'
  go_simp
  with_reducible rfl
 rotate_left
 ·simp only [Act.put, List.setIfInBounds_toArray, List.set_cons_zero, List.set_cons_succ, i64_w, i32_w]
  rfl
 refine pure_ (i := 10) (N := some 34) (v := ?_) (a' := ?_) #[true, true, false, true, true, false, true, true, false, true, true, false, false, false, false, false, false, false, false, false, false, false, false, false] rfl rfl (any_of HT_.out (by kernel_rfl)) (fun _ _ _ h => h) (Or.inl ⟨by rfl, ?_⟩) ?_ ?_
 rotate_left
 ·intro w'
  go_simp
  with_reducible rfl
 rotate_left
 ·simp only [Act.put, List.setIfInBounds_toArray, List.set_cons_zero, List.set_cons_succ, i64_w, i32_w]
  rfl
 refine pure_ (i := 12) (N := some 36) (v := ?_) (a' := ?_) #[true, true, false, true, true, false, true, true, false, true, true, false, true, false, false, false, false, false, false, false, false, false, false, false] rfl rfl (any_of HT_.out (by kernel_rfl)) (fun _ _ _ h => h) (Or.inl ⟨by rfl, ?_⟩) ?_ ?_
 rotate_left
 ·intro w'
  go_simp
  with_reducible rfl
 rotate_left
 ·simp only [Act.put, List.setIfInBounds_toArray, List.set_cons_zero, List.set_cons_succ, i64_w, i32_w]
  rfl
 refine pure_ (i := 13) (N := some 37) (v := ?_) (a' := ?_) #[true, true, false, true, true, false, true, true, false, true, true, false, true, true, false, false, false, false, false, false, false, false, false, false] rfl rfl (any_of HT_.out (by kernel_rfl)) (fun _ _ _ h => h) (Or.inl ⟨by rfl, ?_⟩) ?_ ?_
 rotate_left
 ·intro w'
  go_simp
  with_reducible rfl
 rotate_left
 ·simp only [Act.put, List.setIfInBounds_toArray, List.set_cons_zero, List.set_cons_succ, i64_w, i32_w]
  rfl
 refine pure_ (i := 15) (N := some 39) (v := ?_) (a' := ?_) #[true, true, false, true, true, false, true, true, false, true, true, false, true, true, false, true, false, false, false, false, false, false, false, false] rfl rfl (any_of HT_.out (by kernel_rfl)) (fun _ _ _ h => h) (Or.inl ⟨by rfl, ?_⟩) ?_ ?_
 rotate_left
 ·intro w'
  go_simp
  with_reducible rfl
 rotate_left
 ·simp only [Act.put, List.setIfInBounds_toArray, List.set_cons_zero, List.set_cons_succ, i64_w, i32_w]
  rfl
 refine pure_ (i := 16) (N := some 40) (v := ?_) (a' := ?_) #[true, true, false, true, true, false, true, true, false, true, true, false, true, true, false, true, true, false, false, false, false, false, false, false] rfl rfl (any_of HT_.out (by kernel_rfl)) (fun _ _ _ h => h) (Or.inl ⟨by rfl, ?_⟩) ?_ ?_
 rotate_left
 ·intro w'
  go_simp
  with_reducible rfl
 rotate_left
 ·simp only [Act.put, List.setIfInBounds_toArray, List.set_cons_zero, List.set_cons_succ, i64_w, i32_w]
  rfl
 refine pure_ (i := 18) (N := some 42) (v := ?_) (a' := ?_) #[true, true, false, true, true, false, true, true, false, true, true, false, true, true, false, true, true, false, true, false, false, false, false, false] rfl rfl (any_of HT_.out (by kernel_rfl)) (fun _ _ _ h => h) (Or.inl ⟨by rfl, ?_⟩) ?_ ?_
 rotate_left
 ·intro w'
  go_simp
  with_reducible rfl
 rotate_left
 ·simp only [Act.put, List.setIfInBounds_toArray, List.set_cons_zero, List.set_cons_succ, i64_w, i32_w]
  rfl
 refine pure_ (i := 19) (N := some 43) (v := ?_) (a' := ?_) #[true, true, false, true, true, false, true, true, false, true, true, false, true, true, false, true, true, false, true, true, false, false, false, false] rfl rfl (any_of HT_.out (by kernel_rfl)) (fun _ _ _ h => h) (Or.inl ⟨by rfl, ?_⟩) ?_ ?_
 rotate_left
 ·intro w'
  go_simp
  with_reducible rfl
 rotate_left
 ·simp only [Act.put, List.setIfInBounds_toArray, List.set_cons_zero, List.set_cons_succ, i64_w, i32_w]
  rfl
 refine take_ (i := 2) (N := some 26) (v := ?_) (a' := ?_) #[true, true, true, true, true, false, true, true, false, true, true, false, true, true, false, true, true, false, true, true, false, false, false, false] rfl rfl (take_ofW HT_.out HW_.out (by kernel_rfl)) (fun _ _ _ h => h) (Or.inl ⟨by rfl, ?_⟩) hHeld ?_ ?_
 rotate_left
 ·rintro w' ⟨s0, s1, s2, s3, s4, s5, s6⟩
  go_simp
  with_reducible rfl
 rotate_left
 ·simp only [Act.put, List.setIfInBounds_toArray, List.set_cons_zero, List.set_cons_succ, i64_w, i32_w]
  rfl
 refine take_ (i := 5) (N := some 29) (v := ?_) (a' := ?_) #[true, true, true, true, true, true, true, true, false, true, true, false, true, true, false, true, true, false, true, true, false, false, false, false] rfl rfl (take_ofW HT_.out HW_.out (by kernel_rfl)) (fun _ _ _ h => h) (Or.inl ⟨by rfl, ?_⟩) hHeld ?_ ?_
 rotate_left
 ·rintro w' ⟨s0, s1, s2, s3, s4, s5, s6⟩
  go_simp
  with_reducible rfl
 rotate_left
 ·simp only [Act.put, List.setIfInBounds_toArray, List.set_cons_zero, List.set_cons_succ, i64_w, i32_w]
  rfl
 refine take_ (i := 8) (N := some 32) (v := ?_) (a' := ?_) #[true, true, true, true, true, true, true, true, true, true, true, false, true, true, false, true, true, false, true, true, false, false, false, false] rfl rfl (take_ofW HT_.out HW_.out (by kernel_rfl)) (fun _ _ _ h => h) (Or.inl ⟨by rfl, ?_⟩) hHeld ?_ ?_
 rotate_left
 ·rintro w' ⟨s0, s1, s2, s3, s4, s5, s6⟩
  go_simp
  with_reducible rfl
 rotate_left
 ·simp only [Act.put, List.setIfInBounds_toArray, List.set_cons_zero, List.set_cons_succ, i64_w, i32_w]
  rfl
 refine take_ (i := 11) (N := some 35) (v := ?_) (a' := ?_) #[true, true, true, true, true, true, true, true, true, true, true, true, true, true, false, true, true, false, true, true, false, false, false, false] rfl rfl (take_ofW HT_.out HW_.out (by kernel_rfl)) (fun _ _ _ h => h) (Or.inl ⟨by rfl, ?_⟩) hHeld ?_ ?_
 rotate_left
 ·rintro w' ⟨s0, s1, s2, s3, s4, s5, s6⟩
  go_simp
  with_reducible rfl
 rotate_left
 ·simp only [Act.put, List.setIfInBounds_toArray, List.set_cons_zero, List.set_cons_succ, i64_w, i32_w]
  rfl
 refine take_ (i := 14) (N := some 38) (v := ?_) (a' := ?_) #[true, true, true, true, true, true, true, true, true, true, true, true, true, true, true, true, true, false, true, true, false, false, false, false] rfl rfl (take_ofW HT_.out HW_.out (by kernel_rfl)) (fun _ _ _ h => h) (Or.inl ⟨by rfl, ?_⟩) hHeld ?_ ?_
 rotate_left
 ·rintro w' ⟨s0, s1, s2, s3, s4, s5, s6⟩
  go_simp
  with_reducible rfl
 rotate_left
 ·simp only [Act.put, List.setIfInBounds_toArray, List.set_cons_zero, List.set_cons_succ, i64_w, i32_w]
  rfl
 refine take_ (i := 17) (N := some 41) (v := ?_) (a' := ?_) #[true, true, true, true, true, true, true, true, true, true, true, true, true, true, true, true, true, true, true, true, false, false, false, false] rfl rfl (take_ofW HT_.out HW_.out (by kernel_rfl)) (fun _ _ _ h => h) (Or.inl ⟨by rfl, ?_⟩) hHeld ?_ ?_
 rotate_left
 ·rintro w' ⟨s0, s1, s2, s3, s4, s5, s6⟩
  go_simp
  with_reducible rfl
 rotate_left
 ·simp only [Act.put, List.setIfInBounds_toArray, List.set_cons_zero, List.set_cons_succ, i64_w, i32_w]
  rfl
 refine take_ (i := 20) (N := some 44) (v := ?_) (a' := ?_) #[true, true, true, true, true, true, true, true, true, true, true, true, true, true, true, true, true, true, true, true, true, false, false, false] rfl rfl (take_ofW HT_.out HW_.out (by kernel_rfl)) (fun _ _ _ h => h) (Or.inl ⟨by rfl, ?_⟩) hHeld ?_ ?_
 rotate_left
 ·rintro w' ⟨s0, s1, s2, s3, s4, s5, s6⟩
  go_simp
  with_reducible rfl
 rotate_left
 ·simp only [Act.put, List.setIfInBounds_toArray, List.set_cons_zero, List.set_cons_succ, i64_w, i32_w]
  rfl
 refine pure_ (i := 21) (N := some 45) (v := ?_) (a' := ?_) #[true, true, true, true, true, true, true, true, true, true, true, true, true, true, true, true, true, true, true, true, true, true, false, false] rfl rfl (any_of HT_.out (by kernel_rfl)) (fun _ _ _ h => h) (Or.inl ⟨by rfl, ?_⟩) ?_ ?_
 rotate_left
 ·intro w'
  go_simp
  with_reducible rfl
 rotate_left
 ·simp only [Act.put, List.setIfInBounds_toArray, List.set_cons_zero, List.set_cons_succ, i64_w, i32_w]
  rfl
 refine one_ (i := 22) (N := some 8) #[true, true, true, true, true, true, true, true, true, true, true, true, true, true, true, true, true, true, true, true, true, true, true, false] rfl rfl (one_of HT_.out (by kernel_rfl)) (by decide) (fun K hK => ?_)
 refine box_step ?hg (N := 8) ?hd (cs := #[.int .i64 0, .int .i64 0, .int .i64 0, .int .i64 0, .int .i64 0, .string (⟨#[]⟩ : ByteArray), .slice none 0 0, .int .i64 0, .int .i64 0]) (t := 45) ?hr ?_; (case hd => rfl); (case hg => rfl); (case hr => first | (go_simp; done) | (go_simp; rfl))
 intro gb217 hg w41 hbox hb
 have HS0_ := (hb.cell (World.block_lt_of_cell? _ _ (hHeld.1))).trans (hHeld.1)
 have HS1_ := (hb.cell (World.block_lt_of_cell? _ _ (hHeld.2.1))).trans (hHeld.2.1)
 have HS2_ := (hb.cell (World.block_lt_of_cell? _ _ (hHeld.2.2.1))).trans (hHeld.2.2.1)
 have HS3_ := (hb.cell (World.block_lt_of_cell? _ _ (hHeld.2.2.2.1))).trans (hHeld.2.2.2.1)
 have HS4_ := (hb.cell (World.block_lt_of_cell? _ _ (hHeld.2.2.2.2.1))).trans (hHeld.2.2.2.2.1)
 have HS5_ := (hb.cell (World.block_lt_of_cell? _ _ (hHeld.2.2.2.2.2.1))).trans (hHeld.2.2.2.2.2.1)
 have HS6_ := (hb.cell (World.block_lt_of_cell? _ _ (hHeld.2.2.2.2.2.2))).trans (hHeld.2.2.2.2.2.2)
 have n0_ := Aside0.mk (Kd.R_below (by (with_reducible repeat (first | apply Kd.R_alloc | apply Kd.R_drewN | apply Kd.R_drew)); exact HO209.out) hb)
 have n1_ := Aside0.mk (blk_below (g := gb205) (o := .cells #[.int .i64 0, .int .i64 0, .int .i64 0, .int .i64 0, .int .i64 0, .string (⟨#[]⟩ : ByteArray), .slice none 0 0, .int .i64 0, .int .i64 0] 45 (0, 0)) (by (with_reducible repeat (first | refine blk_drewN ?_ _ | refine blk_drew ?_ | refine blk_alloc ?_ _)); exact BK205.out) hb)
 have n2_ := Aside0.mk (below_step (by repeat (first | (with_reducible first | exact HB.out | apply below_alloc | apply pw_below_drewN | apply below_drew1 | refine below_set ?_ GE205.out) | exact HB.out)) hb)
 have n3_ := Aside0.mk (hbox)
 have n4_ := Aside0.mk ((by rw [hg]; exact (below_size (by repeat (first | (with_reducible first | exact HB.out | apply below_alloc | apply pw_below_drewN | apply below_drew1 | refine below_set ?_ GE205.out) | exact HB.out))) : w.heap.size ≤ gb217))
 have n5_ := Aside0.mk ((by rw [hg]; exact (below_size (by repeat (first | (with_reducible first | exact HB.out | apply below_alloc | apply pw_below_drewN | apply below_drew1 | refine below_set ?_ GE205.out) | exact HB.out))) : w.heap.size ≤ gb217))
 have n6_ := Aside0.mk ((by rw [hg]; exact Nat.ne_of_lt (blk_lt (g := gb205) (o := .cells #[.int .i64 0, .int .i64 0, .int .i64 0, .int .i64 0, .int .i64 0, .string (⟨#[]⟩ : ByteArray), .slice none 0 0, .int .i64 0, .int .i64 0] 45 (0, 0)) (by (with_reducible repeat (first | refine blk_drewN ?_ _ | refine blk_drew ?_ | refine blk_alloc ?_ _)); exact BK205.out)) : gb205 ≠ gb217))
 have n7_ := Aside0.mk ((by rw [hg]; exact Nat.ne_of_gt (blk_lt (g := gb205) (o := .cells #[.int .i64 0, .int .i64 0, .int .i64 0, .int .i64 0, .int .i64 0, .string (⟨#[]⟩ : ByteArray), .slice none 0 0, .int .i64 0, .int .i64 0] 45 (0, 0)) (by (with_reducible repeat (first | refine blk_drewN ?_ _ | refine blk_drew ?_ | refine blk_alloc ?_ _)); exact BK205.out)) : gb217 ≠ gb205))
 clear HO209
 clear BK205
 clear HB
 have HO209 := n0_
 have BK205 := n1_
 have HB := n2_
 have BK217 := n3_
 have GW217 := n4_
 have GE217 := n5_
 have NB205_217 := n6_
 have NB217_205 := n7_
 clear n0_ n1_ n2_ n3_ n4_ n5_ n6_ n7_
 clear hb hbox hg
 refine hK.out _ _ ⟨HS0_, HS1_, HS2_, HS3_, HS4_, HS5_, HS6_⟩ (fun hHeld => ?_)
 clear hK K
 refine norm_ (a' := ?_) ?_ ?_
 rotate_left
 ·show Act.put _ (some 8) _ = _
  simp only [Act.put, List.setIfInBounds_toArray, List.set_cons_zero, List.set_cons_succ, i64_w, i32_w]
  rfl
 refine one_ (i := 23) (N := none) #[true, true, true, true, true, true, true, true, true, true, true, true, true, true, true, true, true, true, true, true, true, true, true, true] rfl rfl (one_of HT_.out (by kernel_rfl)) (by decide) (fun K hK => ?_)
 have hs42 : w41.cell? ⟨gb217, 0, none⟩ = some (.int .i64 0) := (blk_cell BK217.out 0).trans rfl
 have hfs42 := blk_frozen BK217.out 0
 have hns42_0 := NB205_217.out
 have hms42_0 := NB217_205.out
 have hs43 : w41.cell? ⟨gb217, 1, none⟩ = some (.int .i64 0) := (blk_cell BK217.out 1).trans rfl
 have hfs43 := blk_frozen BK217.out 1
 have hns43_0 := NB205_217.out
 have hms43_0 := NB217_205.out
 have hs44 : w41.cell? ⟨gb217, 2, none⟩ = some (.int .i64 0) := (blk_cell BK217.out 2).trans rfl
 have hfs44 := blk_frozen BK217.out 2
 have hns44_0 := NB205_217.out
 have hms44_0 := NB217_205.out
 have hs45 : w41.cell? ⟨gb217, 3, none⟩ = some (.int .i64 0) := (blk_cell BK217.out 3).trans rfl
 have hfs45 := blk_frozen BK217.out 3
 have hns45_0 := NB205_217.out
 have hms45_0 := NB217_205.out
 have hs46 : w41.cell? ⟨gb217, 4, none⟩ = some (.int .i64 0) := (blk_cell BK217.out 4).trans rfl
 have hfs46 := blk_frozen BK217.out 4
 have hns46_0 := NB205_217.out
 have hms46_0 := NB217_205.out
 have hs47 : w41.cell? ⟨gb217, 5, none⟩ = some (.string (⟨#[]⟩ : ByteArray)) := (blk_cell BK217.out 5).trans rfl
 have hfs47 := blk_frozen BK217.out 5
 have hns47_0 := NB205_217.out
 have hms47_0 := NB217_205.out
 have hs48 : w41.cell? ⟨gb217, 6, none⟩ = some (.slice none 0 0) := (blk_cell BK217.out 6).trans rfl
 have hfs48 := blk_frozen BK217.out 6
 have hns48_0 := NB205_217.out
 have hms48_0 := NB217_205.out
 have hs49 : w41.cell? ⟨gb217, 7, none⟩ = some (.int .i64 0) := (blk_cell BK217.out 7).trans rfl
 have hfs49 := blk_frozen BK217.out 7
 have hns49_0 := NB205_217.out
 have hms49_0 := NB217_205.out
 have hs50 : w41.cell? ⟨gb217, 8, none⟩ = some (.int .i64 0) := (blk_cell BK217.out 8).trans rfl
 have hfs50 := blk_frozen BK217.out 8
 have hns50_0 := NB205_217.out
 have hms50_0 := NB217_205.out
 refine skip_ (w1 := ?_) (by rfl) rfl ?_ ?_
 rotate_left
 ·go_simp
  rfl
 have far_ := (Kd.own_blk (Kd.R_ne HO209.out BK217.out (by decide)))
 refine hK.out _ _ ⟨far9 (hHeld.1) far_ _ _ _ _ _ _ _ _ _, far9 (hHeld.2.1) far_ _ _ _ _ _ _ _ _ _, far9 (hHeld.2.2.1) far_ _ _ _ _ _ _ _ _ _, far9 (hHeld.2.2.2.1) far_ _ _ _ _ _ _ _ _ _, far9 (hHeld.2.2.2.2.1) far_ _ _ _ _ _ _ _ _ _, far9 (hHeld.2.2.2.2.2.1) far_ _ _ _ _ _ _ _ _ _, far9 (hHeld.2.2.2.2.2.2) far_ _ _ _ _ _ _ _ _ _⟩ (fun hHeld => ?_)
 clear hK K
 refine done_ (done_of HT_.out (by kernel_rfl)) ?_
 have H := HH.out
 clear HH
 by_cases c16 : t219 < 0
 ·rw [if_pos c16] at H
  have c16b0 : decide (t219 < 0) = true := decide_eq_true c16
  clear c16
  simp only [Option.some.injEq, Prod.mk.injEq] at H
  obtain ⟨rfl, rfl, rfl, rfl, rfl, rfl, rfl, rfl, rfl, rfl⟩ := H
  try go_wp2_with (first | ((with_reducible refine gate_callee (f := 74) rfl ?_); refine goesL_ (some 49) rfl rfl Try.func74 (by kernel_rfl) rfl #[.string a0, .int .i64 t207] rfl (by (try simp only [List.map_toArray, List.map_cons, List.map_nil]); first | done | rfl | (simp only [List.length_drop, List.length_take]; rfl)) ?_; (with_reducible refine (spec_l8Take.calls k a0 t207 t218 t219 _ A15.out).mono ?_); rintro e w31 ⟨rfl, hb⟩; refine ⟨_, rfl, ?_⟩; have n0_ := Aside0.mk (Kd.R_below (by (with_reducible repeat (first | apply Kd.R_alloc | apply Kd.R_drewN | apply Kd.R_drew)); exact (Kd.R_mono (Kd.R_far (p := ⟨gb217, 8, none⟩) (Kd.R_far (p := ⟨gb217, 7, none⟩) (Kd.R_far (p := ⟨gb217, 6, none⟩) (Kd.R_far (p := ⟨gb217, 5, none⟩) (Kd.R_far (p := ⟨gb217, 4, none⟩) (Kd.R_far (p := ⟨gb217, 3, none⟩) (Kd.R_far (p := ⟨gb217, 2, none⟩) (Kd.R_far (p := ⟨gb217, 1, none⟩) (Kd.R_far (p := ⟨gb217, 0, none⟩) (Kd.R_types HO209.out BK217.out (by decide)) (fun _ hk => hk.2) (.int .i64 (rd t206 0))) (fun _ hk => hk.2) (.int .i64 (rd t206 1))) (fun _ hk => hk.2) (.int .i64 (rd t206 2))) (fun _ hk => hk.2) (.int .i64 (rd t206 3))) (fun _ hk => hk.2) (.int .i64 (rd t206 4))) (fun _ hk => hk.2) (.string (⟨#[]⟩ : ByteArray))) (fun _ hk => hk.2) (.slice none 0 0)) (fun _ hk => hk.2) (.int .i64 (rd t206 5))) (fun _ hk => hk.2) (.int .i64 (rd t206 6))) (fun _ h_ => h_.1))) hb); have n1_ := Aside0.mk (blk_below (g := gb205) (o := .cells #[.int .i64 0, .int .i64 0, .int .i64 0, .int .i64 0, .int .i64 0, .string (⟨#[]⟩ : ByteArray), .slice none 0 0, .int .i64 0, .int .i64 0] 45 (0, 0)) (by (with_reducible repeat (first | refine blk_drewN ?_ _ | refine blk_drew ?_ | refine blk_alloc ?_ _)); refine blk_far ?_ NB205_217.out _; (with_reducible repeat (first | refine blk_drewN ?_ _ | refine blk_drew ?_ | refine blk_alloc ?_ _)); refine blk_far ?_ NB205_217.out _; (with_reducible repeat (first | refine blk_drewN ?_ _ | refine blk_drew ?_ | refine blk_alloc ?_ _)); refine blk_far ?_ NB205_217.out _; (with_reducible repeat (first | refine blk_drewN ?_ _ | refine blk_drew ?_ | refine blk_alloc ?_ _)); refine blk_far ?_ NB205_217.out _; (with_reducible repeat (first | refine blk_drewN ?_ _ | refine blk_drew ?_ | refine blk_alloc ?_ _)); refine blk_far ?_ NB205_217.out _; (with_reducible repeat (first | refine blk_drewN ?_ _ | refine blk_drew ?_ | refine blk_alloc ?_ _)); refine blk_far ?_ NB205_217.out _; (with_reducible repeat (first | refine blk_drewN ?_ _ | refine blk_drew ?_ | refine blk_alloc ?_ _)); refine blk_far ?_ NB205_217.out _; (with_reducible repeat (first | refine blk_drewN ?_ _ | refine blk_drew ?_ | refine blk_alloc ?_ _)); refine blk_far ?_ NB205_217.out _; (with_reducible repeat (first | refine blk_drewN ?_ _ | refine blk_drew ?_ | refine blk_alloc ?_ _)); refine blk_far ?_ NB205_217.out _; (with_reducible repeat (first | refine blk_drewN ?_ _ | refine blk_drew ?_ | refine blk_alloc ?_ _)); exact BK205.out) hb); have n2_ := Aside0.mk (blk_below (g := gb217) (o := .cells #[.int .i64 (rd t206 0), .int .i64 (rd t206 1), .int .i64 (rd t206 2), .int .i64 (rd t206 3), .int .i64 (rd t206 4), .string (⟨#[]⟩ : ByteArray), .slice none 0 0, .int .i64 (rd t206 5), .int .i64 (rd t206 6)] 45 (0, 0)) (by (with_reducible repeat (first | refine blk_drewN ?_ _ | refine blk_drew ?_ | refine blk_alloc ?_ _)); refine blk_put (cs := #[.int .i64 (rd t206 0), .int .i64 (rd t206 1), .int .i64 (rd t206 2), .int .i64 (rd t206 3), .int .i64 (rd t206 4), .string (⟨#[]⟩ : ByteArray), .slice none 0 0, .int .i64 (rd t206 5), .int .i64 0]) ?_ 8 _ rfl; (with_reducible repeat (first | refine blk_drewN ?_ _ | refine blk_drew ?_ | refine blk_alloc ?_ _)); refine blk_put (cs := #[.int .i64 (rd t206 0), .int .i64 (rd t206 1), .int .i64 (rd t206 2), .int .i64 (rd t206 3), .int .i64 (rd t206 4), .string (⟨#[]⟩ : ByteArray), .slice none 0 0, .int .i64 0, .int .i64 0]) ?_ 7 _ rfl; (with_reducible repeat (first | refine blk_drewN ?_ _ | refine blk_drew ?_ | refine blk_alloc ?_ _)); refine blk_put (cs := #[.int .i64 (rd t206 0), .int .i64 (rd t206 1), .int .i64 (rd t206 2), .int .i64 (rd t206 3), .int .i64 (rd t206 4), .string (⟨#[]⟩ : ByteArray), .slice none 0 0, .int .i64 0, .int .i64 0]) ?_ 6 _ rfl; (with_reducible repeat (first | refine blk_drewN ?_ _ | refine blk_drew ?_ | refine blk_alloc ?_ _)); refine blk_put (cs := #[.int .i64 (rd t206 0), .int .i64 (rd t206 1), .int .i64 (rd t206 2), .int .i64 (rd t206 3), .int .i64 (rd t206 4), .string (⟨#[]⟩ : ByteArray), .slice none 0 0, .int .i64 0, .int .i64 0]) ?_ 5 _ rfl; (with_reducible repeat (first | refine blk_drewN ?_ _ | refine blk_drew ?_ | refine blk_alloc ?_ _)); refine blk_put (cs := #[.int .i64 (rd t206 0), .int .i64 (rd t206 1), .int .i64 (rd t206 2), .int .i64 (rd t206 3), .int .i64 0, .string (⟨#[]⟩ : ByteArray), .slice none 0 0, .int .i64 0, .int .i64 0]) ?_ 4 _ rfl; (with_reducible repeat (first | refine blk_drewN ?_ _ | refine blk_drew ?_ | refine blk_alloc ?_ _)); refine blk_put (cs := #[.int .i64 (rd t206 0), .int .i64 (rd t206 1), .int .i64 (rd t206 2), .int .i64 0, .int .i64 0, .string (⟨#[]⟩ : ByteArray), .slice none 0 0, .int .i64 0, .int .i64 0]) ?_ 3 _ rfl; (with_reducible repeat (first | refine blk_drewN ?_ _ | refine blk_drew ?_ | refine blk_alloc ?_ _)); refine blk_put (cs := #[.int .i64 (rd t206 0), .int .i64 (rd t206 1), .int .i64 0, .int .i64 0, .int .i64 0, .string (⟨#[]⟩ : ByteArray), .slice none 0 0, .int .i64 0, .int .i64 0]) ?_ 2 _ rfl; (with_reducible repeat (first | refine blk_drewN ?_ _ | refine blk_drew ?_ | refine blk_alloc ?_ _)); refine blk_put (cs := #[.int .i64 (rd t206 0), .int .i64 0, .int .i64 0, .int .i64 0, .int .i64 0, .string (⟨#[]⟩ : ByteArray), .slice none 0 0, .int .i64 0, .int .i64 0]) ?_ 1 _ rfl; (with_reducible repeat (first | refine blk_drewN ?_ _ | refine blk_drew ?_ | refine blk_alloc ?_ _)); refine blk_put (cs := #[.int .i64 0, .int .i64 0, .int .i64 0, .int .i64 0, .int .i64 0, .string (⟨#[]⟩ : ByteArray), .slice none 0 0, .int .i64 0, .int .i64 0]) ?_ 0 _ rfl; (with_reducible repeat (first | refine blk_drewN ?_ _ | refine blk_drew ?_ | refine blk_alloc ?_ _)); exact BK217.out) hb); have n3_ := Aside0.mk (below_step (by repeat (first | (with_reducible first | exact HB.out | apply below_alloc | apply pw_below_drewN | apply below_drew1 | refine below_set ?_ GE205.out | refine below_set ?_ GE217.out) | exact HB.out)) hb); clear HO209; clear BK205; clear BK217; clear HB; have HO209 := n0_; have BK205 := n1_; have BK217 := n2_; have HB := n3_; clear n0_ n1_ n2_ n3_; (try clear hb); (try clear hb2); (try clear hk); (try clear hi); have hnb32 := NB217_205.out; have hnc32 := NB205_217.out; have hcz33_0 : w31.cell? ⟨gb217, 0, none⟩ = some (.int .i64 (rd t206 0)) := (blk_cell BK217.out 0).trans rfl; have hcz33_1 : w31.cell? ⟨gb217, 1, none⟩ = some (.int .i64 (rd t206 1)) := (blk_cell BK217.out 1).trans rfl; have hcz33_2 : w31.cell? ⟨gb217, 2, none⟩ = some (.int .i64 (rd t206 2)) := (blk_cell BK217.out 2).trans rfl; have hcz33_3 : w31.cell? ⟨gb217, 3, none⟩ = some (.int .i64 (rd t206 3)) := (blk_cell BK217.out 3).trans rfl; have hcz33_4 : w31.cell? ⟨gb217, 4, none⟩ = some (.int .i64 (rd t206 4)) := (blk_cell BK217.out 4).trans rfl; have hcz33_5 : w31.cell? ⟨gb217, 5, none⟩ = some (.string (⟨#[]⟩ : ByteArray)) := (blk_cell BK217.out 5).trans rfl; have hcz33_6 : w31.cell? ⟨gb217, 6, none⟩ = some (.slice none 0 0) := (blk_cell BK217.out 6).trans rfl; have hcz33_7 : w31.cell? ⟨gb217, 7, none⟩ = some (.int .i64 (rd t206 5)) := (blk_cell BK217.out 7).trans rfl; have hcz33_8 : w31.cell? ⟨gb217, 8, none⟩ = some (.int .i64 (rd t206 6)) := (blk_cell BK217.out 8).trans rfl; have hfz33_0 := blk_frozen BK217.out 0; have hfz33_1 := blk_frozen BK217.out 1; have hfz33_2 := blk_frozen BK217.out 2; have hfz33_3 := blk_frozen BK217.out 3; have hfz33_4 := blk_frozen BK217.out 4; have hfz33_5 := blk_frozen BK217.out 5; have hfz33_6 := blk_frozen BK217.out 6; have hfz33_7 := blk_frozen BK217.out 7; have hfz33_8 := blk_frozen BK217.out 8; have hcz34_0 : w31.cell? ⟨gb205, 0, none⟩ = some (.int .i64 0) := (blk_cell BK205.out 0).trans rfl; have hcz34_1 : w31.cell? ⟨gb205, 1, none⟩ = some (.int .i64 0) := (blk_cell BK205.out 1).trans rfl; have hcz34_2 : w31.cell? ⟨gb205, 2, none⟩ = some (.int .i64 0) := (blk_cell BK205.out 2).trans rfl; have hcz34_3 : w31.cell? ⟨gb205, 3, none⟩ = some (.int .i64 0) := (blk_cell BK205.out 3).trans rfl; have hcz34_4 : w31.cell? ⟨gb205, 4, none⟩ = some (.int .i64 0) := (blk_cell BK205.out 4).trans rfl; have hcz34_5 : w31.cell? ⟨gb205, 5, none⟩ = some (.string (⟨#[]⟩ : ByteArray)) := (blk_cell BK205.out 5).trans rfl; have hcz34_6 : w31.cell? ⟨gb205, 6, none⟩ = some (.slice none 0 0) := (blk_cell BK205.out 6).trans rfl; have hcz34_7 : w31.cell? ⟨gb205, 7, none⟩ = some (.int .i64 0) := (blk_cell BK205.out 7).trans rfl; have hcz34_8 : w31.cell? ⟨gb205, 8, none⟩ = some (.int .i64 0) := (blk_cell BK205.out 8).trans rfl; have hfz34_0 := blk_frozen BK205.out 0; have hfz34_1 := blk_frozen BK205.out 1; have hfz34_2 := blk_frozen BK205.out 2; have hfz34_3 := blk_frozen BK205.out 3; have hfz34_4 := blk_frozen BK205.out 4; have hfz34_5 := blk_frozen BK205.out 5; have hfz34_6 := blk_frozen BK205.out 6; have hfz34_7 := blk_frozen BK205.out 7; have hfz34_8 := blk_frozen BK205.out 8))
  refine bodyPost_ret (results_ct rfl _ _ gb205 45 #[.int .i64 (rd t206 0), .int .i64 (rd t206 1), .int .i64 (rd t206 2), .int .i64 (rd t206 3), .int .i64 (rd t206 4), .string (⟨#[]⟩ : ByteArray), .slice none 0 0, .int .i64 (rd t206 5), .int .i64 (rd t206 6)] (0, 0) _ rfl (by (with_reducible repeat (first | refine blk_drewN ?_ _ | refine blk_drew ?_ | refine blk_alloc ?_ _)); refine blk_put (cs := #[.int .i64 (rd t206 0), .int .i64 (rd t206 1), .int .i64 (rd t206 2), .int .i64 (rd t206 3), .int .i64 (rd t206 4), .string (⟨#[]⟩ : ByteArray), .slice none 0 0, .int .i64 (rd t206 5), .int .i64 0]) ?_ 8 _ rfl; (with_reducible repeat (first | refine blk_drewN ?_ _ | refine blk_drew ?_ | refine blk_alloc ?_ _)); refine blk_put (cs := #[.int .i64 (rd t206 0), .int .i64 (rd t206 1), .int .i64 (rd t206 2), .int .i64 (rd t206 3), .int .i64 (rd t206 4), .string (⟨#[]⟩ : ByteArray), .slice none 0 0, .int .i64 0, .int .i64 0]) ?_ 7 _ rfl; (with_reducible repeat (first | refine blk_drewN ?_ _ | refine blk_drew ?_ | refine blk_alloc ?_ _)); refine blk_put (cs := #[.int .i64 (rd t206 0), .int .i64 (rd t206 1), .int .i64 (rd t206 2), .int .i64 (rd t206 3), .int .i64 (rd t206 4), .string (⟨#[]⟩ : ByteArray), .slice none 0 0, .int .i64 0, .int .i64 0]) ?_ 6 _ rfl; (with_reducible repeat (first | refine blk_drewN ?_ _ | refine blk_drew ?_ | refine blk_alloc ?_ _)); refine blk_put (cs := #[.int .i64 (rd t206 0), .int .i64 (rd t206 1), .int .i64 (rd t206 2), .int .i64 (rd t206 3), .int .i64 (rd t206 4), .string (⟨#[]⟩ : ByteArray), .slice none 0 0, .int .i64 0, .int .i64 0]) ?_ 5 _ rfl; (with_reducible repeat (first | refine blk_drewN ?_ _ | refine blk_drew ?_ | refine blk_alloc ?_ _)); refine blk_put (cs := #[.int .i64 (rd t206 0), .int .i64 (rd t206 1), .int .i64 (rd t206 2), .int .i64 (rd t206 3), .int .i64 0, .string (⟨#[]⟩ : ByteArray), .slice none 0 0, .int .i64 0, .int .i64 0]) ?_ 4 _ rfl; (with_reducible repeat (first | refine blk_drewN ?_ _ | refine blk_drew ?_ | refine blk_alloc ?_ _)); refine blk_put (cs := #[.int .i64 (rd t206 0), .int .i64 (rd t206 1), .int .i64 (rd t206 2), .int .i64 0, .int .i64 0, .string (⟨#[]⟩ : ByteArray), .slice none 0 0, .int .i64 0, .int .i64 0]) ?_ 3 _ rfl; (with_reducible repeat (first | refine blk_drewN ?_ _ | refine blk_drew ?_ | refine blk_alloc ?_ _)); refine blk_put (cs := #[.int .i64 (rd t206 0), .int .i64 (rd t206 1), .int .i64 0, .int .i64 0, .int .i64 0, .string (⟨#[]⟩ : ByteArray), .slice none 0 0, .int .i64 0, .int .i64 0]) ?_ 2 _ rfl; (with_reducible repeat (first | refine blk_drewN ?_ _ | refine blk_drew ?_ | refine blk_alloc ?_ _)); refine blk_put (cs := #[.int .i64 (rd t206 0), .int .i64 0, .int .i64 0, .int .i64 0, .int .i64 0, .string (⟨#[]⟩ : ByteArray), .slice none 0 0, .int .i64 0, .int .i64 0]) ?_ 1 _ rfl; (with_reducible repeat (first | refine blk_drewN ?_ _ | refine blk_drew ?_ | refine blk_alloc ?_ _)); refine blk_put (cs := #[.int .i64 0, .int .i64 0, .int .i64 0, .int .i64 0, .int .i64 0, .string (⟨#[]⟩ : ByteArray), .slice none 0 0, .int .i64 0, .int .i64 0]) ?_ 0 _ rfl; (with_reducible repeat (first | refine blk_drewN ?_ _ | refine blk_drew ?_ | refine blk_alloc ?_ _)); exact BK205.out) Try.underlying45 rfl (by kernel_rfl)) rfl ?_
  exact ⟨_, by first | rfl | (simp [errW_none, errW_some] <;> rfl) | (simp [*, errW_none, errW_some] <;> rfl), by first | exact Kd.R_nil _ _ _ _ _ | exact Kd.N_nil _ _ _ _ _ | exact Kd.V_nil _ _ _ _ _ | exact Kd.Q_nil _ _ _ _ _ | exact Kd.S_nil _ _ _ _ _, by repeat (first | (with_reducible first | exact HB.out | apply below_alloc | apply pw_below_drewN | apply below_drew1 | refine below_set ?_ GE205.out | refine below_set ?_ GE217.out) | exact HB.out)⟩
 rw [if_neg c16] at H
 have c16b0 : decide (t219 < 0) = false := decide_eq_false c16
 clear c16
 replace H := Option.bind_eq_some_iff.mp H
 obtain ⟨⟨t220, t221⟩, A350, H⟩ := H
 replace H : (if t221 < 0 then (spec_l8Inode.j0 k a0 t221 t220 true (rd t206 0) (rd t206 1) (rd t206 2) (rd t206 3) (rd t206 4) t218 (rd t206 5) (rd t206 6)) else (if 0 < (t220.length : Int) then (spec_l8Inode.j0 k a0 t221 t220 (decide ((rd t220 0) > 12)) (rd t206 0) (rd t206 1) (rd t206 2) (rd t206 3) (rd t206 4) t218 (rd t206 5) (rd t206 6)) else (none))) = some (r1, r2, r3, r4, r5, r6, r7, r8, r9, r10) := H
 have A35 := Aside0.mk A350
 clear A350
 have HC36 := Aside0.mk H
 clear H
 go_upto_region 10 with (first | ((with_reducible refine gate_callee (f := 74) rfl ?_); refine goesL_ (some 49) rfl rfl Try.func74 (by kernel_rfl) rfl #[.string a0, .int .i64 t207] rfl (by (try simp only [List.map_toArray, List.map_cons, List.map_nil]); first | done | rfl | (simp only [List.length_drop, List.length_take]; rfl)) ?_; (with_reducible refine (spec_l8Take.calls k a0 t207 t218 t219 _ A15.out).mono ?_); rintro e w51 ⟨rfl, hb⟩; refine ⟨_, rfl, ?_⟩; have n0_ := Aside0.mk (Kd.R_below (by (with_reducible repeat (first | apply Kd.R_alloc | apply Kd.R_drewN | apply Kd.R_drew)); exact (Kd.R_mono (Kd.R_far (p := ⟨gb217, 8, none⟩) (Kd.R_far (p := ⟨gb217, 7, none⟩) (Kd.R_far (p := ⟨gb217, 6, none⟩) (Kd.R_far (p := ⟨gb217, 5, none⟩) (Kd.R_far (p := ⟨gb217, 4, none⟩) (Kd.R_far (p := ⟨gb217, 3, none⟩) (Kd.R_far (p := ⟨gb217, 2, none⟩) (Kd.R_far (p := ⟨gb217, 1, none⟩) (Kd.R_far (p := ⟨gb217, 0, none⟩) (Kd.R_types HO209.out BK217.out (by decide)) (fun _ hk => hk.2) (.int .i64 (rd t206 0))) (fun _ hk => hk.2) (.int .i64 (rd t206 1))) (fun _ hk => hk.2) (.int .i64 (rd t206 2))) (fun _ hk => hk.2) (.int .i64 (rd t206 3))) (fun _ hk => hk.2) (.int .i64 (rd t206 4))) (fun _ hk => hk.2) (.string (⟨#[]⟩ : ByteArray))) (fun _ hk => hk.2) (.slice none 0 0)) (fun _ hk => hk.2) (.int .i64 (rd t206 5))) (fun _ hk => hk.2) (.int .i64 (rd t206 6))) (fun _ h_ => h_.1))) hb); have n1_ := Aside0.mk (blk_below (g := gb205) (o := .cells #[.int .i64 0, .int .i64 0, .int .i64 0, .int .i64 0, .int .i64 0, .string (⟨#[]⟩ : ByteArray), .slice none 0 0, .int .i64 0, .int .i64 0] 45 (0, 0)) (by (with_reducible repeat (first | refine blk_drewN ?_ _ | refine blk_drew ?_ | refine blk_alloc ?_ _)); refine blk_far ?_ NB205_217.out _; (with_reducible repeat (first | refine blk_drewN ?_ _ | refine blk_drew ?_ | refine blk_alloc ?_ _)); refine blk_far ?_ NB205_217.out _; (with_reducible repeat (first | refine blk_drewN ?_ _ | refine blk_drew ?_ | refine blk_alloc ?_ _)); refine blk_far ?_ NB205_217.out _; (with_reducible repeat (first | refine blk_drewN ?_ _ | refine blk_drew ?_ | refine blk_alloc ?_ _)); refine blk_far ?_ NB205_217.out _; (with_reducible repeat (first | refine blk_drewN ?_ _ | refine blk_drew ?_ | refine blk_alloc ?_ _)); refine blk_far ?_ NB205_217.out _; (with_reducible repeat (first | refine blk_drewN ?_ _ | refine blk_drew ?_ | refine blk_alloc ?_ _)); refine blk_far ?_ NB205_217.out _; (with_reducible repeat (first | refine blk_drewN ?_ _ | refine blk_drew ?_ | refine blk_alloc ?_ _)); refine blk_far ?_ NB205_217.out _; (with_reducible repeat (first | refine blk_drewN ?_ _ | refine blk_drew ?_ | refine blk_alloc ?_ _)); refine blk_far ?_ NB205_217.out _; (with_reducible repeat (first | refine blk_drewN ?_ _ | refine blk_drew ?_ | refine blk_alloc ?_ _)); refine blk_far ?_ NB205_217.out _; (with_reducible repeat (first | refine blk_drewN ?_ _ | refine blk_drew ?_ | refine blk_alloc ?_ _)); exact BK205.out) hb); have n2_ := Aside0.mk (blk_below (g := gb217) (o := .cells #[.int .i64 (rd t206 0), .int .i64 (rd t206 1), .int .i64 (rd t206 2), .int .i64 (rd t206 3), .int .i64 (rd t206 4), .string (⟨#[]⟩ : ByteArray), .slice none 0 0, .int .i64 (rd t206 5), .int .i64 (rd t206 6)] 45 (0, 0)) (by (with_reducible repeat (first | refine blk_drewN ?_ _ | refine blk_drew ?_ | refine blk_alloc ?_ _)); refine blk_put (cs := #[.int .i64 (rd t206 0), .int .i64 (rd t206 1), .int .i64 (rd t206 2), .int .i64 (rd t206 3), .int .i64 (rd t206 4), .string (⟨#[]⟩ : ByteArray), .slice none 0 0, .int .i64 (rd t206 5), .int .i64 0]) ?_ 8 _ rfl; (with_reducible repeat (first | refine blk_drewN ?_ _ | refine blk_drew ?_ | refine blk_alloc ?_ _)); refine blk_put (cs := #[.int .i64 (rd t206 0), .int .i64 (rd t206 1), .int .i64 (rd t206 2), .int .i64 (rd t206 3), .int .i64 (rd t206 4), .string (⟨#[]⟩ : ByteArray), .slice none 0 0, .int .i64 0, .int .i64 0]) ?_ 7 _ rfl; (with_reducible repeat (first | refine blk_drewN ?_ _ | refine blk_drew ?_ | refine blk_alloc ?_ _)); refine blk_put (cs := #[.int .i64 (rd t206 0), .int .i64 (rd t206 1), .int .i64 (rd t206 2), .int .i64 (rd t206 3), .int .i64 (rd t206 4), .string (⟨#[]⟩ : ByteArray), .slice none 0 0, .int .i64 0, .int .i64 0]) ?_ 6 _ rfl; (with_reducible repeat (first | refine blk_drewN ?_ _ | refine blk_drew ?_ | refine blk_alloc ?_ _)); refine blk_put (cs := #[.int .i64 (rd t206 0), .int .i64 (rd t206 1), .int .i64 (rd t206 2), .int .i64 (rd t206 3), .int .i64 (rd t206 4), .string (⟨#[]⟩ : ByteArray), .slice none 0 0, .int .i64 0, .int .i64 0]) ?_ 5 _ rfl; (with_reducible repeat (first | refine blk_drewN ?_ _ | refine blk_drew ?_ | refine blk_alloc ?_ _)); refine blk_put (cs := #[.int .i64 (rd t206 0), .int .i64 (rd t206 1), .int .i64 (rd t206 2), .int .i64 (rd t206 3), .int .i64 0, .string (⟨#[]⟩ : ByteArray), .slice none 0 0, .int .i64 0, .int .i64 0]) ?_ 4 _ rfl; (with_reducible repeat (first | refine blk_drewN ?_ _ | refine blk_drew ?_ | refine blk_alloc ?_ _)); refine blk_put (cs := #[.int .i64 (rd t206 0), .int .i64 (rd t206 1), .int .i64 (rd t206 2), .int .i64 0, .int .i64 0, .string (⟨#[]⟩ : ByteArray), .slice none 0 0, .int .i64 0, .int .i64 0]) ?_ 3 _ rfl; (with_reducible repeat (first | refine blk_drewN ?_ _ | refine blk_drew ?_ | refine blk_alloc ?_ _)); refine blk_put (cs := #[.int .i64 (rd t206 0), .int .i64 (rd t206 1), .int .i64 0, .int .i64 0, .int .i64 0, .string (⟨#[]⟩ : ByteArray), .slice none 0 0, .int .i64 0, .int .i64 0]) ?_ 2 _ rfl; (with_reducible repeat (first | refine blk_drewN ?_ _ | refine blk_drew ?_ | refine blk_alloc ?_ _)); refine blk_put (cs := #[.int .i64 (rd t206 0), .int .i64 0, .int .i64 0, .int .i64 0, .int .i64 0, .string (⟨#[]⟩ : ByteArray), .slice none 0 0, .int .i64 0, .int .i64 0]) ?_ 1 _ rfl; (with_reducible repeat (first | refine blk_drewN ?_ _ | refine blk_drew ?_ | refine blk_alloc ?_ _)); refine blk_put (cs := #[.int .i64 0, .int .i64 0, .int .i64 0, .int .i64 0, .int .i64 0, .string (⟨#[]⟩ : ByteArray), .slice none 0 0, .int .i64 0, .int .i64 0]) ?_ 0 _ rfl; (with_reducible repeat (first | refine blk_drewN ?_ _ | refine blk_drew ?_ | refine blk_alloc ?_ _)); exact BK217.out) hb); have n3_ := Aside0.mk (below_step (by repeat (first | (with_reducible first | exact HB.out | apply below_alloc | apply pw_below_drewN | apply below_drew1 | refine below_set ?_ GE205.out | refine below_set ?_ GE217.out) | exact HB.out)) hb); clear HO209; clear BK205; clear BK217; clear HB; have HO209 := n0_; have BK205 := n1_; have BK217 := n2_; have HB := n3_; clear n0_ n1_ n2_ n3_; (try clear hb); (try clear hb2); (try clear hk); (try clear hi); have hnb52 := NB217_205.out; have hnc52 := NB205_217.out; have hcz53_0 : w51.cell? ⟨gb217, 0, none⟩ = some (.int .i64 (rd t206 0)) := (blk_cell BK217.out 0).trans rfl; have hcz53_1 : w51.cell? ⟨gb217, 1, none⟩ = some (.int .i64 (rd t206 1)) := (blk_cell BK217.out 1).trans rfl; have hcz53_2 : w51.cell? ⟨gb217, 2, none⟩ = some (.int .i64 (rd t206 2)) := (blk_cell BK217.out 2).trans rfl; have hcz53_3 : w51.cell? ⟨gb217, 3, none⟩ = some (.int .i64 (rd t206 3)) := (blk_cell BK217.out 3).trans rfl; have hcz53_4 : w51.cell? ⟨gb217, 4, none⟩ = some (.int .i64 (rd t206 4)) := (blk_cell BK217.out 4).trans rfl; have hcz53_5 : w51.cell? ⟨gb217, 5, none⟩ = some (.string (⟨#[]⟩ : ByteArray)) := (blk_cell BK217.out 5).trans rfl; have hcz53_6 : w51.cell? ⟨gb217, 6, none⟩ = some (.slice none 0 0) := (blk_cell BK217.out 6).trans rfl; have hcz53_7 : w51.cell? ⟨gb217, 7, none⟩ = some (.int .i64 (rd t206 5)) := (blk_cell BK217.out 7).trans rfl; have hcz53_8 : w51.cell? ⟨gb217, 8, none⟩ = some (.int .i64 (rd t206 6)) := (blk_cell BK217.out 8).trans rfl; have hfz53_0 := blk_frozen BK217.out 0; have hfz53_1 := blk_frozen BK217.out 1; have hfz53_2 := blk_frozen BK217.out 2; have hfz53_3 := blk_frozen BK217.out 3; have hfz53_4 := blk_frozen BK217.out 4; have hfz53_5 := blk_frozen BK217.out 5; have hfz53_6 := blk_frozen BK217.out 6; have hfz53_7 := blk_frozen BK217.out 7; have hfz53_8 := blk_frozen BK217.out 8) | ((with_reducible refine gate_callee (f := 55) rfl ?_); refine goesL_ (some 60) rfl rfl Try.func55 (by kernel_rfl) rfl #[.string a0, .int .i64 t219, .int .i64 1] rfl (by (try simp only [List.map_toArray, List.map_cons, List.map_nil]); first | done | rfl | (simp only [List.length_drop, List.length_take]; rfl)) ?_; (with_reducible refine (spec_l8Vars.calls k a0 t219 1 t220 t221 _ A35.out).mono ?_); rintro e w54 ⟨v222, rfl, ho0, hb⟩; refine ⟨_, rfl, ?_⟩; have n0_ := Aside0.mk (Kd.R_elder' (by (with_reducible repeat (first | apply Kd.R_alloc | apply Kd.R_drewN | apply Kd.R_drew)); exact (Kd.R_mono (Kd.R_far (p := ⟨gb217, 5, none⟩) (Kd.R_types HO209.out BK217.out (by decide)) (fun _ hk => hk.2) (.string t218)) (fun _ h_ => h_.1))) (Kd.R_base ho0) hb); have n1_ := Aside0.mk (Kd.R_lower (Kd.R_new' ho0 (Kd.R_lt (by (with_reducible repeat (first | apply Kd.R_alloc | apply Kd.R_drewN | apply Kd.R_drew)); exact (Kd.R_mono (Kd.R_far (p := ⟨gb217, 5, none⟩) (Kd.R_types HO209.out BK217.out (by decide)) (fun _ hk => hk.2) (.string t218)) (fun _ h_ => h_.1))))) (below_size (by repeat (first | (with_reducible first | exact HB.out | apply below_alloc | apply pw_below_drewN | apply below_drew1 | refine below_set ?_ GE205.out | refine below_set ?_ GE217.out) | exact HB.out)))); have n2_ := Aside0.mk (blk_below (g := gb205) (o := .cells #[.int .i64 0, .int .i64 0, .int .i64 0, .int .i64 0, .int .i64 0, .string (⟨#[]⟩ : ByteArray), .slice none 0 0, .int .i64 0, .int .i64 0] 45 (0, 0)) (by (with_reducible repeat (first | refine blk_drewN ?_ _ | refine blk_drew ?_ | refine blk_alloc ?_ _)); refine blk_far ?_ NB205_217.out _; (with_reducible repeat (first | refine blk_drewN ?_ _ | refine blk_drew ?_ | refine blk_alloc ?_ _)); exact BK205.out) hb); have n3_ := Aside0.mk (blk_below (g := gb217) (o := .cells #[.int .i64 (rd t206 0), .int .i64 (rd t206 1), .int .i64 (rd t206 2), .int .i64 (rd t206 3), .int .i64 (rd t206 4), .string t218, .slice none 0 0, .int .i64 (rd t206 5), .int .i64 (rd t206 6)] 45 (0, 0)) (by (with_reducible repeat (first | refine blk_drewN ?_ _ | refine blk_drew ?_ | refine blk_alloc ?_ _)); refine blk_put (cs := #[.int .i64 (rd t206 0), .int .i64 (rd t206 1), .int .i64 (rd t206 2), .int .i64 (rd t206 3), .int .i64 (rd t206 4), .string (⟨#[]⟩ : ByteArray), .slice none 0 0, .int .i64 (rd t206 5), .int .i64 (rd t206 6)]) ?_ 5 _ rfl; (with_reducible repeat (first | refine blk_drewN ?_ _ | refine blk_drew ?_ | refine blk_alloc ?_ _)); exact BK217.out) hb); have n4_ := Aside0.mk (below_step (by repeat (first | (with_reducible first | exact HB.out | apply below_alloc | apply pw_below_drewN | apply below_drew1 | refine below_set ?_ GE205.out | refine below_set ?_ GE217.out) | exact HB.out)) hb); clear HO209; clear BK205; clear BK217; clear HB; have HO209 := n0_; have HO223 := n1_; have BK205 := n2_; have BK217 := n3_; have HB := n4_; clear n0_ n1_ n2_ n3_ n4_; (try clear hb); (try clear hb2); (try clear hk); (try clear hi); (try clear ho0)))
 (try simp only [Act.put, List.setIfInBounds_toArray, List.set_cons_zero, List.set_cons_succ])
 go_cut [70] (fun v70 wc => ∃ (kq : Nat) (x70_35 : Bool), v70 = .bool x70_35 ∧ Aside0 (spec_l8Inode.j0 kq a0 t221 t220 x70_35 (rd t206 0) (rd t206 1) (rd t206 2) (rd t206 3) (rd t206 4) t218 (rd t206 5) (rd t206 6) = some (r1, r2, r3, r4, r5, r6, r7, r8, r9, r10)) ∧ Aside0 (kq ≤ k) ∧ Aside0 (Kd.R (Kd.int .i64) 3 wc w.heap.size (fun _ => True) v222 t220) ∧ Aside0 (wc.heap[gb205]? = some (.cells #[.int .i64 0, .int .i64 0, .int .i64 0, .int .i64 0, .int .i64 0, .string (⟨#[]⟩ : ByteArray), (.slice none 0 0), .int .i64 0, .int .i64 0] 45 (0, 0))) ∧ Aside0 (wc.heap[gb217]? = some (.cells #[.int .i64 (rd t206 0), .int .i64 (rd t206 1), .int .i64 (rd t206 2), .int .i64 (rd t206 3), .int .i64 (rd t206 4), .string t218, (.slice none 0 0), .int .i64 (rd t206 5), .int .i64 (rd t206 6)] 45 (0, 0))) ∧ Aside0 (Below w.heap.size w wc))
 case first =>
  have H := HC36.out
  clear HC36
  by_cases c55 : t221 < 0
  ·rw [if_pos c55] at H
   have c55b0 : decide (t221 < 0) = true := decide_eq_true c55
   clear c55
   (first | rw [c55b0] | (simp only [i64_w, i32_w]; rw [c55b0]) | skip)
   have H' := Aside0.mk H
   clear H
   go_wp2
   go_meet
   case rel => exact ⟨_, (true), (by first | rfl | (simp; done) | (simp [*]; done) | (simp; exact (fun (l : List UInt8) => (by cases l <;> rfl : l.isEmpty = !(l != []))) _)), H', ⟨by first | omega | exact Nat.le_refl _⟩, ⟨by (with_reducible repeat (first | apply Kd.R_alloc | apply Kd.R_drewN | apply Kd.R_drew)); exact Kd.R_mono HO223.out (fun _ hk => trivial)⟩, ⟨by (with_reducible repeat (first | refine blk_drewN ?_ _ | refine blk_drew ?_ | refine blk_alloc ?_ _)); exact BK205.out⟩, ⟨by (with_reducible repeat (first | refine blk_drewN ?_ _ | refine blk_drew ?_ | refine blk_alloc ?_ _)); exact BK217.out⟩, ⟨by repeat (first | (with_reducible first | exact HB.out | apply below_alloc | apply pw_below_drewN | apply below_drew1 | refine below_set ?_ GE205.out | refine below_set ?_ GE217.out) | exact HB.out)⟩⟩
  rw [if_neg c55] at H
  have c55b0 : decide (t221 < 0) = false := decide_eq_false c55
  clear c55
  (first | rw [c55b0] | (simp only [i64_w, i32_w]; rw [c55b0]) | skip)
  by_cases c56 : 0 < (t220.length : Int)
  rotate_left
  ·rw [if_neg c56] at H
   exact absurd H (by simp)
  rw [if_pos c56] at H
  have c56b0 : decide (0 < (t220.length : Int)) = true := decide_eq_true c56
  have c56b1 : decide (0 < t220.length) = true := decide_eq_true (by omega)
  clear c56
  have H' := Aside0.mk H
  clear H
  obtain ⟨Ao57, co57, eo57⟩ := Kd.R_slice HO223.out
  subst eo57
  have p224 : 0 ≤ (0 : Int) := (by omega)
  have q224 : 0 < (t220.length : Int) := of_decide_eq_true (by first | (with_reducible assumption) | assumption)
  obtain ⟨ad224, e224, hx224_0⟩ := Kd.at_int (Kd.R_reads' HO223.out).2.2 0 p224 q224
  cases e224
  have qi224 : (0 < t220.length) = True := eq_true (by omega)
  (try rw [show ((0 : Int)).toNat = 0 from rfl] at hx224_0)
  (try rw [Addr.add_zero'] at hx224_0)
  replace p224 := eq_true p224
  replace q224 := eq_true q224
  go_wp2
  go_meet
  case rel => exact ⟨_, (decide ((rd t220 0) > 12)), (by first | rfl | (simp; done) | (simp [*]; done) | (simp; exact (fun (l : List UInt8) => (by cases l <;> rfl : l.isEmpty = !(l != []))) _)), H', ⟨by first | omega | exact Nat.le_refl _⟩, ⟨by (with_reducible repeat (first | apply Kd.R_alloc | apply Kd.R_drewN | apply Kd.R_drew)); exact Kd.R_mono HO223.out (fun _ hk => trivial)⟩, ⟨by (with_reducible repeat (first | refine blk_drewN ?_ _ | refine blk_drew ?_ | refine blk_alloc ?_ _)); exact BK205.out⟩, ⟨by (with_reducible repeat (first | refine blk_drewN ?_ _ | refine blk_drew ?_ | refine blk_alloc ?_ _)); exact BK217.out⟩, ⟨by repeat (first | (with_reducible first | exact HB.out | apply below_alloc | apply pw_below_drewN | apply below_drew1 | refine below_set ?_ GE205.out | refine below_set ?_ GE217.out) | exact HB.out)⟩⟩
 case rest =>
  clear HC36
  try clear c1
  try clear p2
  try clear q2
  try clear hx2
  try clear qi2
  try clear c3
  try clear c5
  try clear c7
  try clear c16
  try clear c16b0
  try clear p21
  try clear q21
  try clear hx21
  try clear qi21
  try clear p22
  try clear q22
  try clear hx22
  try clear qi22
  try clear c32
  try clear c52
  try clear c55
  try clear c55b0
  try clear c56
  try clear c56b0
  try clear c56b1
  try clear hcz33_0
  try clear hcz33_1
  try clear hcz33_2
  try clear hcz33_3
  try clear hcz33_4
  try clear hcz33_5
  try clear hcz33_6
  try clear hcz33_7
  try clear hcz33_8
  try clear hcz34_0
  try clear hcz34_1
  try clear hcz34_2
  try clear hcz34_3
  try clear hcz34_4
  try clear hcz34_5
  try clear hcz34_6
  try clear hcz34_7
  try clear hcz34_8
  try clear hcz53_0
  try clear hcz53_1
  try clear hcz53_2
  try clear hcz53_3
  try clear hcz53_4
  try clear hcz53_5
  try clear hcz53_6
  try clear hcz53_7
  try clear hcz53_8
  try clear hfz33_0
  try clear hfz33_1
  try clear hfz33_2
  try clear hfz33_3
  try clear hfz33_4
  try clear hfz33_5
  try clear hfz33_6
  try clear hfz33_7
  try clear hfz33_8
  try clear hfz34_0
  try clear hfz34_1
  try clear hfz34_2
  try clear hfz34_3
  try clear hfz34_4
  try clear hfz34_5
  try clear hfz34_6
  try clear hfz34_7
  try clear hfz34_8
  try clear hfz53_0
  try clear hfz53_1
  try clear hfz53_2
  try clear hfz53_3
  try clear hfz53_4
  try clear hfz53_5
  try clear hfz53_6
  try clear hfz53_7
  try clear hfz53_8
  try clear hx210_0
  try clear hx211_0
  try clear hx212_0
  try clear hx213_0
  try clear hx214_0
  try clear hx215_0
  try clear hx216_0
  try clear hx224_0
  try clear p210
  try clear p211
  try clear p212
  try clear p213
  try clear p214
  try clear p215
  try clear p216
  try clear p224
  try clear q210
  try clear q211
  try clear q212
  try clear q213
  try clear q214
  try clear q215
  try clear q216
  try clear q224
  obtain ⟨kq, x70_35, rfl, HA, HJ35, HO_10, BK205, BK217, HB⟩ := hcut
  cases kq with
  | zero => exact absurd HA.out (by simp [spec_l8Inode.j0])
  | succ kj35 =>
   have H := HA.out
   clear HA
   simp only [spec_l8Inode.j0] at H
   by_cases c58 : x70_35 = true
   ·subst c58
    have H1 : (some ((rd t206 0), (rd t206 1), (rd t206 2), (rd t206 3), (rd t206 4), t218, ([] : List (S68)), (rd t206 5), (rd t206 6), (-1))) = some (r1, r2, r3, r4, r5, r6, r7, r8, r9, r10) := by rw [if_pos rfl] at H; exact H
    clear H
    have H := H1
    clear H1
    simp only [Option.some.injEq, Prod.mk.injEq] at H
    obtain ⟨rfl, rfl, rfl, rfl, rfl, rfl, rfl, rfl, rfl, rfl⟩ := H
    have hnb59 := NB217_205.out
    have hnc59 := NB205_217.out
    have hcz60_0 : wc.cell? ⟨gb217, 0, none⟩ = some (.int .i64 (rd t206 0)) := (blk_cell BK217.out 0).trans rfl
    have hcz60_1 : wc.cell? ⟨gb217, 1, none⟩ = some (.int .i64 (rd t206 1)) := (blk_cell BK217.out 1).trans rfl
    have hcz60_2 : wc.cell? ⟨gb217, 2, none⟩ = some (.int .i64 (rd t206 2)) := (blk_cell BK217.out 2).trans rfl
    have hcz60_3 : wc.cell? ⟨gb217, 3, none⟩ = some (.int .i64 (rd t206 3)) := (blk_cell BK217.out 3).trans rfl
    have hcz60_4 : wc.cell? ⟨gb217, 4, none⟩ = some (.int .i64 (rd t206 4)) := (blk_cell BK217.out 4).trans rfl
    have hcz60_5 : wc.cell? ⟨gb217, 5, none⟩ = some (.string t218) := (blk_cell BK217.out 5).trans rfl
    have hcz60_6 : wc.cell? ⟨gb217, 6, none⟩ = some (.slice none 0 0) := (blk_cell BK217.out 6).trans rfl
    have hcz60_7 : wc.cell? ⟨gb217, 7, none⟩ = some (.int .i64 (rd t206 5)) := (blk_cell BK217.out 7).trans rfl
    have hcz60_8 : wc.cell? ⟨gb217, 8, none⟩ = some (.int .i64 (rd t206 6)) := (blk_cell BK217.out 8).trans rfl
    have hfz60_0 := blk_frozen BK217.out 0
    have hfz60_1 := blk_frozen BK217.out 1
    have hfz60_2 := blk_frozen BK217.out 2
    have hfz60_3 := blk_frozen BK217.out 3
    have hfz60_4 := blk_frozen BK217.out 4
    have hfz60_5 := blk_frozen BK217.out 5
    have hfz60_6 := blk_frozen BK217.out 6
    have hfz60_7 := blk_frozen BK217.out 7
    have hfz60_8 := blk_frozen BK217.out 8
    have hcz61_0 : wc.cell? ⟨gb205, 0, none⟩ = some (.int .i64 0) := (blk_cell BK205.out 0).trans rfl
    have hcz61_1 : wc.cell? ⟨gb205, 1, none⟩ = some (.int .i64 0) := (blk_cell BK205.out 1).trans rfl
    have hcz61_2 : wc.cell? ⟨gb205, 2, none⟩ = some (.int .i64 0) := (blk_cell BK205.out 2).trans rfl
    have hcz61_3 : wc.cell? ⟨gb205, 3, none⟩ = some (.int .i64 0) := (blk_cell BK205.out 3).trans rfl
    have hcz61_4 : wc.cell? ⟨gb205, 4, none⟩ = some (.int .i64 0) := (blk_cell BK205.out 4).trans rfl
    have hcz61_5 : wc.cell? ⟨gb205, 5, none⟩ = some (.string (⟨#[]⟩ : ByteArray)) := (blk_cell BK205.out 5).trans rfl
    have hcz61_6 : wc.cell? ⟨gb205, 6, none⟩ = some (.slice none 0 0) := (blk_cell BK205.out 6).trans rfl
    have hcz61_7 : wc.cell? ⟨gb205, 7, none⟩ = some (.int .i64 0) := (blk_cell BK205.out 7).trans rfl
    have hcz61_8 : wc.cell? ⟨gb205, 8, none⟩ = some (.int .i64 0) := (blk_cell BK205.out 8).trans rfl
    have hfz61_0 := blk_frozen BK205.out 0
    have hfz61_1 := blk_frozen BK205.out 1
    have hfz61_2 := blk_frozen BK205.out 2
    have hfz61_3 := blk_frozen BK205.out 3
    have hfz61_4 := blk_frozen BK205.out 4
    have hfz61_5 := blk_frozen BK205.out 5
    have hfz61_6 := blk_frozen BK205.out 6
    have hfz61_7 := blk_frozen BK205.out 7
    have hfz61_8 := blk_frozen BK205.out 8
    go_wp2
    refine bodyPost_ret (results_ct rfl _ _ gb205 45 #[.int .i64 (rd t206 0), .int .i64 (rd t206 1), .int .i64 (rd t206 2), .int .i64 (rd t206 3), .int .i64 (rd t206 4), .string t218, .slice none 0 0, .int .i64 (rd t206 5), .int .i64 (rd t206 6)] (0, 0) _ rfl (by (with_reducible repeat (first | refine blk_drewN ?_ _ | refine blk_drew ?_ | refine blk_alloc ?_ _)); refine blk_put (cs := #[.int .i64 (rd t206 0), .int .i64 (rd t206 1), .int .i64 (rd t206 2), .int .i64 (rd t206 3), .int .i64 (rd t206 4), .string t218, .slice none 0 0, .int .i64 (rd t206 5), .int .i64 0]) ?_ 8 _ rfl; (with_reducible repeat (first | refine blk_drewN ?_ _ | refine blk_drew ?_ | refine blk_alloc ?_ _)); refine blk_put (cs := #[.int .i64 (rd t206 0), .int .i64 (rd t206 1), .int .i64 (rd t206 2), .int .i64 (rd t206 3), .int .i64 (rd t206 4), .string t218, .slice none 0 0, .int .i64 0, .int .i64 0]) ?_ 7 _ rfl; (with_reducible repeat (first | refine blk_drewN ?_ _ | refine blk_drew ?_ | refine blk_alloc ?_ _)); refine blk_put (cs := #[.int .i64 (rd t206 0), .int .i64 (rd t206 1), .int .i64 (rd t206 2), .int .i64 (rd t206 3), .int .i64 (rd t206 4), .string t218, .slice none 0 0, .int .i64 0, .int .i64 0]) ?_ 6 _ rfl; (with_reducible repeat (first | refine blk_drewN ?_ _ | refine blk_drew ?_ | refine blk_alloc ?_ _)); refine blk_put (cs := #[.int .i64 (rd t206 0), .int .i64 (rd t206 1), .int .i64 (rd t206 2), .int .i64 (rd t206 3), .int .i64 (rd t206 4), .string (⟨#[]⟩ : ByteArray), .slice none 0 0, .int .i64 0, .int .i64 0]) ?_ 5 _ rfl; (with_reducible repeat (first | refine blk_drewN ?_ _ | refine blk_drew ?_ | refine blk_alloc ?_ _)); refine blk_put (cs := #[.int .i64 (rd t206 0), .int .i64 (rd t206 1), .int .i64 (rd t206 2), .int .i64 (rd t206 3), .int .i64 0, .string (⟨#[]⟩ : ByteArray), .slice none 0 0, .int .i64 0, .int .i64 0]) ?_ 4 _ rfl; (with_reducible repeat (first | refine blk_drewN ?_ _ | refine blk_drew ?_ | refine blk_alloc ?_ _)); refine blk_put (cs := #[.int .i64 (rd t206 0), .int .i64 (rd t206 1), .int .i64 (rd t206 2), .int .i64 0, .int .i64 0, .string (⟨#[]⟩ : ByteArray), .slice none 0 0, .int .i64 0, .int .i64 0]) ?_ 3 _ rfl; (with_reducible repeat (first | refine blk_drewN ?_ _ | refine blk_drew ?_ | refine blk_alloc ?_ _)); refine blk_put (cs := #[.int .i64 (rd t206 0), .int .i64 (rd t206 1), .int .i64 0, .int .i64 0, .int .i64 0, .string (⟨#[]⟩ : ByteArray), .slice none 0 0, .int .i64 0, .int .i64 0]) ?_ 2 _ rfl; (with_reducible repeat (first | refine blk_drewN ?_ _ | refine blk_drew ?_ | refine blk_alloc ?_ _)); refine blk_put (cs := #[.int .i64 (rd t206 0), .int .i64 0, .int .i64 0, .int .i64 0, .int .i64 0, .string (⟨#[]⟩ : ByteArray), .slice none 0 0, .int .i64 0, .int .i64 0]) ?_ 1 _ rfl; (with_reducible repeat (first | refine blk_drewN ?_ _ | refine blk_drew ?_ | refine blk_alloc ?_ _)); refine blk_put (cs := #[.int .i64 0, .int .i64 0, .int .i64 0, .int .i64 0, .int .i64 0, .string (⟨#[]⟩ : ByteArray), .slice none 0 0, .int .i64 0, .int .i64 0]) ?_ 0 _ rfl; (with_reducible repeat (first | refine blk_drewN ?_ _ | refine blk_drew ?_ | refine blk_alloc ?_ _)); exact BK205.out) Try.underlying45 rfl (by kernel_rfl)) rfl ?_
    exact ⟨_, by first | rfl | (simp [errW_none, errW_some] <;> rfl) | (simp [*, errW_none, errW_some] <;> rfl), by first | exact Kd.R_nil _ _ _ _ _ | exact Kd.N_nil _ _ _ _ _ | exact Kd.V_nil _ _ _ _ _ | exact Kd.Q_nil _ _ _ _ _ | exact Kd.S_nil _ _ _ _ _, by repeat (first | (with_reducible first | exact HB.out | apply below_alloc | apply pw_below_drewN | apply below_drew1 | refine below_set ?_ GE205.out | refine below_set ?_ GE217.out) | exact HB.out)⟩
   replace c58 := Bool.eq_false_iff.mpr c58
   subst c58
   have H1 : (spec_l8Inode.l0 kj35 a0 t221 t220 0 (rd t206 0) (rd t206 1) (rd t206 2) (rd t206 3) (rd t206 4) t218 ([] : List (S68)) (rd t206 5) (rd t206 6)) = some (r1, r2, r3, r4, r5, r6, r7, r8, r9, r10) := by rw [if_neg (show ¬ (false = true) by decide)] at H; exact H
   clear H
   have H := H1
   clear H1
   have H' := Aside0.mk H
   clear H
   go_wp2
   go_loopg [7, 11] kj35 (fun kq v7 v11 w' => ∃ (x7_2 : Int) (x11_2 : Int) (x206000_2 : Int) (x206001_2 : Int) (x206002_2 : Int) (x206003_2 : Int) (x206004_2 : Int) (x206005_2 : ByteArray) (x206007_2 : Int) (x206008_2 : Int) (x218006_2 : List (S68)) (u218006 : Value), v7 = .int .i64 x7_2 ∧ v11 = .int .i64 x11_2 ∧ Aside0 (spec_l8Inode.l0 kq a0 x7_2 t220 x11_2 (rd t206 0) (rd t206 1) (rd t206 2) (rd t206 3) (rd t206 4) t218 x218006_2 (rd t206 5) (rd t206 6) = some (r1, r2, r3, r4, r5, r6, r7, r8, r9, r10)) ∧ Aside0 (kq ≤ kj35) ∧ Aside0 (Kd.R (Kd.int .i64) 3 w' w.heap.size (fun _ => True) v222 t220) ∧ Aside0 (Kd.R k68 68 w' w.heap.size (fun _ => True) u218006 x218006_2) ∧ Aside0 (w'.heap[gb205]? = some (.cells #[.int .i64 x206000_2, .int .i64 x206001_2, .int .i64 x206002_2, .int .i64 x206003_2, .int .i64 x206004_2, .string x206005_2, (.slice none 0 0), .int .i64 x206007_2, .int .i64 x206008_2] 45 (0, 0))) ∧ Aside0 (w'.heap[gb217]? = some (.cells #[.int .i64 (rd t206 0), .int .i64 (rd t206 1), .int .i64 (rd t206 2), .int .i64 (rd t206 3), .int .i64 (rd t206 4), .string t218, u218006, .int .i64 (rd t206 5), .int .i64 (rd t206 6)] 45 (0, 0))) ∧ Aside0 (Below w.heap.size w w'))
   case atStart => exact ⟨(t221), (0), (0), (0), (0), (0), (0), ((⟨#[]⟩ : ByteArray)), (0), (0), (([] : List (S68))), (.slice none 0 0), (by first | rfl | (simp; done) | (simp [*]; done) | (simp; exact (fun (l : List UInt8) => (by cases l <;> rfl : l.isEmpty = !(l != []))) _)), (by first | rfl | (simp; done) | (simp [*]; done) | (simp; exact (fun (l : List UInt8) => (by cases l <;> rfl : l.isEmpty = !(l != []))) _)), H', ⟨Nat.le_refl _⟩, ⟨by (with_reducible repeat (first | apply Kd.R_alloc | apply Kd.R_drewN | apply Kd.R_drew)); exact HO_10.out⟩, ⟨by first | exact Kd.R_nil _ _ _ _ _ | exact Kd.N_nil _ _ _ _ _ | exact Kd.V_nil _ _ _ _ _ | exact Kd.Q_nil _ _ _ _ _ | exact Kd.S_nil _ _ _ _ _⟩, ⟨by (with_reducible repeat (first | refine blk_drewN ?_ _ | refine blk_drew ?_ | refine blk_alloc ?_ _)); exact BK205.out⟩, ⟨by (with_reducible repeat (first | refine blk_drewN ?_ _ | refine blk_drew ?_ | refine blk_alloc ?_ _)); exact BK217.out⟩, ⟨by repeat (first | (with_reducible first | exact HB.out | apply below_alloc | apply pw_below_drewN | apply below_drew1 | refine below_set ?_ GE205.out | refine below_set ?_ GE217.out) | exact HB.out)⟩⟩
   case round =>
    clear H'
    try clear c1
    try clear p2
    try clear q2
    try clear hx2
    try clear qi2
    try clear c3
    try clear c5
    try clear c7
    try clear c16
    try clear c16b0
    try clear p21
    try clear q21
    try clear hx21
    try clear qi21
    try clear p22
    try clear q22
    try clear hx22
    try clear qi22
    try clear c32
    try clear c52
    try clear c55
    try clear c55b0
    try clear c56
    try clear c56b0
    try clear c56b1
    try clear c58
    try clear c59
    try clear hcz33_0
    try clear hcz33_1
    try clear hcz33_2
    try clear hcz33_3
    try clear hcz33_4
    try clear hcz33_5
    try clear hcz33_6
    try clear hcz33_7
    try clear hcz33_8
    try clear hcz34_0
    try clear hcz34_1
    try clear hcz34_2
    try clear hcz34_3
    try clear hcz34_4
    try clear hcz34_5
    try clear hcz34_6
    try clear hcz34_7
    try clear hcz34_8
    try clear hcz53_0
    try clear hcz53_1
    try clear hcz53_2
    try clear hcz53_3
    try clear hcz53_4
    try clear hcz53_5
    try clear hcz53_6
    try clear hcz53_7
    try clear hcz53_8
    try clear hcz60_0
    try clear hcz60_1
    try clear hcz60_2
    try clear hcz60_3
    try clear hcz60_4
    try clear hcz60_5
    try clear hcz60_6
    try clear hcz60_7
    try clear hcz60_8
    try clear hcz61_0
    try clear hcz61_1
    try clear hcz61_2
    try clear hcz61_3
    try clear hcz61_4
    try clear hcz61_5
    try clear hcz61_6
    try clear hcz61_7
    try clear hcz61_8
    try clear hfz33_0
    try clear hfz33_1
    try clear hfz33_2
    try clear hfz33_3
    try clear hfz33_4
    try clear hfz33_5
    try clear hfz33_6
    try clear hfz33_7
    try clear hfz33_8
    try clear hfz34_0
    try clear hfz34_1
    try clear hfz34_2
    try clear hfz34_3
    try clear hfz34_4
    try clear hfz34_5
    try clear hfz34_6
    try clear hfz34_7
    try clear hfz34_8
    try clear hfz53_0
    try clear hfz53_1
    try clear hfz53_2
    try clear hfz53_3
    try clear hfz53_4
    try clear hfz53_5
    try clear hfz53_6
    try clear hfz53_7
    try clear hfz53_8
    try clear hfz60_0
    try clear hfz60_1
    try clear hfz60_2
    try clear hfz60_3
    try clear hfz60_4
    try clear hfz60_5
    try clear hfz60_6
    try clear hfz60_7
    try clear hfz60_8
    try clear hfz61_0
    try clear hfz61_1
    try clear hfz61_2
    try clear hfz61_3
    try clear hfz61_4
    try clear hfz61_5
    try clear hfz61_6
    try clear hfz61_7
    try clear hfz61_8
    try clear hx210_0
    try clear hx211_0
    try clear hx212_0
    try clear hx213_0
    try clear hx214_0
    try clear hx215_0
    try clear hx216_0
    try clear hx224_0
    try clear p2
    try clear p21
    try clear p210
    try clear p211
    try clear p212
    try clear p213
    try clear p214
    try clear p215
    try clear p216
    try clear p22
    try clear p224
    try clear q2
    try clear q21
    try clear q210
    try clear q211
    try clear q212
    try clear q213
    try clear q214
    try clear q215
    try clear q216
    try clear q22
    try clear q224
    obtain ⟨x7_2, x11_2, x206000_2, x206001_2, x206002_2, x206003_2, x206004_2, x206005_2, x206007_2, x206008_2, x218006_2, u218006, rfl, rfl, HA, HK2, HO_10, HO_218006, BK205, BK217, HB⟩ := hrel
    cases gk with
    | zero => exact absurd HA.out (by simp [spec_l8Inode.l0])
    | succ k2 =>
     have H := HA.out
     clear HA
     simp only [spec_l8Inode.l0] at H
     by_cases c62 : 0 < (t220.length : Int)
     rotate_left
     ·rw [if_neg c62] at H
      exact absurd H (by simp)
     rw [if_pos c62] at H
     have c62b0 : decide (0 < (t220.length : Int)) = true := decide_eq_true c62
     have c62b1 : decide (0 < t220.length) = true := decide_eq_true (by omega)
     clear c62
     by_cases c63 : x11_2 < (rd t220 0)
     rotate_left
     ·rw [if_neg c63] at H
      have c63b0 : decide (x11_2 < (rd t220 0)) = false := decide_eq_false c63
      clear c63
      simp only [Option.some.injEq, Prod.mk.injEq] at H
      obtain ⟨rfl, rfl, rfl, rfl, rfl, rfl, rfl, rfl, rfl, rfl⟩ := H
      obtain ⟨Ao84, co84, eo84⟩ := Kd.R_slice HO_10.out
      subst eo84
      have p225 : 0 ≤ (0 : Int) := (by omega)
      have q225 : 0 < (t220.length : Int) := of_decide_eq_true (by first | (with_reducible assumption) | assumption)
      obtain ⟨ad225, e225, hx225_0⟩ := Kd.at_int (Kd.R_reads' HO_10.out).2.2 0 p225 q225
      cases e225
      have qi225 : (0 < t220.length) = True := eq_true (by omega)
      (try rw [show ((0 : Int)).toNat = 0 from rfl] at hx225_0)
      (try rw [Addr.add_zero'] at hx225_0)
      replace p225 := eq_true p225
      replace q225 := eq_true q225
      have hnb85 := NB217_205.out
      have hnc85 := NB205_217.out
      have hcz86_0 : wr.cell? ⟨gb217, 0, none⟩ = some (.int .i64 (rd t206 0)) := (blk_cell BK217.out 0).trans rfl
      have hcz86_1 : wr.cell? ⟨gb217, 1, none⟩ = some (.int .i64 (rd t206 1)) := (blk_cell BK217.out 1).trans rfl
      have hcz86_2 : wr.cell? ⟨gb217, 2, none⟩ = some (.int .i64 (rd t206 2)) := (blk_cell BK217.out 2).trans rfl
      have hcz86_3 : wr.cell? ⟨gb217, 3, none⟩ = some (.int .i64 (rd t206 3)) := (blk_cell BK217.out 3).trans rfl
      have hcz86_4 : wr.cell? ⟨gb217, 4, none⟩ = some (.int .i64 (rd t206 4)) := (blk_cell BK217.out 4).trans rfl
      have hcz86_5 : wr.cell? ⟨gb217, 5, none⟩ = some (.string t218) := (blk_cell BK217.out 5).trans rfl
      have hcz86_6 : wr.cell? ⟨gb217, 6, none⟩ = some (u218006) := (blk_cell BK217.out 6).trans rfl
      have hcz86_7 : wr.cell? ⟨gb217, 7, none⟩ = some (.int .i64 (rd t206 5)) := (blk_cell BK217.out 7).trans rfl
      have hcz86_8 : wr.cell? ⟨gb217, 8, none⟩ = some (.int .i64 (rd t206 6)) := (blk_cell BK217.out 8).trans rfl
      have hfz86_0 := blk_frozen BK217.out 0
      have hfz86_1 := blk_frozen BK217.out 1
      have hfz86_2 := blk_frozen BK217.out 2
      have hfz86_3 := blk_frozen BK217.out 3
      have hfz86_4 := blk_frozen BK217.out 4
      have hfz86_5 := blk_frozen BK217.out 5
      have hfz86_6 := blk_frozen BK217.out 6
      have hfz86_7 := blk_frozen BK217.out 7
      have hfz86_8 := blk_frozen BK217.out 8
      have hcz87_0 : wr.cell? ⟨gb205, 0, none⟩ = some (.int .i64 x206000_2) := (blk_cell BK205.out 0).trans rfl
      have hcz87_1 : wr.cell? ⟨gb205, 1, none⟩ = some (.int .i64 x206001_2) := (blk_cell BK205.out 1).trans rfl
      have hcz87_2 : wr.cell? ⟨gb205, 2, none⟩ = some (.int .i64 x206002_2) := (blk_cell BK205.out 2).trans rfl
      have hcz87_3 : wr.cell? ⟨gb205, 3, none⟩ = some (.int .i64 x206003_2) := (blk_cell BK205.out 3).trans rfl
      have hcz87_4 : wr.cell? ⟨gb205, 4, none⟩ = some (.int .i64 x206004_2) := (blk_cell BK205.out 4).trans rfl
      have hcz87_5 : wr.cell? ⟨gb205, 5, none⟩ = some (.string x206005_2) := (blk_cell BK205.out 5).trans rfl
      have hcz87_6 : wr.cell? ⟨gb205, 6, none⟩ = some (.slice none 0 0) := (blk_cell BK205.out 6).trans rfl
      have hcz87_7 : wr.cell? ⟨gb205, 7, none⟩ = some (.int .i64 x206007_2) := (blk_cell BK205.out 7).trans rfl
      have hcz87_8 : wr.cell? ⟨gb205, 8, none⟩ = some (.int .i64 x206008_2) := (blk_cell BK205.out 8).trans rfl
      have hfz87_0 := blk_frozen BK205.out 0
      have hfz87_1 := blk_frozen BK205.out 1
      have hfz87_2 := blk_frozen BK205.out 2
      have hfz87_3 := blk_frozen BK205.out 3
      have hfz87_4 := blk_frozen BK205.out 4
      have hfz87_5 := blk_frozen BK205.out 5
      have hfz87_6 := blk_frozen BK205.out 6
      have hfz87_7 := blk_frozen BK205.out 7
      have hfz87_8 := blk_frozen BK205.out 8
      obtain ⟨Ao88, co88, eo88⟩ := Kd.R_slice HO_218006.out
      subst eo88
      go_wp2
      refine bodyPost_ret (results_ct rfl _ _ gb205 45 #[.int .i64 (rd t206 0), .int .i64 (rd t206 1), .int .i64 (rd t206 2), .int .i64 (rd t206 3), .int .i64 (rd t206 4), .string t218, .slice Ao88 x218006_2.length co88, .int .i64 (rd t206 5), .int .i64 (rd t206 6)] (0, 0) _ rfl (by (with_reducible repeat (first | refine blk_drewN ?_ _ | refine blk_drew ?_ | refine blk_alloc ?_ _)); refine blk_put (cs := #[.int .i64 (rd t206 0), .int .i64 (rd t206 1), .int .i64 (rd t206 2), .int .i64 (rd t206 3), .int .i64 (rd t206 4), .string t218, .slice Ao88 x218006_2.length co88, .int .i64 (rd t206 5), .int .i64 x206008_2]) ?_ 8 _ rfl; (with_reducible repeat (first | refine blk_drewN ?_ _ | refine blk_drew ?_ | refine blk_alloc ?_ _)); refine blk_put (cs := #[.int .i64 (rd t206 0), .int .i64 (rd t206 1), .int .i64 (rd t206 2), .int .i64 (rd t206 3), .int .i64 (rd t206 4), .string t218, .slice Ao88 x218006_2.length co88, .int .i64 x206007_2, .int .i64 x206008_2]) ?_ 7 _ rfl; (with_reducible repeat (first | refine blk_drewN ?_ _ | refine blk_drew ?_ | refine blk_alloc ?_ _)); refine blk_put (cs := #[.int .i64 (rd t206 0), .int .i64 (rd t206 1), .int .i64 (rd t206 2), .int .i64 (rd t206 3), .int .i64 (rd t206 4), .string t218, .slice none 0 0, .int .i64 x206007_2, .int .i64 x206008_2]) ?_ 6 _ rfl; (with_reducible repeat (first | refine blk_drewN ?_ _ | refine blk_drew ?_ | refine blk_alloc ?_ _)); refine blk_put (cs := #[.int .i64 (rd t206 0), .int .i64 (rd t206 1), .int .i64 (rd t206 2), .int .i64 (rd t206 3), .int .i64 (rd t206 4), .string x206005_2, .slice none 0 0, .int .i64 x206007_2, .int .i64 x206008_2]) ?_ 5 _ rfl; (with_reducible repeat (first | refine blk_drewN ?_ _ | refine blk_drew ?_ | refine blk_alloc ?_ _)); refine blk_put (cs := #[.int .i64 (rd t206 0), .int .i64 (rd t206 1), .int .i64 (rd t206 2), .int .i64 (rd t206 3), .int .i64 x206004_2, .string x206005_2, .slice none 0 0, .int .i64 x206007_2, .int .i64 x206008_2]) ?_ 4 _ rfl; (with_reducible repeat (first | refine blk_drewN ?_ _ | refine blk_drew ?_ | refine blk_alloc ?_ _)); refine blk_put (cs := #[.int .i64 (rd t206 0), .int .i64 (rd t206 1), .int .i64 (rd t206 2), .int .i64 x206003_2, .int .i64 x206004_2, .string x206005_2, .slice none 0 0, .int .i64 x206007_2, .int .i64 x206008_2]) ?_ 3 _ rfl; (with_reducible repeat (first | refine blk_drewN ?_ _ | refine blk_drew ?_ | refine blk_alloc ?_ _)); refine blk_put (cs := #[.int .i64 (rd t206 0), .int .i64 (rd t206 1), .int .i64 x206002_2, .int .i64 x206003_2, .int .i64 x206004_2, .string x206005_2, .slice none 0 0, .int .i64 x206007_2, .int .i64 x206008_2]) ?_ 2 _ rfl; (with_reducible repeat (first | refine blk_drewN ?_ _ | refine blk_drew ?_ | refine blk_alloc ?_ _)); refine blk_put (cs := #[.int .i64 (rd t206 0), .int .i64 x206001_2, .int .i64 x206002_2, .int .i64 x206003_2, .int .i64 x206004_2, .string x206005_2, .slice none 0 0, .int .i64 x206007_2, .int .i64 x206008_2]) ?_ 1 _ rfl; (with_reducible repeat (first | refine blk_drewN ?_ _ | refine blk_drew ?_ | refine blk_alloc ?_ _)); refine blk_put (cs := #[.int .i64 x206000_2, .int .i64 x206001_2, .int .i64 x206002_2, .int .i64 x206003_2, .int .i64 x206004_2, .string x206005_2, .slice none 0 0, .int .i64 x206007_2, .int .i64 x206008_2]) ?_ 0 _ rfl; (with_reducible repeat (first | refine blk_drewN ?_ _ | refine blk_drew ?_ | refine blk_alloc ?_ _)); exact BK205.out) Try.underlying45 rfl (by kernel_rfl)) rfl ?_
      exact ⟨_, by first | rfl | (simp [errW_none, errW_some] <;> rfl) | (simp [*, errW_none, errW_some] <;> rfl), by (with_reducible repeat (first | apply Kd.R_alloc | apply Kd.R_drewN | apply Kd.R_drew)); exact Kd.R_mono (Kd.R_far (p := ⟨gb205, 8, none⟩) (Kd.R_far (p := ⟨gb205, 7, none⟩) (Kd.R_far (p := ⟨gb205, 6, none⟩) (Kd.R_far (p := ⟨gb205, 5, none⟩) (Kd.R_far (p := ⟨gb205, 4, none⟩) (Kd.R_far (p := ⟨gb205, 3, none⟩) (Kd.R_far (p := ⟨gb205, 2, none⟩) (Kd.R_far (p := ⟨gb205, 1, none⟩) (Kd.R_far (p := ⟨gb205, 0, none⟩) (Kd.R_types HO_218006.out BK205.out (by decide)) (fun _ hk => hk.2) (.int .i64 (rd t206 0))) (fun _ hk => hk.2) (.int .i64 (rd t206 1))) (fun _ hk => hk.2) (.int .i64 (rd t206 2))) (fun _ hk => hk.2) (.int .i64 (rd t206 3))) (fun _ hk => hk.2) (.int .i64 (rd t206 4))) (fun _ hk => hk.2) (.string t218)) (fun _ hk => hk.2) (.slice Ao88 x218006_2.length co88)) (fun _ hk => hk.2) (.int .i64 (rd t206 5))) (fun _ hk => hk.2) (.int .i64 (rd t206 6))) (fun _ hk => trivial), by repeat (first | (with_reducible first | exact HB.out | apply below_alloc | apply pw_below_drewN | apply below_drew1 | refine below_set ?_ GE205.out | refine below_set ?_ GE217.out) | exact HB.out)⟩
     rw [if_pos c63] at H
     have c63b0 : decide (x11_2 < (rd t220 0)) = true := decide_eq_true c63
     clear c63
     replace H := Option.bind_eq_some_iff.mp H
     obtain ⟨⟨t226, t227⟩, A640, H⟩ := H
     replace H : ((spec_l8Vars.f k2 a0 t227 1).bind fun bt228 => (if bt228.2 < 0 then (some ((rd t206 0), (rd t206 1), (rd t206 2), (rd t206 3), (rd t206 4), t218, x218006_2, (rd t206 5), (rd t206 6), (-1))) else (if 0 < (bt228.1.length : Int) then (if x218006_2.length < 5864062014805 then (spec_l8Inode.l0 k2 a0 bt228.2 t220 (wrap64 (x11_2 + 1)) (rd t206 0) (rd t206 1) (rd t206 2) (rd t206 3) (rd t206 4) t218 (x218006_2 ++ [(⟨t226, rd bt228.1 0⟩ : S68)]) (rd t206 5) (rd t206 6)) else (none)) else (none)))) = some (r1, r2, r3, r4, r5, r6, r7, r8, r9, r10) := H
     have A64 := Aside0.mk A640
     clear A640
     replace H := Option.bind_eq_some_iff.mp H
     obtain ⟨⟨t228, t229⟩, A650, H⟩ := H
     replace H : (if t229 < 0 then (some ((rd t206 0), (rd t206 1), (rd t206 2), (rd t206 3), (rd t206 4), t218, x218006_2, (rd t206 5), (rd t206 6), (-1))) else (if 0 < (t228.length : Int) then (if x218006_2.length < 5864062014805 then (spec_l8Inode.l0 k2 a0 t229 t220 (wrap64 (x11_2 + 1)) (rd t206 0) (rd t206 1) (rd t206 2) (rd t206 3) (rd t206 4) t218 (x218006_2 ++ [(⟨t226, rd t228 0⟩ : S68)]) (rd t206 5) (rd t206 6)) else (none)) else (none))) = some (r1, r2, r3, r4, r5, r6, r7, r8, r9, r10) := H
     have A65 := Aside0.mk A650
     clear A650
     by_cases c66 : t229 < 0
     ·rw [if_pos c66] at H
      have c66b0 : decide (t229 < 0) = true := decide_eq_true c66
      clear c66
      simp only [Option.some.injEq, Prod.mk.injEq] at H
      obtain ⟨rfl, rfl, rfl, rfl, rfl, rfl, rfl, rfl, rfl, rfl⟩ := H
      obtain ⟨Ao67, co67, eo67⟩ := Kd.R_slice HO_10.out
      subst eo67
      have p225 : 0 ≤ (0 : Int) := (by omega)
      have q225 : 0 < (t220.length : Int) := of_decide_eq_true (by first | (with_reducible assumption) | assumption)
      obtain ⟨ad225, e225, hx225_0⟩ := Kd.at_int (Kd.R_reads' HO_10.out).2.2 0 p225 q225
      cases e225
      have qi225 : (0 < t220.length) = True := eq_true (by omega)
      (try rw [show ((0 : Int)).toNat = 0 from rfl] at hx225_0)
      (try rw [Addr.add_zero'] at hx225_0)
      replace p225 := eq_true p225
      replace q225 := eq_true q225
      go_wp2_with (first | ((with_reducible refine gate_callee (f := 74) rfl ?_); refine goesL_ (some 82) rfl rfl Try.func74 (by kernel_rfl) rfl #[.string a0, .int .i64 x7_2] rfl (by (try simp only [List.map_toArray, List.map_cons, List.map_nil]); first | done | rfl | (simp only [List.length_drop, List.length_take]; rfl)) ?_; (with_reducible refine (spec_l8Take.calls k2 a0 x7_2 t226 t227 _ A64.out).mono ?_); rintro e w68 ⟨rfl, hb⟩; refine ⟨_, rfl, ?_⟩; have n0_ := Aside0.mk (Kd.R_below (by (with_reducible repeat (first | apply Kd.R_alloc | apply Kd.R_drewN | apply Kd.R_drew)); exact HO_10.out) hb); have n1_ := Aside0.mk (Kd.R_below (by (with_reducible repeat (first | apply Kd.R_alloc | apply Kd.R_drewN | apply Kd.R_drew)); exact HO_218006.out) hb); have n2_ := Aside0.mk (blk_below (g := gb205) (o := .cells #[.int .i64 x206000_2, .int .i64 x206001_2, .int .i64 x206002_2, .int .i64 x206003_2, .int .i64 x206004_2, .string x206005_2, .slice none 0 0, .int .i64 x206007_2, .int .i64 x206008_2] 45 (0, 0)) (by (with_reducible repeat (first | refine blk_drewN ?_ _ | refine blk_drew ?_ | refine blk_alloc ?_ _)); exact BK205.out) hb); have n3_ := Aside0.mk (blk_below (g := gb217) (o := .cells #[.int .i64 (rd t206 0), .int .i64 (rd t206 1), .int .i64 (rd t206 2), .int .i64 (rd t206 3), .int .i64 (rd t206 4), .string t218, u218006, .int .i64 (rd t206 5), .int .i64 (rd t206 6)] 45 (0, 0)) (by (with_reducible repeat (first | refine blk_drewN ?_ _ | refine blk_drew ?_ | refine blk_alloc ?_ _)); exact BK217.out) hb); have n4_ := Aside0.mk (below_step (by repeat (first | (with_reducible first | exact HB.out | apply below_alloc | apply pw_below_drewN | apply below_drew1 | refine below_set ?_ GE205.out | refine below_set ?_ GE217.out) | exact HB.out)) hb); clear HO_10; clear HO_218006; clear BK205; clear BK217; clear HB; have HO_10 := n0_; have HO_218006 := n1_; have BK205 := n2_; have BK217 := n3_; have HB := n4_; clear n0_ n1_ n2_ n3_ n4_; (try clear hb); (try clear hb2); (try clear hk); (try clear hi)) | ((with_reducible refine gate_callee (f := 55) rfl ?_); refine goesL_ (some 88) rfl rfl Try.func55 (by kernel_rfl) rfl #[.string a0, .int .i64 t227, .int .i64 1] rfl (by (try simp only [List.map_toArray, List.map_cons, List.map_nil]); first | done | rfl | (simp only [List.length_drop, List.length_take]; rfl)) ?_; (with_reducible refine (spec_l8Vars.calls k2 a0 t227 1 t228 t229 _ A65.out).mono ?_); rintro e w69 ⟨v230, rfl, ho0, hb⟩; refine ⟨_, rfl, ?_⟩; have n0_ := Aside0.mk (Kd.R_elder' (by (with_reducible repeat (first | apply Kd.R_alloc | apply Kd.R_drewN | apply Kd.R_drew)); exact HO_10.out) (Kd.R_base ho0) hb); have n1_ := Aside0.mk (Kd.R_below (by (with_reducible repeat (first | apply Kd.R_alloc | apply Kd.R_drewN | apply Kd.R_drew)); exact HO_218006.out) hb); have n2_ := Aside0.mk (Kd.R_lower (Kd.R_new' ho0 (Kd.R_lt (by (with_reducible repeat (first | apply Kd.R_alloc | apply Kd.R_drewN | apply Kd.R_drew)); exact HO_10.out))) (below_size (by repeat (first | (with_reducible first | exact HB.out | apply below_alloc | apply pw_below_drewN | apply below_drew1 | refine below_set ?_ GE205.out | refine below_set ?_ GE217.out) | exact HB.out)))); have n3_ := Aside0.mk (blk_below (g := gb205) (o := .cells #[.int .i64 x206000_2, .int .i64 x206001_2, .int .i64 x206002_2, .int .i64 x206003_2, .int .i64 x206004_2, .string x206005_2, .slice none 0 0, .int .i64 x206007_2, .int .i64 x206008_2] 45 (0, 0)) (by (with_reducible repeat (first | refine blk_drewN ?_ _ | refine blk_drew ?_ | refine blk_alloc ?_ _)); exact BK205.out) hb); have n4_ := Aside0.mk (blk_below (g := gb217) (o := .cells #[.int .i64 (rd t206 0), .int .i64 (rd t206 1), .int .i64 (rd t206 2), .int .i64 (rd t206 3), .int .i64 (rd t206 4), .string t218, u218006, .int .i64 (rd t206 5), .int .i64 (rd t206 6)] 45 (0, 0)) (by (with_reducible repeat (first | refine blk_drewN ?_ _ | refine blk_drew ?_ | refine blk_alloc ?_ _)); exact BK217.out) hb); have n5_ := Aside0.mk (below_step (by repeat (first | (with_reducible first | exact HB.out | apply below_alloc | apply pw_below_drewN | apply below_drew1 | refine below_set ?_ GE205.out | refine below_set ?_ GE217.out) | exact HB.out)) hb); clear HO_10; clear HO_218006; clear BK205; clear BK217; clear HB; have HO_10 := n0_; have HO_218006 := n1_; have HO231 := n2_; have BK205 := n3_; have BK217 := n4_; have HB := n5_; clear n0_ n1_ n2_ n3_ n4_ n5_; (try clear hb); (try clear hb2); (try clear hk); (try clear hi); (try clear ho0); have hnb70 := NB217_205.out; have hnc70 := NB205_217.out; have hcz71_0 : w69.cell? ⟨gb217, 0, none⟩ = some (.int .i64 (rd t206 0)) := (blk_cell BK217.out 0).trans rfl; have hcz71_1 : w69.cell? ⟨gb217, 1, none⟩ = some (.int .i64 (rd t206 1)) := (blk_cell BK217.out 1).trans rfl; have hcz71_2 : w69.cell? ⟨gb217, 2, none⟩ = some (.int .i64 (rd t206 2)) := (blk_cell BK217.out 2).trans rfl; have hcz71_3 : w69.cell? ⟨gb217, 3, none⟩ = some (.int .i64 (rd t206 3)) := (blk_cell BK217.out 3).trans rfl; have hcz71_4 : w69.cell? ⟨gb217, 4, none⟩ = some (.int .i64 (rd t206 4)) := (blk_cell BK217.out 4).trans rfl; have hcz71_5 : w69.cell? ⟨gb217, 5, none⟩ = some (.string t218) := (blk_cell BK217.out 5).trans rfl; have hcz71_6 : w69.cell? ⟨gb217, 6, none⟩ = some (u218006) := (blk_cell BK217.out 6).trans rfl; have hcz71_7 : w69.cell? ⟨gb217, 7, none⟩ = some (.int .i64 (rd t206 5)) := (blk_cell BK217.out 7).trans rfl; have hcz71_8 : w69.cell? ⟨gb217, 8, none⟩ = some (.int .i64 (rd t206 6)) := (blk_cell BK217.out 8).trans rfl; have hfz71_0 := blk_frozen BK217.out 0; have hfz71_1 := blk_frozen BK217.out 1; have hfz71_2 := blk_frozen BK217.out 2; have hfz71_3 := blk_frozen BK217.out 3; have hfz71_4 := blk_frozen BK217.out 4; have hfz71_5 := blk_frozen BK217.out 5; have hfz71_6 := blk_frozen BK217.out 6; have hfz71_7 := blk_frozen BK217.out 7; have hfz71_8 := blk_frozen BK217.out 8; have hcz72_0 : w69.cell? ⟨gb205, 0, none⟩ = some (.int .i64 x206000_2) := (blk_cell BK205.out 0).trans rfl; have hcz72_1 : w69.cell? ⟨gb205, 1, none⟩ = some (.int .i64 x206001_2) := (blk_cell BK205.out 1).trans rfl; have hcz72_2 : w69.cell? ⟨gb205, 2, none⟩ = some (.int .i64 x206002_2) := (blk_cell BK205.out 2).trans rfl; have hcz72_3 : w69.cell? ⟨gb205, 3, none⟩ = some (.int .i64 x206003_2) := (blk_cell BK205.out 3).trans rfl; have hcz72_4 : w69.cell? ⟨gb205, 4, none⟩ = some (.int .i64 x206004_2) := (blk_cell BK205.out 4).trans rfl; have hcz72_5 : w69.cell? ⟨gb205, 5, none⟩ = some (.string x206005_2) := (blk_cell BK205.out 5).trans rfl; have hcz72_6 : w69.cell? ⟨gb205, 6, none⟩ = some (.slice none 0 0) := (blk_cell BK205.out 6).trans rfl; have hcz72_7 : w69.cell? ⟨gb205, 7, none⟩ = some (.int .i64 x206007_2) := (blk_cell BK205.out 7).trans rfl; have hcz72_8 : w69.cell? ⟨gb205, 8, none⟩ = some (.int .i64 x206008_2) := (blk_cell BK205.out 8).trans rfl; have hfz72_0 := blk_frozen BK205.out 0; have hfz72_1 := blk_frozen BK205.out 1; have hfz72_2 := blk_frozen BK205.out 2; have hfz72_3 := blk_frozen BK205.out 3; have hfz72_4 := blk_frozen BK205.out 4; have hfz72_5 := blk_frozen BK205.out 5; have hfz72_6 := blk_frozen BK205.out 6; have hfz72_7 := blk_frozen BK205.out 7; have hfz72_8 := blk_frozen BK205.out 8; obtain ⟨Ao73, co73, eo73⟩ := Kd.R_slice HO_218006.out; subst eo73))
      refine bodyPost_ret (results_ct rfl _ _ gb205 45 #[.int .i64 (rd t206 0), .int .i64 (rd t206 1), .int .i64 (rd t206 2), .int .i64 (rd t206 3), .int .i64 (rd t206 4), .string t218, .slice Ao73 x218006_2.length co73, .int .i64 (rd t206 5), .int .i64 (rd t206 6)] (0, 0) _ rfl (by (with_reducible repeat (first | refine blk_drewN ?_ _ | refine blk_drew ?_ | refine blk_alloc ?_ _)); refine blk_put (cs := #[.int .i64 (rd t206 0), .int .i64 (rd t206 1), .int .i64 (rd t206 2), .int .i64 (rd t206 3), .int .i64 (rd t206 4), .string t218, .slice Ao73 x218006_2.length co73, .int .i64 (rd t206 5), .int .i64 x206008_2]) ?_ 8 _ rfl; (with_reducible repeat (first | refine blk_drewN ?_ _ | refine blk_drew ?_ | refine blk_alloc ?_ _)); refine blk_put (cs := #[.int .i64 (rd t206 0), .int .i64 (rd t206 1), .int .i64 (rd t206 2), .int .i64 (rd t206 3), .int .i64 (rd t206 4), .string t218, .slice Ao73 x218006_2.length co73, .int .i64 x206007_2, .int .i64 x206008_2]) ?_ 7 _ rfl; (with_reducible repeat (first | refine blk_drewN ?_ _ | refine blk_drew ?_ | refine blk_alloc ?_ _)); refine blk_put (cs := #[.int .i64 (rd t206 0), .int .i64 (rd t206 1), .int .i64 (rd t206 2), .int .i64 (rd t206 3), .int .i64 (rd t206 4), .string t218, .slice none 0 0, .int .i64 x206007_2, .int .i64 x206008_2]) ?_ 6 _ rfl; (with_reducible repeat (first | refine blk_drewN ?_ _ | refine blk_drew ?_ | refine blk_alloc ?_ _)); refine blk_put (cs := #[.int .i64 (rd t206 0), .int .i64 (rd t206 1), .int .i64 (rd t206 2), .int .i64 (rd t206 3), .int .i64 (rd t206 4), .string x206005_2, .slice none 0 0, .int .i64 x206007_2, .int .i64 x206008_2]) ?_ 5 _ rfl; (with_reducible repeat (first | refine blk_drewN ?_ _ | refine blk_drew ?_ | refine blk_alloc ?_ _)); refine blk_put (cs := #[.int .i64 (rd t206 0), .int .i64 (rd t206 1), .int .i64 (rd t206 2), .int .i64 (rd t206 3), .int .i64 x206004_2, .string x206005_2, .slice none 0 0, .int .i64 x206007_2, .int .i64 x206008_2]) ?_ 4 _ rfl; (with_reducible repeat (first | refine blk_drewN ?_ _ | refine blk_drew ?_ | refine blk_alloc ?_ _)); refine blk_put (cs := #[.int .i64 (rd t206 0), .int .i64 (rd t206 1), .int .i64 (rd t206 2), .int .i64 x206003_2, .int .i64 x206004_2, .string x206005_2, .slice none 0 0, .int .i64 x206007_2, .int .i64 x206008_2]) ?_ 3 _ rfl; (with_reducible repeat (first | refine blk_drewN ?_ _ | refine blk_drew ?_ | refine blk_alloc ?_ _)); refine blk_put (cs := #[.int .i64 (rd t206 0), .int .i64 (rd t206 1), .int .i64 x206002_2, .int .i64 x206003_2, .int .i64 x206004_2, .string x206005_2, .slice none 0 0, .int .i64 x206007_2, .int .i64 x206008_2]) ?_ 2 _ rfl; (with_reducible repeat (first | refine blk_drewN ?_ _ | refine blk_drew ?_ | refine blk_alloc ?_ _)); refine blk_put (cs := #[.int .i64 (rd t206 0), .int .i64 x206001_2, .int .i64 x206002_2, .int .i64 x206003_2, .int .i64 x206004_2, .string x206005_2, .slice none 0 0, .int .i64 x206007_2, .int .i64 x206008_2]) ?_ 1 _ rfl; (with_reducible repeat (first | refine blk_drewN ?_ _ | refine blk_drew ?_ | refine blk_alloc ?_ _)); refine blk_put (cs := #[.int .i64 x206000_2, .int .i64 x206001_2, .int .i64 x206002_2, .int .i64 x206003_2, .int .i64 x206004_2, .string x206005_2, .slice none 0 0, .int .i64 x206007_2, .int .i64 x206008_2]) ?_ 0 _ rfl; (with_reducible repeat (first | refine blk_drewN ?_ _ | refine blk_drew ?_ | refine blk_alloc ?_ _)); exact BK205.out) Try.underlying45 rfl (by kernel_rfl)) rfl ?_
      exact ⟨_, by first | rfl | (simp [errW_none, errW_some] <;> rfl) | (simp [*, errW_none, errW_some] <;> rfl), by (with_reducible repeat (first | apply Kd.R_alloc | apply Kd.R_drewN | apply Kd.R_drew)); exact Kd.R_mono (Kd.R_far (p := ⟨gb205, 8, none⟩) (Kd.R_far (p := ⟨gb205, 7, none⟩) (Kd.R_far (p := ⟨gb205, 6, none⟩) (Kd.R_far (p := ⟨gb205, 5, none⟩) (Kd.R_far (p := ⟨gb205, 4, none⟩) (Kd.R_far (p := ⟨gb205, 3, none⟩) (Kd.R_far (p := ⟨gb205, 2, none⟩) (Kd.R_far (p := ⟨gb205, 1, none⟩) (Kd.R_far (p := ⟨gb205, 0, none⟩) (Kd.R_types HO_218006.out BK205.out (by decide)) (fun _ hk => hk.2) (.int .i64 (rd t206 0))) (fun _ hk => hk.2) (.int .i64 (rd t206 1))) (fun _ hk => hk.2) (.int .i64 (rd t206 2))) (fun _ hk => hk.2) (.int .i64 (rd t206 3))) (fun _ hk => hk.2) (.int .i64 (rd t206 4))) (fun _ hk => hk.2) (.string t218)) (fun _ hk => hk.2) (.slice Ao73 x218006_2.length co73)) (fun _ hk => hk.2) (.int .i64 (rd t206 5))) (fun _ hk => hk.2) (.int .i64 (rd t206 6))) (fun _ hk => trivial), by repeat (first | (with_reducible first | exact HB.out | apply below_alloc | apply pw_below_drewN | apply below_drew1 | refine below_set ?_ GE205.out | refine below_set ?_ GE217.out) | exact HB.out)⟩
     rw [if_neg c66] at H
     have c66b0 : decide (t229 < 0) = false := decide_eq_false c66
     clear c66
     by_cases c74 : 0 < (t228.length : Int)
     rotate_left
     ·rw [if_neg c74] at H
      exact absurd H (by simp)
     rw [if_pos c74] at H
     have c74b0 : decide (0 < (t228.length : Int)) = true := decide_eq_true c74
     have c74b1 : decide (0 < t228.length) = true := decide_eq_true (by omega)
     clear c74
     by_cases c75 : x218006_2.length < 5864062014805
     rotate_left
     ·rw [if_neg c75] at H
      exact absurd H (by simp)
     rw [if_pos c75] at H
     have LMc75 := Aside0.mk c75
     clear c75
     obtain ⟨y233, hy233⟩ : ∃ y_ : List (S68), y_ = (x218006_2 ++ [(⟨t226, rd t228 0⟩ : S68)]) := ⟨_, rfl⟩
     replace H : (spec_l8Inode.l0 k2 a0 t229 t220 (wrap64 (x11_2 + 1)) (rd t206 0) (rd t206 1) (rd t206 2) (rd t206 3) (rd t206 4) t218 y233 (rd t206 5) (rd t206 6)) = some (r1, r2, r3, r4, r5, r6, r7, r8, r9, r10) := by first | (rw [hy233]; with_reducible exact H) | (have H2_ := (Option.bind_some _ _).symm.trans H; rw [hy233]; with_reducible exact H2_) | (have H2_ := (Option.bind_some _ _).symm.trans H; with_reducible exact H2_) | with_reducible exact H | (rw [hy233]; exact H) | exact H
     have Ny233 := Aside0.mk hy233
     clear hy233
     have H' := Aside0.mk H
     clear H
     obtain ⟨Ao76, co76, eo76⟩ := Kd.R_slice HO_10.out
     subst eo76
     have p225 : 0 ≤ (0 : Int) := (by omega)
     have q225 : 0 < (t220.length : Int) := of_decide_eq_true (by first | (with_reducible assumption) | assumption)
     obtain ⟨ad225, e225, hx225_0⟩ := Kd.at_int (Kd.R_reads' HO_10.out).2.2 0 p225 q225
     cases e225
     have qi225 : (0 < t220.length) = True := eq_true (by omega)
     (try rw [show ((0 : Int)).toNat = 0 from rfl] at hx225_0)
     (try rw [Addr.add_zero'] at hx225_0)
     replace p225 := eq_true p225
     replace q225 := eq_true q225
     try go_wp2_with (first | ((with_reducible refine gate_callee (f := 74) rfl ?_); refine goesL_ (some 82) rfl rfl Try.func74 (by kernel_rfl) rfl #[.string a0, .int .i64 x7_2] rfl (by (try simp only [List.map_toArray, List.map_cons, List.map_nil]); first | done | rfl | (simp only [List.length_drop, List.length_take]; rfl)) ?_; (with_reducible refine (spec_l8Take.calls k2 a0 x7_2 t226 t227 _ A64.out).mono ?_); rintro e w77 ⟨rfl, hb⟩; refine ⟨_, rfl, ?_⟩; have n0_ := Aside0.mk (Kd.R_below (by (with_reducible repeat (first | apply Kd.R_alloc | apply Kd.R_drewN | apply Kd.R_drew)); exact HO_10.out) hb); have n1_ := Aside0.mk (Kd.R_below (by (with_reducible repeat (first | apply Kd.R_alloc | apply Kd.R_drewN | apply Kd.R_drew)); exact HO_218006.out) hb); have n2_ := Aside0.mk (blk_below (g := gb205) (o := .cells #[.int .i64 x206000_2, .int .i64 x206001_2, .int .i64 x206002_2, .int .i64 x206003_2, .int .i64 x206004_2, .string x206005_2, .slice none 0 0, .int .i64 x206007_2, .int .i64 x206008_2] 45 (0, 0)) (by (with_reducible repeat (first | refine blk_drewN ?_ _ | refine blk_drew ?_ | refine blk_alloc ?_ _)); exact BK205.out) hb); have n3_ := Aside0.mk (blk_below (g := gb217) (o := .cells #[.int .i64 (rd t206 0), .int .i64 (rd t206 1), .int .i64 (rd t206 2), .int .i64 (rd t206 3), .int .i64 (rd t206 4), .string t218, u218006, .int .i64 (rd t206 5), .int .i64 (rd t206 6)] 45 (0, 0)) (by (with_reducible repeat (first | refine blk_drewN ?_ _ | refine blk_drew ?_ | refine blk_alloc ?_ _)); exact BK217.out) hb); have n4_ := Aside0.mk (below_step (by repeat (first | (with_reducible first | exact HB.out | apply below_alloc | apply pw_below_drewN | apply below_drew1 | refine below_set ?_ GE205.out | refine below_set ?_ GE217.out) | exact HB.out)) hb); clear HO_10; clear HO_218006; clear BK205; clear BK217; clear HB; have HO_10 := n0_; have HO_218006 := n1_; have BK205 := n2_; have BK217 := n3_; have HB := n4_; clear n0_ n1_ n2_ n3_ n4_; (try clear hb); (try clear hb2); (try clear hk); (try clear hi)) | ((with_reducible refine gate_callee (f := 55) rfl ?_); refine goesL_ (some 88) rfl rfl Try.func55 (by kernel_rfl) rfl #[.string a0, .int .i64 t227, .int .i64 1] rfl (by (try simp only [List.map_toArray, List.map_cons, List.map_nil]); first | done | rfl | (simp only [List.length_drop, List.length_take]; rfl)) ?_; (with_reducible refine (spec_l8Vars.calls k2 a0 t227 1 t228 t229 _ A65.out).mono ?_); rintro e w78 ⟨v230, rfl, ho0, hb⟩; refine ⟨_, rfl, ?_⟩; have n0_ := Aside0.mk (Kd.R_elder' (by (with_reducible repeat (first | apply Kd.R_alloc | apply Kd.R_drewN | apply Kd.R_drew)); exact HO_10.out) (Kd.R_base ho0) hb); have n1_ := Aside0.mk (Kd.R_below (by (with_reducible repeat (first | apply Kd.R_alloc | apply Kd.R_drewN | apply Kd.R_drew)); exact HO_218006.out) hb); have n2_ := Aside0.mk (Kd.R_lower (Kd.R_new' ho0 (Kd.R_lt (by (with_reducible repeat (first | apply Kd.R_alloc | apply Kd.R_drewN | apply Kd.R_drew)); exact HO_10.out))) (below_size (by repeat (first | (with_reducible first | exact HB.out | apply below_alloc | apply pw_below_drewN | apply below_drew1 | refine below_set ?_ GE205.out | refine below_set ?_ GE217.out) | exact HB.out)))); have n3_ := Aside0.mk (blk_below (g := gb205) (o := .cells #[.int .i64 x206000_2, .int .i64 x206001_2, .int .i64 x206002_2, .int .i64 x206003_2, .int .i64 x206004_2, .string x206005_2, .slice none 0 0, .int .i64 x206007_2, .int .i64 x206008_2] 45 (0, 0)) (by (with_reducible repeat (first | refine blk_drewN ?_ _ | refine blk_drew ?_ | refine blk_alloc ?_ _)); exact BK205.out) hb); have n4_ := Aside0.mk (blk_below (g := gb217) (o := .cells #[.int .i64 (rd t206 0), .int .i64 (rd t206 1), .int .i64 (rd t206 2), .int .i64 (rd t206 3), .int .i64 (rd t206 4), .string t218, u218006, .int .i64 (rd t206 5), .int .i64 (rd t206 6)] 45 (0, 0)) (by (with_reducible repeat (first | refine blk_drewN ?_ _ | refine blk_drew ?_ | refine blk_alloc ?_ _)); exact BK217.out) hb); have n5_ := Aside0.mk (below_step (by repeat (first | (with_reducible first | exact HB.out | apply below_alloc | apply pw_below_drewN | apply below_drew1 | refine below_set ?_ GE205.out | refine below_set ?_ GE217.out) | exact HB.out)) hb); clear HO_10; clear HO_218006; clear BK205; clear BK217; clear HB; have HO_10 := n0_; have HO_218006 := n1_; have HO231 := n2_; have BK205 := n3_; have BK217 := n4_; have HB := n5_; clear n0_ n1_ n2_ n3_ n4_ n5_; (try clear hb); (try clear hb2); (try clear hk); (try clear hi); (try clear ho0)))
     have n0_ := Aside0.mk (Kd.R_drew HO_10.out)
     have n1_ := Aside0.mk (Kd.R_drew HO_218006.out)
     have n2_ := Aside0.mk (Kd.R_drew HO231.out)
     have n3_ := Aside0.mk (blk_drew BK205.out)
     have n4_ := Aside0.mk (blk_drew BK217.out)
     have n5_ := Aside0.mk (below_drew1 HB.out)
     clear HO_10
     clear HO_218006
     clear HO231
     clear BK205
     clear BK217
     clear HB
     have HO_10 := n0_
     have HO_218006 := n1_
     have HO231 := n2_
     have BK205 := n3_
     have BK217 := n4_
     have HB := n5_
     clear n0_ n1_ n2_ n3_ n4_ n5_
     obtain ⟨Ao80, co80, eo80⟩ := Kd.R_slice HO231.out
     (first | subst eo80 | (injection eo80 with f1_ f2_ f3_; have f4_ := f1_.symm; have f5_ := f3_.symm; clear f1_ f2_ f3_; subst f4_; subst f5_))
     have p232 : 0 ≤ (0 : Int) := (by omega)
     have q232 : 0 < (t228.length : Int) := of_decide_eq_true (by first | (with_reducible assumption) | assumption)
     obtain ⟨ad232, e232, hx232_0⟩ := Kd.at_int (Kd.R_reads' HO231.out).2.2 0 p232 q232
     cases e232
     have qi232 : (0 < t228.length) = True := eq_true (by omega)
     (try rw [show ((0 : Int)).toNat = 0 from rfl] at hx232_0)
     (try rw [Addr.add_zero'] at hx232_0)
     replace p232 := eq_true p232
     replace q232 := eq_true q232
     refine start_ (n := 11) (S := fun w' => w'.cell? ⟨gb217, 0, none⟩ = some (.int .i64 (rd t206 0)) ∧ w'.cell? ⟨gb217, 1, none⟩ = some (.int .i64 (rd t206 1)) ∧ w'.cell? ⟨gb217, 2, none⟩ = some (.int .i64 (rd t206 2)) ∧ w'.cell? ⟨gb217, 3, none⟩ = some (.int .i64 (rd t206 3)) ∧ w'.cell? ⟨gb217, 4, none⟩ = some (.int .i64 (rd t206 4)) ∧ w'.cell? ⟨gb217, 5, none⟩ = some (.string t218) ∧ w'.cell? ⟨gb217, 6, none⟩ = some (u218006) ∧ w'.cell? ⟨gb217, 7, none⟩ = some (.int .i64 (rd t206 5)) ∧ w'.cell? ⟨gb217, 8, none⟩ = some (.int .i64 (rd t206 6)) ∧ w'.cell? ad232 = some (.int .i64 (rd t228 0))) (ds := [8, 10]) #[false, false, false, false, false, false, false, false, false, false, false] (by kernel_rfl) rfl rfl ⟨(blk_cell BK217.out 0).trans rfl, (blk_cell BK217.out 1).trans rfl, (blk_cell BK217.out 2).trans rfl, (blk_cell BK217.out 3).trans rfl, (blk_cell BK217.out 4).trans rfl, (blk_cell BK217.out 5).trans rfl, (blk_cell BK217.out 6).trans rfl, (blk_cell BK217.out 7).trans rfl, (blk_cell BK217.out 8).trans rfl, hx232_0⟩ (fun hHeld => ?_); refine with_tabW spec_l8Inode.tab19 spec_l8Inode.bits19 (fun HT_ HW_ => ?_)
     generalize w78.drew = w79 at HO_10 HO_218006 HO231 BK205 BK217 HB hx232_0 hHeld ⊢
     refine pure_ (i := 0) (N := some 94) (v := ?_) (a' := ?_) #[true, false, false, false, false, false, false, false, false, false, false] rfl rfl (any_of HT_.out (by kernel_rfl)) (fun _ _ _ h => h) (Or.inl ⟨by rfl, ?_⟩) ?_ ?_
     rotate_left
     ·intro w'
      go_simp
      with_reducible rfl
     rotate_left
     ·simp only [Act.put, List.setIfInBounds_toArray, List.set_cons_zero, List.set_cons_succ, i64_w, i32_w]
      rfl
     refine pure_ (i := 2) (N := some 96) (v := ?_) (a' := ?_) #[true, false, true, false, false, false, false, false, false, false, false] rfl rfl (any_of HT_.out (by kernel_rfl)) (fun _ _ _ h => h) (Or.inl ⟨by rfl, ?_⟩) ?_ ?_
     rotate_left
     ·intro w'
      go_simp
      with_reducible rfl
     rotate_left
     ·simp only [Act.put, List.setIfInBounds_toArray, List.set_cons_zero, List.set_cons_succ, i64_w, i32_w]
      rfl
     refine pure_ (i := 3) (N := some 97) (v := ?_) (a' := ?_) #[true, false, true, true, false, false, false, false, false, false, false] rfl rfl (any_of HT_.out (by kernel_rfl)) (fun _ _ _ h => h) (Or.inl ⟨by rfl, ?_⟩) ?_ ?_
     rotate_left
     ·intro w'
      go_simp
      with_reducible rfl
     rotate_left
     ·simp only [Act.put, List.setIfInBounds_toArray, List.set_cons_zero, List.set_cons_succ, i64_w, i32_w]
      rfl
     refine pure_ (i := 4) (N := some 98) (v := ?_) (a' := ?_) #[true, false, true, true, true, false, false, false, false, false, false] rfl rfl (any_of HT_.out (by kernel_rfl)) (fun _ _ _ h => h) (Or.inl ⟨by rfl, ?_⟩) ?_ ?_
     rotate_left
     ·intro w'
      go_simp
      with_reducible rfl
     rotate_left
     ·simp only [Act.put, List.setIfInBounds_toArray, List.set_cons_zero, List.set_cons_succ, i64_w, i32_w]
      rfl
     refine take_ (i := 1) (N := some 95) (v := ?_) (a' := ?_) #[true, true, true, true, true, false, false, false, false, false, false] rfl rfl (take_ofW HT_.out HW_.out (by kernel_rfl)) (fun _ _ _ h => h) (Or.inl ⟨by rfl, ?_⟩) hHeld ?_ ?_
     rotate_left
     ·rintro w' ⟨s0, s1, s2, s3, s4, s5, s6, s7, s8, s9⟩
      go_simp
      with_reducible rfl
     rotate_left
     ·simp only [Act.put, List.setIfInBounds_toArray, List.set_cons_zero, List.set_cons_succ, i64_w, i32_w]
      rfl
     refine take_ (i := 5) (N := some 99) (v := ?_) (a' := ?_) #[true, true, true, true, true, true, false, false, false, false, false] rfl rfl (take_ofW HT_.out HW_.out (by kernel_rfl)) (fun _ _ _ h => h) (Or.inl ⟨by rfl, ?_⟩) hHeld ?_ ?_
     rotate_left
     ·rintro w' ⟨s0, s1, s2, s3, s4, s5, s6, s7, s8, s9⟩
      go_simp
      with_reducible rfl
     rotate_left
     ·simp only [Act.put, List.setIfInBounds_toArray, List.set_cons_zero, List.set_cons_succ, i64_w, i32_w]
      rfl
     refine pure_ (i := 6) (N := some 100) (v := ?_) (a' := ?_) #[true, true, true, true, true, true, true, false, false, false, false] rfl rfl (any_of HT_.out (by kernel_rfl)) (fun _ _ _ h => h) (Or.inl ⟨by rfl, ?_⟩) ?_ ?_
     rotate_left
     ·intro w'
      go_simp
      with_reducible rfl
     rotate_left
     ·simp only [Act.put, List.setIfInBounds_toArray, List.set_cons_zero, List.set_cons_succ, i64_w, i32_w]
      rfl
     refine one_ (i := 7) (N := some 101) #[true, true, true, true, true, true, true, true, false, false, false] rfl rfl (one_of HT_.out (by kernel_rfl)) (by decide) (fun K hK => ?_)
     refine value_ (w1 := ?_) (v := ?_) (by rfl) rfl ?_ ?_
     rotate_left 2
     ·go_simp
      constructor
      ·rfl
      ·rfl
     refine hK.out _ _ ⟨(blk_cell (blk_alloc BK217.out _) 0).trans rfl, (blk_cell (blk_alloc BK217.out _) 1).trans rfl, (blk_cell (blk_alloc BK217.out _) 2).trans rfl, (blk_cell (blk_alloc BK217.out _) 3).trans rfl, (blk_cell (blk_alloc BK217.out _) 4).trans rfl, (blk_cell (blk_alloc BK217.out _) 5).trans rfl, (blk_cell (blk_alloc BK217.out _) 6).trans rfl, (blk_cell (blk_alloc BK217.out _) 7).trans rfl, (blk_cell (blk_alloc BK217.out _) 8).trans rfl, (World.cell?_alloc_lt _ _ _ (World.block_lt_of_cell? _ _ (hHeld.2.2.2.2.2.2.2.2.2))).trans (hHeld.2.2.2.2.2.2.2.2.2)⟩ (fun hHeld => ?_)
     clear hK K
     refine norm_ (a' := ?_) ?_ ?_
     rotate_left
     ·show Act.put _ (some 101) _ = _
      simp only [Act.put, List.setIfInBounds_toArray, List.set_cons_zero, List.set_cons_succ, i64_w, i32_w]
      rfl
     refine last_ (i := 8) (N := some 102) #[true, true, true, true, true, true, true, true, true, false, false] rfl rfl (one_of HT_.out (by kernel_rfl)) (by decide) (fun K hK => ?_)
     refine Kd.R_append_step k68 (w0 := w) w.heap.size (by rfl) (.tmp 95) (.tmp 101) 43 68 (.agg #[(.string ⟨#[]⟩), (.int .i64 0)]) 24 rfl Try.underlying43 info68 rfl (by decide) (by omega) u218006 x218006_2 (⟨t226, rd t228 0⟩ : S68) [.string t226, .int .i64 (rd t228 0)] (fun _ => True) (fun _ => False) rfl rfl ?aP (fun _ hk => hk.elim) ?aF ?aO ?aB ?aS ?aL ?_
     (case aP => exact k68_mkM _ _ _ (⟨t226, rd t228 0⟩ : S68))
     (case aB => exact (by repeat (first | (with_reducible first | exact HB.out | apply below_alloc | apply pw_below_drewN | apply below_drew1 | refine below_set ?_ GE205.out | refine below_set ?_ GE217.out) | exact HB.out)))
     (case aF => exact (fun _ _ => trivial))
     (case aO => exact (by (with_reducible repeat (first | apply Kd.R_alloc | apply Kd.R_drewN | apply Kd.R_drew)); exact HO_218006.out))
     (case aS => exact (below_size (by repeat (first | (with_reducible first | exact HB.out | apply below_alloc | apply pw_below_drewN | apply below_drew1 | refine below_set ?_ GE205.out | refine below_set ?_ GE217.out) | exact HB.out))))
     (case aL => have := LMc75.out; omega)
     intro v234 w81 ho hb hg hat
     rw [← Ny233.out] at ho
     have n0_ := Aside0.mk (Kd.R_over' (by (with_reducible repeat (first | apply Kd.R_alloc | apply Kd.R_drewN | apply Kd.R_drew)); exact HO_10.out) (Kd.R_typed (by (with_reducible repeat (first | apply Kd.R_alloc | apply Kd.R_drewN | apply Kd.R_drew)); exact HO_218006.out)) (by decide) hg)
     have n1_ := Aside0.mk (blk_grown (g := gb205) (o := .cells #[.int .i64 x206000_2, .int .i64 x206001_2, .int .i64 x206002_2, .int .i64 x206003_2, .int .i64 x206004_2, .string x206005_2, .slice none 0 0, .int .i64 x206007_2, .int .i64 x206008_2] 45 (0, 0)) (by (with_reducible repeat (first | refine blk_drewN ?_ _ | refine blk_drew ?_ | refine blk_alloc ?_ _)); exact BK205.out) hg (Kd.R_ne HO_218006.out BK205.out (by decide)))
     have n2_ := Aside0.mk (blk_grown (g := gb217) (o := .cells #[.int .i64 (rd t206 0), .int .i64 (rd t206 1), .int .i64 (rd t206 2), .int .i64 (rd t206 3), .int .i64 (rd t206 4), .string t218, u218006, .int .i64 (rd t206 5), .int .i64 (rd t206 6)] 45 (0, 0)) (by (with_reducible repeat (first | refine blk_drewN ?_ _ | refine blk_drew ?_ | refine blk_alloc ?_ _)); exact BK217.out) hg (Kd.R_ne HO_218006.out BK217.out (by decide)))
     have n3_ := Aside0.mk (Kd.R_over' (by (with_reducible repeat (first | apply Kd.R_alloc | apply Kd.R_drewN | apply Kd.R_drew)); exact HO231.out) (Kd.R_typed (by (with_reducible repeat (first | apply Kd.R_alloc | apply Kd.R_drewN | apply Kd.R_drew)); exact HO_218006.out)) (by decide) hg)
     have n4_ := Aside0.mk (hb)
     have n5_ := Aside0.mk (ho)
     clear HO_10
     clear BK205
     clear BK217
     clear HO231
     clear HB
     clear HO_218006
     have HO_10 := n0_
     have BK205 := n1_
     have BK217 := n2_
     have HO231 := n3_
     have HB := n4_
     have HO235 := n5_
     clear n0_ n1_ n2_ n3_ n4_ n5_
     clear ho hb hg hat
     obtain ⟨Ao82, co82, eo82⟩ := Kd.R_slice HO235.out
     (first | subst eo82 | (injection eo82 with f1_ f2_ f3_; have f4_ := f1_.symm; have f5_ := f3_.symm; clear f1_ f2_ f3_; subst f4_; subst f5_))
     refine hK.out _ _ ?_
     clear hK K
     refine norm_ (a' := ?_) ?_ ?_
     rotate_left
     ·show Act.put _ (some 102) _ = _
      simp only [Act.put, List.setIfInBounds_toArray, List.set_cons_zero, List.set_cons_succ, i64_w, i32_w]
      rfl
     refine pure_ (i := 9) (N := some 103) (v := ?_) (a' := ?_) #[true, true, true, true, true, true, true, true, true, true, false] rfl rfl (any_of HT_.out (by kernel_rfl)) (fun _ _ _ h => h) (Or.inl ⟨by rfl, ?_⟩) ?_ ?_
     rotate_left
     ·intro w'
      go_simp
      with_reducible rfl
     rotate_left
     ·simp only [Act.put, List.setIfInBounds_toArray, List.set_cons_zero, List.set_cons_succ, i64_w, i32_w]
      rfl
     refine last_ (i := 10) (N := none) #[true, true, true, true, true, true, true, true, true, true, true] rfl rfl (one_of HT_.out (by kernel_rfl)) (by decide) (fun K hK => ?_)
     have hs83 : w81.cell? ⟨gb217, 6, none⟩ = some (u218006) := (blk_cell BK217.out 6).trans rfl
     have hfs83 := blk_frozen BK217.out 6
     have hns83_0 := NB205_217.out
     have hms83_0 := NB217_205.out
     refine skip_ (w1 := ?_) (by rfl) rfl ?_ ?_
     rotate_left
     ·go_simp
      rfl
     refine hK.out _ _ ?_
     clear hK K
     refine done_ (done_of HT_.out (by kernel_rfl)) ?_
     try go_wp2
     go_roundg k2
     case measure => have := HJ35.out; have := HK2.out; omega
     case rel => exact ⟨(t229), (wrap64 (x11_2 + 1)), (x206000_2), (x206001_2), (x206002_2), (x206003_2), (x206004_2), (x206005_2), (x206007_2), (x206008_2), (y233), (.slice Ao82 y233.length co82), (by first | rfl | (simp; done) | (simp [*]; done) | (simp; exact (fun (l : List UInt8) => (by cases l <;> rfl : l.isEmpty = !(l != []))) _)), (by first | rfl | (simp; done) | (simp [*]; done) | (simp; exact (fun (l : List UInt8) => (by cases l <;> rfl : l.isEmpty = !(l != []))) _)), H', ⟨by have := HJ35.out; have := HK2.out; omega⟩, ⟨by (with_reducible repeat (first | apply Kd.R_alloc | apply Kd.R_drewN | apply Kd.R_drew)); exact Kd.R_mono (Kd.R_far (p := ⟨gb217, 6, none⟩) (Kd.R_types HO_10.out BK217.out (by decide)) (fun _ hk => hk.2) (.slice Ao82 y233.length co82)) (fun _ hk => trivial)⟩, ⟨by (with_reducible repeat (first | apply Kd.R_alloc | apply Kd.R_drewN | apply Kd.R_drew)); exact Kd.R_mono (Kd.R_far (p := ⟨gb217, 6, none⟩) (Kd.R_types HO235.out BK217.out (by decide)) (fun _ hk => hk.2) (.slice Ao82 y233.length co82)) (fun _ hk => trivial)⟩, ⟨by (with_reducible repeat (first | refine blk_drewN ?_ _ | refine blk_drew ?_ | refine blk_alloc ?_ _)); refine blk_far ?_ NB205_217.out _; (with_reducible repeat (first | refine blk_drewN ?_ _ | refine blk_drew ?_ | refine blk_alloc ?_ _)); exact BK205.out⟩, ⟨by (with_reducible repeat (first | refine blk_drewN ?_ _ | refine blk_drew ?_ | refine blk_alloc ?_ _)); refine blk_put (cs := #[.int .i64 (rd t206 0), .int .i64 (rd t206 1), .int .i64 (rd t206 2), .int .i64 (rd t206 3), .int .i64 (rd t206 4), .string t218, u218006, .int .i64 (rd t206 5), .int .i64 (rd t206 6)]) ?_ 6 _ rfl; (with_reducible repeat (first | refine blk_drewN ?_ _ | refine blk_drew ?_ | refine blk_alloc ?_ _)); exact BK217.out⟩, ⟨by repeat (first | (with_reducible first | exact HB.out | apply below_alloc | apply pw_below_drewN | apply below_drew1 | refine below_set ?_ GE205.out | refine below_set ?_ GE217.out) | exact HB.out)⟩⟩
end Go.Proofs.Ytiopcpkfjikfdaa.PFnExactVolOk
