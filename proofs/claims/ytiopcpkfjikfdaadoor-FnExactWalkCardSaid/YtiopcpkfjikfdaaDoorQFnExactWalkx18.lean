/- Written by a program of mine (qprint.py, over the kit's print.py, and texts by hand) for the law FnExactWalk: the functions that it reaches, as Lean functions, and that the program answers as they do. -/
import Derived.Test.YtiopcpkfjikfdaaDoorQFnExactWalkx0
import Derived.Test.YtiopcpkfjikfdaaDoorQFnExactWalkx6
import Derived.Test.YtiopcpkfjikfdaaDoorQFnExactWalkx7
import Derived.Test.YtiopcpkfjikfdaaDoorQFnExactWalkx10
import Derived.Test.YtiopcpkfjikfdaaDoorQFnExactWalkx17
namespace Go.Proofs.YtiopcpkfjikfdaaDoor.PFnExactWalk
open Go.RowKit Go.Proofs.YtiopcpkfjikfdaaDoorW.PrintWords Go.Proofs.YtiopcpkfjikfdaaDoorW.PrintLast Go.Proofs.YtiopcpkfjikfdaaDoorW.PrintMore
attribute [local go_sem] max2_int min2_int max_two min_two max_three min_three max_four min_four   -- for this text's walks alone
set_option linter.unusedVariables false
set_option linter.unusedSimpArgs false

section
open Go.Proofs.YtiopcpkfjikfdaaDoor.Mth Go.Proofs.YtiopcpkfjikfdaaDoor.Str
/-! ### a volume is equal to itself, wherever it lies -/
set_option maxHeartbeats 1000000 in
set_option maxRecDepth 100000 in
theorem eqD_any (s : ByteArray) (i : Int) (w : World) : Calls Tryd.prog 110 #[.agg #[.string s, .int .i64 i], .agg #[.string s, .int .i64 i]] w fun e w' => e = .returned (.bool true) ∧ Below w.heap.size w w' := by
 have HB := zM (Below.refl w.heap.size w)
 go_enter Tryd.func110, Tryd.ntmps110
 go_wp2
 go_ret
 exact ⟨rfl, by repeat (first | (with_reducible first | exact HB.out | apply zA | apply zN | apply zD) | exact HB.out)⟩
set_option maxHeartbeats 1000000 in
set_option maxRecDepth 100000 in
theorem eqDs_any (w : World) (A : Option Addr) (c n : Nat) (B : Option Addr) (d : Nat) (ds : List S117) (hr : Kd.C k117 w A n ds) (hc : n ≤ c) (hq : Kd.C k117 w B n ds) (hd : n ≤ d) (h1 : n ≤ 50000000) :
  Calls Tryd.prog 101 #[.slice A n c, .slice B n d] w fun e w' => e = .returned (.bool true) ∧ Below w.heap.size w w' := by
 have hl : n = ds.length := hr.1.symm
 have HR := zM hr
 have HQ := zM hq
 have HB := zM (Below.refl w.heap.size w)
 clear hr hq hc hd
 go_enter Tryd.func101, Tryd.ntmps101
 go_wp2
 go_loopg [5] n (fun kq v5 w' => ∃ (x : Nat), v5 = .int .i64 (x : Int) ∧ Aside0 (x + kq = n) ∧ Aside0 (Below w.heap.size w w'))
 case atStart => exact ⟨0, rfl, ⟨by omega⟩, HB⟩
 case round =>
  clear HB
  obtain ⟨x, rfl, HX, HB⟩ := hrel
  by_cases hlt : x < n
  ·cases gk with
   | zero => have := HX.out; omega
   | succ k1 =>
   have hlm : x < ds.length := by omega
   obtain ⟨ad, eA, hx0, hx1⟩ := at_T117 HR.out (x : Int) (by omega) (by omega)
   obtain ⟨bd, eB, hz0, hz1⟩ := at_T117 HQ.out (x : Int) (by omega) (by omega)
   rw [Int.toNat_natCast, rd68 _ x hlm] at hx0 hx1 hz0 hz1
   subst eA
   subst eB
   generalize ds[x] = z at hx0 hx1 hz0 hz1
   have hy0 : ∀ y : Grow wr, y.W.cell? (ad.add (x * 2)) = some (.string z.f0) := fun y => y.cell (pw_cell_below HB.out hx0)
   have hy1 : ∀ y : Grow wr, y.W.cell? ⟨(ad.add (x * 2)).block, (ad.add (x * 2)).off + 1, none⟩ = some (.int .i64 z.f1) := fun y => y.cell (pw_cell_below HB.out hx1)
   have hy2 : ∀ y : Grow wr, y.W.cell? (bd.add (x * 2)) = some (.string z.f0) := fun y => y.cell (pw_cell_below HB.out hz0)
   have hy3 : ∀ y : Grow wr, y.W.cell? ⟨(bd.add (x * 2)).block, (bd.add (x * 2)).off + 1, none⟩ = some (.int .i64 z.f1) := fun y => y.cell (pw_cell_below HB.out hz1)
   have HT := zM (fun y : Grow wr => eqD_any z.f0 z.f1 y.W)
   clear hlm hx0 hx1 hz0 hz1
   go_wp2
   refine wp_region_grow (by kernel_rfl) (by kernel_rfl) ?_
   repeat (go_big_quiet_step (first | (go_at_call 110; exact grow_call (HT.out _))))
   refine wpQuiet_nil ?_
   rintro _ ⟨yw, rfl⟩
   have HBy := zM (zH HB.out HB.out.size yw.hb)
   generalize yw.W = wy at HBy ⊢
   clear hy0 hy1 hy2 hy3 HT HB
   go_wp2
   go_roundg k1
   case measure => omega
   case rel => exact ⟨x + 1, by go_num, ⟨by have := HX.out; omega⟩, HBy⟩
  ·have hlt' : ¬ (x : Int) < (n : Int) := by omega
   clear hlt
   go_wp2
   go_ret
   exact ⟨rfl, HB.out⟩
set_option maxHeartbeats 1000000 in
set_option maxRecDepth 100000 in
theorem eqI_any (w : World) (x0 x1 x2 x3 x4 x7 x8 : Int) (s : ByteArray) (A : Option Addr) (c n : Nat) (B : Option Addr) (d : Nat) (ds : List S117) (hr : Kd.C k117 w A n ds) (hc : n ≤ c) (hq : Kd.C k117 w B n ds) (hd : n ≤ d) (h1 : n ≤ 50000000) :
  Calls Tryd.prog 83 #[.agg #[.int .i64 x0, .int .i64 x1, .int .i64 x2, .int .i64 x3, .int .i64 x4, .string s, .slice A n c, .int .i64 x7, .int .i64 x8], .agg #[.int .i64 x0, .int .i64 x1, .int .i64 x2, .int .i64 x3, .int .i64 x4, .string s, .slice B n d, .int .i64 x7, .int .i64 x8]] w fun e w' => e = .returned (.bool true) ∧ Below w.heap.size w w' := by
 have HB := zM (Below.refl w.heap.size w)
 have HT := zM (fun (W : World) (hW : Below w.heap.size w W) => eqDs_any W A c n B d ds (Kd.C_below hr hW) hc (Kd.C_below hq hW) hd h1)
 clear hr hq hc hd h1
 go_enter Tryd.func83, Tryd.ntmps83
 go_wp2_with (go_at_call 101; refine (HT.out _ (by repeat (first | exact HB.out | apply zA | apply zN | apply zD))).mono ?_; rintro e w1 ⟨rfl, hb⟩; have HB2 := zM (zH (show Below w.heap.size w _ by repeat (first | (with_reducible first | exact HB.out | apply zA | apply zN | apply zD) | exact HB.out)) (zZ (by repeat (first | exact HB.out | apply zA | apply zN | apply zD))) hb); have z7 : World.cell? w1 ⟨w.heap.size, 7, none⟩ = some (.int .i64 x7) := (zC (zL (zB (blk_new w _) _) hb) 7).trans rfl; have z8 : World.cell? w1 ⟨w.heap.size, 8, none⟩ = some (.int .i64 x8) := (zC (zL (zB (blk_new w _) _) hb) 8).trans rfl; have u7 : World.cell? w1 ⟨w.heap.size + 1, 7, none⟩ = some (.int .i64 x7) := (zC (zL (heap_alloc2_new w _ _) hb) 7).trans rfl; have u8 : World.cell? w1 ⟨w.heap.size + 1, 8, none⟩ = some (.int .i64 x8) := (zC (zL (heap_alloc2_new w _ _) hb) 8).trans rfl; clear hb)
 go_ret
 exact ⟨rfl, HB2.out⟩
set_option maxHeartbeats 1000000 in
set_option maxRecDepth 100000 in
theorem eqIs_any (w : World) (A : Option Addr) (c n : Nat) (B : Option Addr) (d : Nat) (l : List S90) (hr : Kd.C k90 w A n l) (hc : n ≤ c) (hq : Kd.C k90 w B n l) (hd : n ≤ d) (hs : volSmall l) :
  Calls Tryd.prog 47 #[.slice A n c, .slice B n d] w fun e w' => e = .returned (.bool true) ∧ Below w.heap.size w w' := by
 have hl : n = l.length := hr.1.symm
 have hn1 : n ≤ 1048576 := by have := hs.1; omega
 have HR := zM hr
 have HQ := zM hq
 have HS := zM hs
 have HB := zM (Below.refl w.heap.size w)
 clear hr hq hc hd hs
 go_enter Tryd.func47, Tryd.ntmps47
 go_wp2
 go_loopg [5] n (fun kq v5 w' => ∃ (x : Nat), v5 = .int .i64 (x : Int) ∧ Aside0 (x + kq = n) ∧ Aside0 (Below w.heap.size w w'))
 case atStart => exact ⟨0, rfl, ⟨by omega⟩, HB⟩
 case round =>
  clear HB
  obtain ⟨x, rfl, HX, HB⟩ := hrel
  by_cases hlt : x < n
  ·cases gk with
   | zero => have := HX.out; omega
   | succ k1 =>
   have hlx : x < l.length := by omega
   have hl6 : l[x].f6.length ≤ 1048576 := HS.out.2.1 _ (List.getElem_mem hlx)
   obtain ⟨ad, A6, c6, eA, hx0, hx1, hx2, hx3, hx4, hx5, hx6, hx7, hx8, hc6, hR6⟩ := at_T90 HR.out (x : Int) (by omega) (by omega)
   obtain ⟨bd, B6, d6, eB, hz0, hz1, hz2, hz3, hz4, hz5, hz6, hz7, hz8, hd6, hQ6⟩ := at_T90 HQ.out (x : Int) (by omega) (by omega)
   rw [Int.toNat_natCast, rd45 _ x hlx] at hx0 hx1 hx2 hx3 hx4 hx5 hx6 hx7 hx8 hz0 hz1 hz2 hz3 hz4 hz5 hz6 hz7 hz8
   rw [rd45 _ x hlx] at hc6 hR6 hd6 hQ6
   generalize l[x] = z at hx0 hx1 hx2 hx3 hx4 hx5 hx6 hx7 hx8 hc6 hR6 hl6 hz0 hz1 hz2 hz3 hz4 hz5 hz6 hz7 hz8 hd6 hQ6
   subst eA
   subst eB
   have hy0 := fun y : Grow wr => y.cell (pw_cell_below HB.out hx0)
   have hy1 := fun y : Grow wr => y.cell (pw_cell_below HB.out hx1)
   have hy2 := fun y : Grow wr => y.cell (pw_cell_below HB.out hx2)
   have hy3 := fun y : Grow wr => y.cell (pw_cell_below HB.out hx3)
   have hy4 := fun y : Grow wr => y.cell (pw_cell_below HB.out hx4)
   have hy5 := fun y : Grow wr => y.cell (pw_cell_below HB.out hx5)
   have hy6 := fun y : Grow wr => y.cell (pw_cell_below HB.out hx6)
   have hy7 := fun y : Grow wr => y.cell (pw_cell_below HB.out hx7)
   have hy8 := fun y : Grow wr => y.cell (pw_cell_below HB.out hx8)
   have hv0 := fun y : Grow wr => y.cell (pw_cell_below HB.out hz0)
   have hv1 := fun y : Grow wr => y.cell (pw_cell_below HB.out hz1)
   have hv2 := fun y : Grow wr => y.cell (pw_cell_below HB.out hz2)
   have hv3 := fun y : Grow wr => y.cell (pw_cell_below HB.out hz3)
   have hv4 := fun y : Grow wr => y.cell (pw_cell_below HB.out hz4)
   have hv5 := fun y : Grow wr => y.cell (pw_cell_below HB.out hz5)
   have hv6 := fun y : Grow wr => y.cell (pw_cell_below HB.out hz6)
   have hv7 := fun y : Grow wr => y.cell (pw_cell_below HB.out hz7)
   have hv8 := fun y : Grow wr => y.cell (pw_cell_below HB.out hz8)
   have HT := zM (fun y : Grow wr => eqI_any y.W z.f0 z.f1 z.f2 z.f3 z.f4 z.f7 z.f8 z.f5 A6 c6 z.f6.length B6 d6 z.f6 (Kd.C_below hR6 (zH HB.out HB.out.size y.hb)) hc6 (Kd.C_below hQ6 (zH HB.out HB.out.size y.hb)) hd6 (by omega))
   clear hlx hx0 hx1 hx2 hx3 hx4 hx5 hx6 hx7 hx8 hz0 hz1 hz2 hz3 hz4 hz5 hz6 hz7 hz8 hR6 hQ6 hc6 hd6
   go_wp2
   refine wp_region_grow (by kernel_rfl) (by kernel_rfl) ?_
   repeat (go_big_quiet_step (first | (go_at_call 83; exact grow_call (HT.out _))))
   refine wpQuiet_nil ?_
   rintro _ ⟨yw, rfl⟩
   have HBy := zM (zH HB.out HB.out.size yw.hb)
   generalize yw.W = wy at HBy ⊢
   clear hy0 hy1 hy2 hy3 hy4 hy5 hy6 hy7 hy8 hv0 hv1 hv2 hv3 hv4 hv5 hv6 hv7 hv8 HT HB
   go_wp2
   go_roundg k1
   case measure => omega
   case rel => exact ⟨x + 1, by go_num, ⟨by have := HX.out; omega⟩, HBy⟩
  ·have hlt' : ¬ (x : Int) < (n : Int) := by omega
   clear hlt
   go_wp2
   go_ret
   exact ⟨rfl, HB.out⟩
set_option maxHeartbeats 1000000 in
set_option maxRecDepth 100000 in
theorem eqVol_any (w : World) (nx : Int) (A : Option Addr) (c n : Nat) (B : Option Addr) (d : Nat) (l : List S90) (hr : Kd.C k90 w A n l) (hc : n ≤ c) (hq : Kd.C k90 w B n l) (hd : n ≤ d) (hs : volSmall l) :
  Calls Tryd.prog 23 #[.agg #[.int .i64 nx, .slice A n c], .agg #[.int .i64 nx, .slice B n d]] w fun e w' => e = .returned (.bool true) ∧ Below w.heap.size w w' := by
 have HB := zM (Below.refl w.heap.size w)
 have HT := zM (fun (W : World) (hW : Below w.heap.size w W) => eqIs_any W A c n B d l (Kd.C_below hr hW) hc (Kd.C_below hq hW) hd hs)
 clear hr hq hc hd hs
 go_enter Tryd.func23, Tryd.ntmps23
 go_wp2_with (go_at_call 47; refine (HT.out _ (by repeat (first | exact HB.out | apply zA | apply zN | apply zD))).mono ?_; rintro e w1 ⟨rfl, hb⟩; have HB2 := zM (zH (show Below w.heap.size w _ by repeat (first | (with_reducible first | exact HB.out | apply zA | apply zN | apply zD) | exact HB.out)) (zZ (by repeat (first | exact HB.out | apply zA | apply zN | apply zD))) hb); clear hb)
 go_ret
 exact ⟨rfl, HB2.out⟩
/-! ### equal volumes, told -/
def eqD1 (x y : S117) : Bool := decide (x.f0 = y.f0) && x.f1 == y.f1
def eqDl : List S117 → List S117 → Bool
 | [], [] => true
 | x :: a, y :: b => eqD1 x y && eqDl a b
 | _, _ => false
def eqI1 (x y : S90) : Bool := x.f0 == y.f0 && (x.f1 == y.f1 && (x.f2 == y.f2 && (x.f3 == y.f3 && (x.f4 == y.f4 && (decide (x.f5 = y.f5) && (eqDl x.f6 y.f6 && (x.f7 == y.f7 && x.f8 == y.f8)))))))
def eqIl : List S90 → List S90 → Bool
 | [], [] => true
 | x :: a, y :: b => eqI1 x y && eqIl a b
 | _, _ => false
theorem eqDl_iff : ∀ a b, eqDl a b = true ↔ a = b
 | [], [] => by simp [eqDl]
 | [], y :: b => by simp [eqDl]
 | x :: a, [] => by simp [eqDl]
 | ⟨x0, x1⟩ :: a, ⟨y0, y1⟩ :: b => by
  rw [eqDl, Bool.and_eq_true, eqDl_iff a b]
  unfold eqD1
  simp
theorem eqIl_iff : ∀ a b, eqIl a b = true ↔ a = b
 | [], [] => by simp [eqIl]
 | [], y :: b => by simp [eqIl]
 | x :: a, [] => by simp [eqIl]
 | ⟨x0, x1, x2, x3, x4, x5, x6, x7, x8⟩ :: a, ⟨y0, y1, y2, y3, y4, y5, y6, y7, y8⟩ :: b => by
  rw [eqIl, Bool.and_eq_true, eqIl_iff a b]
  unfold eqI1
  simp [eqDl_iff]
end

section
open Go.Proofs.YtiopcpkfjikfdaaDoor.Mth Go.Proofs.YtiopcpkfjikfdaaDoor.Str
/-! ### who calls is equal to himself -/
set_option maxHeartbeats 1000000 in
set_option maxRecDepth 100000 in
theorem eqInts_any (w : World) (A : Option Addr) (c n : Nat) (B : Option Addr) (d : Nat) (l : List Int) (hr : Kd.C (Kd.int .i64) w A n l) (hc : n ≤ c) (hq : Kd.C (Kd.int .i64) w B n l) (hd : n ≤ d) (h1 : n ≤ 1048576) :
  Calls Tryd.prog 48 #[.slice A n c, .slice B n d] w fun e w' => e = .returned (.bool true) ∧ Below w.heap.size w w' := by
 have HR := zM hr
 have HQ := zM hq
 have HB := zM (Below.refl w.heap.size w)
 clear hr hq hc hd
 go_enter Tryd.func48, Tryd.ntmps48
 go_wp2
 go_loopg [5] n (fun kq v5 w' => ∃ (x : Nat), v5 = .int .i64 (x : Int) ∧ Aside0 (x + kq = n) ∧ Aside0 (Below w.heap.size w w'))
 case atStart => exact ⟨0, rfl, ⟨by omega⟩, HB⟩
 case round =>
  clear HB
  obtain ⟨x, rfl, HX, HB⟩ := hrel
  by_cases hlt : x < n
  ·cases gk with
   | zero => have := HX.out; omega
   | succ k1 =>
   have hli : (x : Int) < (n : Int) := by omega
   obtain ⟨ad, eA, hx0⟩ := Kd.at_int HR.out (x : Int) (by omega) hli
   obtain ⟨bd, eB, hz0⟩ := Kd.at_int HQ.out (x : Int) (by omega) hli
   rw [Int.toNat_natCast] at hx0 hz0
   subst eA
   subst eB
   generalize rd l (x : Int) = z at hx0 hz0
   have hy0 := fun y : Grow wr => y.cell (pw_cell_below HB.out hx0)
   have hy1 := fun y : Grow wr => y.cell (pw_cell_below HB.out hz0)
   clear hx0 hz0
   go_wp2
   refine wp_region_grow (by kernel_rfl) (by kernel_rfl) ?_
   repeat (go_big_quiet_step (fail))
   refine wpQuiet_nil ?_
   rintro _ ⟨yw, rfl⟩
   have HBy := zM (zH HB.out HB.out.size yw.hb)
   generalize yw.W = wy at HBy ⊢
   clear hy0 hy1 HB
   go_wp2
   go_roundg k1
   case measure => omega
   case rel => exact ⟨x + 1, by go_num, ⟨by have := HX.out; omega⟩, HBy⟩
  ·have hlt' : ¬ (x : Int) < (n : Int) := by omega
   clear hlt
   go_wp2
   go_ret
   exact ⟨rfl, HB.out⟩
set_option maxHeartbeats 1000000 in
set_option maxRecDepth 100000 in
theorem eqCred_any (w : World) (u g : Int) (A : Option Addr) (c n : Nat) (B : Option Addr) (d : Nat) (l : List Int) (hr : Kd.C (Kd.int .i64) w A n l) (hc : n ≤ c) (hq : Kd.C (Kd.int .i64) w B n l) (hd : n ≤ d) (h1 : n ≤ 1048576) :
  Calls Tryd.prog 24 #[.agg #[.int .i64 u, .int .i64 g, .slice A n c], .agg #[.int .i64 u, .int .i64 g, .slice B n d]] w fun e w' => e = .returned (.bool true) ∧ Below w.heap.size w w' := by
 have HB := zM (Below.refl w.heap.size w)
 have HT := zM (fun (W : World) (hW : Below w.heap.size w W) => eqInts_any W A c n B d l (Kd.C_below hr hW) hc (Kd.C_below hq hW) hd h1)
 clear hr hq hc hd h1
 go_enter Tryd.func24, Tryd.ntmps24
 go_wp2_with (go_at_call 48; refine (HT.out _ (by repeat (first | exact HB.out | apply zA | apply zN | apply zD))).mono ?_; rintro e w1 ⟨rfl, hb⟩; have HB2 := zM (zH (show Below w.heap.size w _ by repeat (first | (with_reducible first | exact HB.out | apply zA | apply zN | apply zD) | exact HB.out)) (zZ (by repeat (first | exact HB.out | apply zA | apply zN | apply zD))) hb); clear hb)
 go_ret
 exact ⟨rfl, HB2.out⟩
end

/-! ### spec_Walk: function 18 (by hand) -/
def spec_Walk.f (a0_0 : Int) (l0_1 : List (S90)) (a1_0 : Int) (a1_1 : Int) (l1_2 : List Int) (a2 : ByteArray) (a3 : Bool) : Option (Int × ByteArray × Int × Int) := if volSmallB l0_1 = true ∧ a2.size ≤ 1048576 then some (walkT a0_0 l0_1 a1_0 a1_1 l1_2 a2 a3) else none
theorem spec_Walk.calls (a0_0 : Int) (A0_1 : Option Addr) (c0_1 : Nat) (l0_1 : List (S90)) (a1_0 : Int) (a1_1 : Int) (A1_2 : Option Addr) (c1_2 : Nat) (l1_2 : List Int) (a2 : ByteArray) (a3 : Bool) (r1 : Int) (r2 : ByteArray) (r3 : Int) (r4 : Int) (w : World) (hr0_1 : Kd.C k90 w A0_1 l0_1.length l0_1) (hc0_1 : l0_1.length ≤ c0_1) (hr1_2 : Kd.C (Kd.int .i64) w A1_2 l1_2.length l1_2) (hc1_2 : l1_2.length ≤ c1_2) (h : spec_Walk.f a0_0 l0_1 a1_0 a1_1 l1_2 a2 a3 = some (r1, r2, r3, r4)) :
  Calls Tryd.prog 18 #[.agg #[.int .i64 a0_0, .slice A0_1 l0_1.length c0_1], .agg #[.int .i64 a1_0, .int .i64 a1_1, .slice A1_2 l1_2.length c1_2], .string a2, .bool a3] w fun e w' => e = .returned (.agg #[.int .i64 r1, .string r2, .int .i64 r3, .int .i64 r4]) ∧ Below w.heap.size w w' := by
 unfold spec_Walk.f at h
 by_cases hs : volSmallB l0_1 = true ∧ a2.size ≤ 1048576
 ·rw [if_pos hs] at h
  have e := zI h
  have H := walkTS_any a0_0 A0_1 c0_1 l0_1 a1_0 a1_1 A1_2 c1_2 l1_2 a2 a3 w hr0_1 hc0_1 ((volSmallB_iff l0_1).1 hs.1) hr1_2 hc1_2 hs.2
  rw [e] at H
  exact H
 ·rw [if_neg hs] at h
  exact absurd h (by simp)

/-! ### impl_Walk: function 21 (by hand) -/
def impl_Walk.f (a0_0 : Int) (l0_1 : List (S90)) (a1_0 : Int) (a1_1 : Int) (l1_2 : List Int) (a2 : ByteArray) (a3 : Bool) : Option (Int × ByteArray × Int × Int) := if volSmallB l0_1 = true ∧ a2.size ≤ 1048576 then some (walkT a0_0 l0_1 a1_0 a1_1 l1_2 a2 a3) else none
theorem impl_Walk.callsM (m0 : Int) (a0_0 : Int) (A0_1 : Option Addr) (c0_1 : Nat) (l0_1 : List (S90)) (a1_0 : Int) (a1_1 : Int) (A1_2 : Option Addr) (c1_2 : Nat) (l1_2 : List Int) (a2 : ByteArray) (a3 : Bool) (r1 : Int) (r2 : ByteArray) (r3 : Int) (r4 : Int) (w : World) (hr0_1 : Kd.C k90 w A0_1 l0_1.length l0_1) (hc0_1 : l0_1.length ≤ c0_1) (hr1_2 : Kd.C (Kd.int .i64) w A1_2 l1_2.length l1_2) (hc1_2 : l1_2.length ≤ c1_2) (h : impl_Walk.f a0_0 l0_1 a1_0 a1_1 l1_2 a2 a3 = some (r1, r2, r3, r4)) (hm0 : w.cell? ⟨0, 0, none⟩ = some (.int .i64 m0)) :
  Calls Tryd.prog 21 #[.agg #[.int .i64 a0_0, .slice A0_1 l0_1.length c0_1], .agg #[.int .i64 a1_0, .int .i64 a1_1, .slice A1_2 l1_2.length c1_2], .string a2, .bool a3] w fun e w' => e = .returned (.agg #[.int .i64 r1, .string r2, .int .i64 r3, .int .i64 r4]) ∧ Below w.heap.size w w' := by
 unfold impl_Walk.f at h
 by_cases hs : volSmallB l0_1 = true ∧ a2.size ≤ 1048576
 ·rw [if_pos hs] at h
  have e := zI h
  have H := walkTI_any a0_0 A0_1 c0_1 l0_1 a1_0 a1_1 A1_2 c1_2 l1_2 a2 a3 m0 w hr0_1 hc0_1 ((volSmallB_iff l0_1).1 hs.1) hr1_2 hc1_2 hs.2 hm0
  rw [e] at H
  exact H
 ·rw [if_neg hs] at h
  exact absurd h (by simp)

/-! ### laws_eqVol: function 23 (by hand) -/
def laws_eqVol.f (a0_0 : Int) (l0_1 : List (S90)) (a1_0 : Int) (l1_1 : List (S90)) : Option (Bool) := if (a0_0 == a1_0 && (eqIl l0_1 l1_1 && volSmallB l0_1)) = true then some true else none
theorem laws_eqVol.calls (a0_0 : Int) (A0_1 : Option Addr) (c0_1 : Nat) (l0_1 : List (S90)) (a1_0 : Int) (A1_1 : Option Addr) (c1_1 : Nat) (l1_1 : List (S90)) (r : Bool) (w : World) (hr0_1 : Kd.C k90 w A0_1 l0_1.length l0_1) (hc0_1 : l0_1.length ≤ c0_1) (hr1_1 : Kd.C k90 w A1_1 l1_1.length l1_1) (hc1_1 : l1_1.length ≤ c1_1) (h : laws_eqVol.f a0_0 l0_1 a1_0 l1_1 = some r) :
  Calls Tryd.prog 23 #[.agg #[.int .i64 a0_0, .slice A0_1 l0_1.length c0_1], .agg #[.int .i64 a1_0, .slice A1_1 l1_1.length c1_1]] w fun e w' => e = .returned (.bool r) ∧ Below w.heap.size w w' := by
 unfold laws_eqVol.f at h
 by_cases hs : (a0_0 == a1_0 && (eqIl l0_1 l1_1 && volSmallB l0_1)) = true
 ·rw [if_pos hs] at h
  simp only [Bool.and_eq_true, beq_iff_eq, eqIl_iff] at hs
  obtain ⟨rfl, rfl, h3⟩ := hs
  obtain rfl := zI h
  exact eqVol_any w a0_0 A0_1 c0_1 _ A1_1 c1_1 l0_1 hr0_1 hc0_1 hr1_1 hc1_1 ((volSmallB_iff l0_1).1 h3)
 ·rw [if_neg hs] at h
  exact absurd h (by simp)

/-! ### laws_eqCred: function 24 (by hand) -/
def laws_eqCred.f (a0_0 : Int) (a0_1 : Int) (l0_2 : List Int) (a1_0 : Int) (a1_1 : Int) (l1_2 : List Int) : Option (Bool) := if (a0_0 == a1_0 && (a0_1 == a1_1 && (l0_2 == l1_2 && decide (l0_2.length ≤ 1048576)))) = true then some true else none
theorem laws_eqCred.calls (a0_0 : Int) (a0_1 : Int) (A0_2 : Option Addr) (c0_2 : Nat) (l0_2 : List Int) (a1_0 : Int) (a1_1 : Int) (A1_2 : Option Addr) (c1_2 : Nat) (l1_2 : List Int) (r : Bool) (w : World) (hr0_2 : Kd.C (Kd.int .i64) w A0_2 l0_2.length l0_2) (hc0_2 : l0_2.length ≤ c0_2) (hr1_2 : Kd.C (Kd.int .i64) w A1_2 l1_2.length l1_2) (hc1_2 : l1_2.length ≤ c1_2) (h : laws_eqCred.f a0_0 a0_1 l0_2 a1_0 a1_1 l1_2 = some r) :
  Calls Tryd.prog 24 #[.agg #[.int .i64 a0_0, .int .i64 a0_1, .slice A0_2 l0_2.length c0_2], .agg #[.int .i64 a1_0, .int .i64 a1_1, .slice A1_2 l1_2.length c1_2]] w fun e w' => e = .returned (.bool r) ∧ Below w.heap.size w w' := by
 unfold laws_eqCred.f at h
 by_cases hs : (a0_0 == a1_0 && (a0_1 == a1_1 && (l0_2 == l1_2 && decide (l0_2.length ≤ 1048576)))) = true
 ·rw [if_pos hs] at h
  simp only [Bool.and_eq_true, beq_iff_eq, decide_eq_true_eq] at hs
  obtain ⟨rfl, rfl, rfl, h3⟩ := hs
  obtain rfl := zI h
  exact eqCred_any w a0_0 a0_1 A0_2 c0_2 _ A1_2 c1_2 l0_2 hr0_2 hc0_2 hr1_2 hc1_2 h3
 ·rw [if_neg hs] at h
  exact absurd h (by simp)

end Go.Proofs.YtiopcpkfjikfdaaDoor.PFnExactWalk
