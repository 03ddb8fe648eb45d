/- Written by a program of mine (qprint.py, over the kit's print.py, and texts by hand) for the law FnExactWalk: the functions that it reaches, as Lean functions, and that the program answers as they do. -/
import Derived.Test.YtiopcpkfjikfdaaDoorQFnExactWalkx0
import Derived.Test.YtiopcpkfjikfdaaDoorQFnExactWalkx6
import Derived.Test.YtiopcpkfjikfdaaDoorQFnExactWalkx7
namespace Go.Proofs.YtiopcpkfjikfdaaDoor.PFnExactWalk
open Go.RowKit Go.Proofs.YtiopcpkfjikfdaaDoorW.PrintWords Go.Proofs.YtiopcpkfjikfdaaDoorW.PrintLast Go.Proofs.YtiopcpkfjikfdaaDoorW.PrintMore
attribute [local go_sem] max2_int min2_int max_two min_two max_three min_three max_four min_four   -- for this text's walks alone
set_option linter.unusedVariables false
set_option linter.unusedSimpArgs false

section
open Go.Proofs.YtiopcpkfjikfdaaDoor.Mth Go.Proofs.YtiopcpkfjikfdaaDoor.Str
/-! ### a directory's names -/
def dAt (ds : List S117) (i : Nat) : S117 := ds.getD i z117
theorem dAt_eq (ds : List S117) (i : Nat) (h : i < ds.length) : dAt ds i = ds[i] := by
 unfold dAt
 rw [List.getD_eq_getElem?_getD, List.getElem?_eq_getElem h]; rfl
def lessS (a b : ByteArray) : Bool := Op.bytesLess a.toList b.toList
def nameAtB (l : List S90) (ds : List S117) (i : Nat) : Bool := nmB (dAt ds i).f0 && (!((dAt ds i).f1 == 1) && (decide (inoI l (dAt ds i).f1 < l.length) && (i == 0 || lessS (dAt ds (i - 1)).f0 (dAt ds i).f0)))
def namesFrom (l : List S90) (ds : List S117) : Nat → Nat → Bool
 | 0, _ => decide (ds.length ≤ 12)
 | k + 1, i => nameAtB l ds i && namesFrom l ds k (i + 1)
def namesOkB (l : List S90) (ds : List S117) : Bool := namesFrom l ds ds.length 0
def dSmall (ds : List S117) : Prop := ds.length ≤ 1048576 ∧ ∀ d ∈ ds, d.f0.size ≤ 1048576
theorem inoP_eq (ad : Addr) (l : List S90) (id : Int) : inoP (some ad) l id = if decide (inoI l id < l.length) = true then .pointer (some (ad.add (inoI l id * 9))) else .pointer none := by
 unfold inoP
 by_cases h : inoI l id < l.length
 ·rw [if_pos h, if_pos (zE h)]; rfl
 ·rw [if_neg h, if_neg (by simpa using h)]
set_option maxHeartbeats 4000000 in
set_option maxRecDepth 100000 in
theorem namesOk_any (w : World) (g : Nat) (nx : Int) (A : Option Addr) (c : Nat) (l : List S90) (h : VolAt w g nx A c l) (x0 x1 x2 x3 x4 p q : Int) (s : ByteArray) (A6 : Option Addr) (c6 : Nat) (ds : List S117) (hR : Kd.C k117 w A6 ds.length ds) (hS : dSmall ds) :
  Calls Tryd.prog 95 #[.pointer (some ⟨g, 0, none⟩), .agg #[.int .i64 x0, .int .i64 x1, .int .i64 x2, .int .i64 x3, .int .i64 x4, .string s, .slice A6 ds.length c6, .int .i64 p, .int .i64 q]] w fun e w' =>
   e = .returned (.bool (namesOkB l ds)) ∧ Below w.heap.size w w' := by
 have hu29 := Tryd.underlying45
 have hu45 := Tryd.underlying90
 have hu68 := Tryd.underlying117
 have hm : ds.length ≤ 9223372036854775807 := hR.2.1
 have HV := zM h
 have HR := zM hR
 have HS := zM hS
 clear h hR hS
 go_enter Tryd.func95, Tryd.ntmps95
 go_wp2
 generalize hq : w.alloc (.cells #[.int .i64 x0, .int .i64 x1, .int .i64 x2, .int .i64 x3, .int .i64 x4, .string s, .slice A6 ds.length c6, .int .i64 p, .int .i64 q] 90) = w1
 have HB1 := zM (show Below w.heap.size w w1 from by rw [← hq]; exact zA (Below.refl _ _) _)
 have HK6 := zM (show w1.cell? ⟨w.heap.size, 6, none⟩ = some (.slice A6 ds.length c6) from by rw [← hq]; exact (zC (heap_alloc_new w _) 6).trans rfl)
 have HLb := zM (show w.heap.size < w1.heap.size from by rw [← hq]; simp)
 have HV1 := zM (HV.out.below HB1.out)
 have HR1 := zM (Kd.C_below HR.out HB1.out)
 obtain ⟨gb, hgb⟩ : ∃ q, q = w.heap.size := ⟨_, rfl⟩
 rw [← hgb] at HK6 HLb ⊢
 have HG := zM hgb
 clear hq hgb HV HR
 go_loopg [10] ds.length (fun kq v10 w' => ∃ (x : Nat), v10 = .int .i64 (x : Int) ∧ Aside0 (x + kq = ds.length ∧ namesFrom l ds kq x = namesOkB l ds) ∧ Aside0 (Below w1.heap.size w1 w'))
 case atStart => exact ⟨0, rfl, ⟨by omega, rfl⟩, ⟨Below.refl _ _⟩⟩
 case round =>
  obtain ⟨x, rfl, HX, HB⟩ := hrel
  have hl : gk ≤ ds.length ∧ x ≤ ds.length := by have := HX.out.1; omega
  by_cases hlt : x < ds.length
  ·cases gk with
   | zero => have := HX.out.1; omega
   | succ k1 =>
   obtain ⟨adN, eA, hy0, hy1⟩ := dir_at HR1.out HB.out x hlt
   subst eA
   have hsz := HS.out.2 _ (List.getElem_mem hlt)
   obtain ⟨sn, hsn⟩ : ∃ q, q = ds[x].f0 := ⟨_, rfl⟩
   obtain ⟨v, hv⟩ : ∃ q, q = ds[x].f1 := ⟨_, rfl⟩
   rw [← hsn] at hy0 hsz
   rw [← hv] at hy1
   have HNF := zM (show namesFrom l ds (k1 + 1) x = (nmB sn && (!(v == 1) && (decide (inoI l v < l.length) && (x == 0 || lessS (dAt ds (x - 1)).f0 sn))) && namesFrom l ds k1 (x + 1)) from by
    rw [namesFrom, nameAtB, dAt_eq ds x hlt, ← hsn, ← hv])
   obtain ⟨sp, hsp⟩ : ∃ q, q = (dAt ds (x - 1)).f0 := ⟨_, rfl⟩
   rw [← hsp] at HNF
   have HN0 := nameOk_any sn hsz
   have HI0 := fun (W : World) (hW : Below w1.heap.size w1 W) => inode_any W g nx A c l v (HV1.out.below hW)
   have HJ := zM (show 0 < x → ∃ j : Int, wrap64 ((x : Int) - 1) = j ∧ 0 ≤ j ∧ j < (ds.length : Int) ∧ ∀ W, Below w1.heap.size w1 W → ∃ ad, some adN = some ad ∧ W.cell? (ad.add (j.toNat * 2)) = some (.string sp) from fun hx => ⟨((x - 1 : Nat) : Int), by unfold wrap64; omega, by omega, by omega, fun W hW => by
    obtain ⟨ad, e1, h1, -⟩ := dir_at HR1.out hW (x - 1) (by omega)
    rw [← dAt_eq ds (x - 1) (by omega), ← hsp] at h1
    exact ⟨ad, e1, by rw [Int.toNat_natCast]; exact h1⟩⟩)
   clear hl hsn hv hsp hsz
   go_wp2
   generalize hq : wr.alloc (.cells #[.string sn, .int .i64 v] 117) = wi
   have HBi := zM (show Below w1.heap.size w1 wi from by rw [← hq]; exact zA HB.out _)
   have hd0 : ∀ y : Grow wi, y.W.cell? ⟨wr.heap.size, 0, none⟩ = some (.string sn) := fun y => y.cell (by rw [← hq]; exact (zC (heap_alloc_new wr _) 0).trans rfl)
   have hd1 : ∀ y : Grow wi, y.W.cell? ⟨wr.heap.size, 1, none⟩ = some (.int .i64 v) := fun y => y.cell (by rw [← hq]; exact (zC (heap_alloc_new wr _) 1).trans rfl)
   have hn6 : ∀ y : Grow wi, y.W.cell? ⟨gb, 6, none⟩ = some (.slice (some adN) ds.length c6) := fun y => y.cell ((HBi.out.cell (p := ⟨gb, 6, none⟩) HLb.out).trans HK6.out)
   generalize wr.heap.size = gd at hd0 hd1 ⊢
   clear hy0 hy1 HB hq
   have HI1 := fun (y : Grow wi) => HI0 y.W (zH HBi.out HBi.out.size y.hb)
   clear HI0
   cases b1 : nmB sn with
   | false =>
    have HF := zM (show namesFrom l ds (k1 + 1) x = false from by rw [HNF.out, b1]; rfl)
    rw [b1] at HN0
    have HN := zM HN0
    have HI := zM HI1
    clear HN0 HI1 b1
    refine wp_region_grow (by kernel_rfl) (by kernel_rfl) ?_
    repeat (go_big_quiet_step (first | (go_at_call 109; exact grow_draw (HN.out _)) | (go_at_call 79; exact grow_draw (HI.out _))))
    refine wpQuiet_nil ?_
    rintro _ ⟨yw, rfl⟩
    have HBy := zM (zH HBi.out HBi.out.size yw.hb)
    generalize yw.W = wy at HBy ⊢
    go_wp2
    go_ret
    exact ⟨by rw [← HX.out.2, HF.out]; rfl, zH HB1.out HB1.out.size HBy.out⟩
   | true =>
    rw [b1] at HN0
    have HN := zM HN0
    cases b2 : (v == 1) with
    | true =>
     have HF := zM (show namesFrom l ds (k1 + 1) x = false from by rw [HNF.out, b1, b2]; rfl)
     have HI := zM HI1
     clear HN0 HI1 b1
     refine wp_region_grow (by kernel_rfl) (by kernel_rfl) ?_
     repeat (go_big_quiet_step (first | (go_at_call 109; exact grow_draw (HN.out _)) | (go_at_call 79; exact grow_draw (HI.out _))))
     refine wpQuiet_nil ?_
     rintro _ ⟨yw, rfl⟩
     have HBy := zM (zH HBi.out HBi.out.size yw.hb)
     generalize yw.W = wy at HBy ⊢
     go_wp2
     go_ret
     exact ⟨by rw [← HX.out.2, HF.out]; rfl, zH HB1.out HB1.out.size HBy.out⟩
    | false =>
     have HE : ∀ y : Grow wi, inoP A l v = if decide (inoI l v < l.length) = true then .pointer (some ((A.getD ⟨0, 0, none⟩).add (inoI l v * 9))) else .pointer none := fun y => by
      unfold inoP
      by_cases h : inoI l v < l.length
      ·rw [if_pos h, if_pos (zE h)]
       obtain ⟨ad, -, -, eA, -⟩ := ino_at HV1.out (Below.refl _ _) _ h
       rw [eA]; rfl
      ·rw [if_neg h, if_neg (by simpa using h)]
     cases b3 : decide (inoI l v < l.length) with
     | false =>
      have HF := zM (show namesFrom l ds (k1 + 1) x = false from by rw [HNF.out, b1, b2, b3]; rfl)
      have HI := zM (show ∀ y : Grow wi, Calls Tryd.prog 79 #[.pointer (some ⟨g, 0, none⟩), .int .i64 v] y.W fun e w' => e = .returned (.pointer none) ∧ Drawn0 y.W w' from fun y => by have h1 := HI1 y; rw [HE y, b3] at h1; exact h1)
      clear HN0 HI1 HE b1 b3
      refine wp_region_grow (by kernel_rfl) (by kernel_rfl) ?_
      repeat (go_big_quiet_step (first | (go_at_call 109; exact grow_draw (HN.out _)) | (go_at_call 79; exact grow_draw (HI.out _))))
      refine wpQuiet_nil ?_
      rintro _ ⟨yw, rfl⟩
      have HBy := zM (zH HBi.out HBi.out.size yw.hb)
      generalize yw.W = wy at HBy ⊢
      go_wp2
      go_ret
      exact ⟨by rw [← HX.out.2, HF.out]; rfl, zH HB1.out HB1.out.size HBy.out⟩
     | true =>
      have HI := zM (show ∀ y : Grow wi, Calls Tryd.prog 79 #[.pointer (some ⟨g, 0, none⟩), .int .i64 v] y.W fun e w' => e = .returned (.pointer (some ((A.getD ⟨0, 0, none⟩).add (inoI l v * 9)))) ∧ Drawn0 y.W w' from fun y => by have h1 := HI1 y; rw [HE y, b3] at h1; exact h1)
      clear HN0 HI1 HE
      generalize (A.getD ⟨0, 0, none⟩).add (inoI l v * 9) = pa at HI
      by_cases b4 : 0 < x
      ·obtain ⟨j, hj, hj0, hj1, hjc⟩ := HJ.out b4
       have hjw : IntKind.i64.wrap ((x : Int) - 1) = j := (i64_w _).trans hj
       have b4d : decide (0 < x) = true := zE b4
       have b4i : decide (0 < (x : Int)) = true := zE (by omega)
       have hp0 : ∀ y : Grow wi, y.W.cell? (adN.add (j.toNat * 2)) = some (.string sp) := fun y => by
        obtain ⟨ad, e1, h1⟩ := hjc y.W (zH HBi.out HBi.out.size y.hb)
        injection e1 with e1
        rw [e1]; exact h1
       replace hj0 := eq_true hj0
       replace hj1 := eq_true hj1
       have hx0 : (x == 0) = false := by rw [beq_eq_false_iff_ne]; omega
       cases b5 : lessS sp sn with
       | false =>
        have HF := zM (show namesFrom l ds (k1 + 1) x = false from by rw [HNF.out, b1, b2, b3, hx0, b5]; rfl)
        have b5' : Op.bytesLess sp.toList sn.toList = false := b5
        clear b1 b3 hx0 b4 hj hjc b5
        refine wp_region_grow (by kernel_rfl) (by kernel_rfl) ?_
        repeat (go_big_quiet_step (first | (go_at_call 109; exact grow_draw (HN.out _)) | (go_at_call 79; exact grow_draw (HI.out _))))
        refine wpQuiet_nil ?_
        rintro _ ⟨yw, rfl⟩
        have HBy := zM (zH HBi.out HBi.out.size yw.hb)
        generalize yw.W = wy at HBy ⊢
        go_wp2
        go_ret
        exact ⟨by rw [← HX.out.2, HF.out]; rfl, zH HB1.out HB1.out.size HBy.out⟩
       | true =>
        have HF := zM (show namesFrom l ds (k1 + 1) x = namesFrom l ds k1 (x + 1) from by rw [HNF.out, b1, b2, b3, hx0, b5]; rfl)
        have b5' : Op.bytesLess sp.toList sn.toList = true := b5
        clear b1 b3 hx0 b4 hj hjc b5
        refine wp_region_grow (by kernel_rfl) (by kernel_rfl) ?_
        repeat (go_big_quiet_step (first | (go_at_call 109; exact grow_draw (HN.out _)) | (go_at_call 79; exact grow_draw (HI.out _))))
        refine wpQuiet_nil ?_
        rintro _ ⟨yw, rfl⟩
        have HBy := zM (zH HBi.out HBi.out.size yw.hb)
        generalize yw.W = wy at HBy ⊢
        go_wp2
        go_roundg k1
        case measure => omega
        case rel => exact ⟨x + 1, by go_num, ⟨by have := HX.out.1; omega, by rw [← HX.out.2, HF.out]⟩, HBy⟩
      ·have hx0 : x = 0 := by omega
       subst hx0
       have HF := zM (show namesFrom l ds (k1 + 1) 0 = namesFrom l ds k1 (0 + 1) from by rw [HNF.out, b1, b2, b3]; rfl)
       clear b1 b3
       refine wp_region_grow (by kernel_rfl) (by kernel_rfl) ?_
       repeat (go_big_quiet_step (first | (go_at_call 109; exact grow_draw (HN.out _)) | (go_at_call 79; exact grow_draw (HI.out _))))
       refine wpQuiet_nil ?_
       rintro _ ⟨yw, rfl⟩
       have HBy := zM (zH HBi.out HBi.out.size yw.hb)
       generalize yw.W = wy at HBy ⊢
       go_wp2
       go_roundg k1
       case measure => omega
       case rel => exact ⟨0 + 1, by go_num, ⟨by have := HX.out.1; omega, by rw [← HX.out.2, HF.out]⟩, HBy⟩
  ·have HN := zM (show namesOkB l ds = decide (ds.length ≤ 12) from by
    have h1 := HX.out
    have e : gk = 0 := by omega
    rw [e] at h1; exact h1.2.symm)
   have hK := (HB.out.cell (p := ⟨gb, 6, none⟩) HLb.out).trans HK6.out
   clear hl
   go_wp2
   go_ret
   exact ⟨by rw [HN.out, show decide (ds.length ≤ 12) = decide ((ds.length : Int) ≤ 12) from decide_eq_decide.2 (by omega)]; rfl, zH HB1.out HB1.out.size HB.out⟩
end

section
open Go.Proofs.YtiopcpkfjikfdaaDoor.Mth Go.Proofs.YtiopcpkfjikfdaaDoor.Str
/-! ### is an inode right by itself -/
def inodeOkV (l : List S90) (x1 x2 x3 x4 p q : Int) (s : ByteArray) (ds : List S117) : Bool :=
 rgB x2 0 2047 && (rgB x3 0 1000 && (rgB x4 0 1000 && (!(!(x1 == 2) && (decide (0 < ds.length) || (!(p == 0) || !(q == 0)))) &&
  (if x1 = 1 then decide (s.size ≤ 64) else if x1 = 3 then tgB s && x2 == 511 else if x1 = 2 then decide (s.size = 0) && (namesOkB l ds && (rgB p 0 400 && rgB q 0 24)) else false))))
def inodeOkB (l : List S90) (x : S90) : Bool := inodeOkV l x.f1 x.f2 x.f3 x.f4 x.f7 x.f8 x.f5 x.f6
theorem nil_forms (s : ByteArray) (h : s.size = 0) : s.toList = ([] : List UInt8) := by
 exact (toList_iff s []).2 (List.eq_nil_of_length_eq_zero (by rw [bytesOf_length]; exact h))
theorem nil_not (s : ByteArray) (h : s.size ≠ 0) : s.toList ≠ ([] : List UInt8) := fun e => h (by
 have h1 := (toList_iff s []).1 e
 have h2 := congrArg List.length h1
 rw [bytesOf_length] at h2
 simpa using h2)
set_option maxHeartbeats 8000000 in
set_option maxRecDepth 100000 in
theorem inodeOk_any (w : World) (g : Nat) (nx : Int) (A : Option Addr) (c : Nat) (l : List S90) (h : VolAt w g nx A c l) (x0 x1 x2 x3 x4 p q : Int) (s : ByteArray) (A6 : Option Addr) (c6 : Nat) (ds : List S117) (hR : Kd.C k117 w A6 ds.length ds) (hS : dSmall ds) (hs : s.size ≤ 1048576) :
  Calls Tryd.prog 70 #[.pointer (some ⟨g, 0, none⟩), .agg #[.int .i64 x0, .int .i64 x1, .int .i64 x2, .int .i64 x3, .int .i64 x4, .string s, .slice A6 ds.length c6, .int .i64 p, .int .i64 q]] w fun e w' =>
   e = .returned (.bool (inodeOkV l x1 x2 x3 x4 p q s ds)) ∧ Below w.heap.size w w' := by
 have hu29 := Tryd.underlying45
 have hu45 := Tryd.underlying90
 have hm : ds.length ≤ 9223372036854775807 := hR.2.1
 have HT := zM (target_any s hs)
 have HNk := zM (fun W (hW : Below w.heap.size w W) => namesOk_any W g nx A c l (h.below hW) x0 x1 x2 x3 x4 p q s A6 c6 ds (Kd.C_below hR hW) hS)
 clear h hR hS
 cases r1 : rgB x2 0 2047 with
 | false =>
  have HF := zM (show inodeOkV l x1 x2 x3 x4 p q s ds = false from by unfold inodeOkV; simp [r1])
  clear HNk HT
  go_enter Tryd.func70, Tryd.ntmps70
  go_wp2_with (first | (go_at_call 69; refine (within_any _ _ _ _).mono ?_; rintro e w1 ⟨rfl, ⟨n, rfl⟩⟩))
  go_ret
  exact ⟨by rw [HF.out]; first | rfl | simp, by repeat (first | exact Below.refl _ _ | apply zA | apply zN | apply zD)⟩
 | true =>
 cases r2 : rgB x3 0 1000 with
 | false =>
  have HF := zM (show inodeOkV l x1 x2 x3 x4 p q s ds = false from by unfold inodeOkV; simp [r1, r2])
  clear HNk HT
  go_enter Tryd.func70, Tryd.ntmps70
  go_wp2_with (first | (go_at_call 69; refine (within_any _ _ _ _).mono ?_; rintro e w1 ⟨rfl, ⟨n, rfl⟩⟩))
  go_ret
  exact ⟨by rw [HF.out]; first | rfl | simp, by repeat (first | exact Below.refl _ _ | apply zA | apply zN | apply zD)⟩
 | true =>
 cases r3 : rgB x4 0 1000 with
 | false =>
  have HF := zM (show inodeOkV l x1 x2 x3 x4 p q s ds = false from by unfold inodeOkV; simp [r1, r2, r3])
  clear HNk HT
  go_enter Tryd.func70, Tryd.ntmps70
  go_wp2_with (first | (go_at_call 69; refine (within_any _ _ _ _).mono ?_; rintro e w1 ⟨rfl, ⟨n, rfl⟩⟩))
  go_ret
  exact ⟨by rw [HF.out]; first | rfl | simp, by repeat (first | exact Below.refl _ _ | apply zA | apply zN | apply zD)⟩
 | true =>
 by_cases k2 : x1 = 2
 ·subst k2
  by_cases e0 : s.size = 0
  ·have e1 := nil_forms s e0
   have e2 : (s.toList == ([] : List UInt8)) = true := by rw [e1]; rfl
   have e3 : s.toList.isEmpty = true := by rw [e1]; rfl
   cases n1 : namesOkB l ds with
   | false =>
    rw [n1] at HNk
    have HF := zM (show inodeOkV l 2 x2 x3 x4 p q s ds = false from by unfold inodeOkV; simp [r1, r2, r3, n1])
    clear HT e0 n1
    go_enter Tryd.func70, Tryd.ntmps70
    go_wp2_with (first | (go_at_call 69; refine (within_any _ _ _ _).mono ?_; rintro e w1 ⟨rfl, ⟨n, rfl⟩⟩) | (go_at_call 95; refine (HNk.out _ (by repeat (first | exact Below.refl _ _ | apply zA | apply zN | apply zD))).mono ?_; rintro e w1 ⟨rfl, hb⟩; have hq : Below (w.alloc (.cells #[.int .i64 x0, .int .i64 2, .int .i64 x2, .int .i64 x3, .int .i64 x4, .string s, .slice A6 ds.length c6, .int .i64 p, .int .i64 q] 90)).heap.size (w.alloc (.cells #[.int .i64 x0, .int .i64 2, .int .i64 x2, .int .i64 x3, .int .i64 x4, .string s, .slice A6 ds.length c6, .int .i64 p, .int .i64 q] 90)) w1 := zH (by repeat (first | exact Below.refl _ _ | apply zA | apply zN | apply zD)) (zZ (by repeat (first | exact Below.refl _ _ | apply zA | apply zN | apply zD))) hb; have hbx := (hq.block w.heap.size (by simp)).trans (heap_alloc_new w _); have h7 : w1.cell? ⟨w.heap.size, 7, none⟩ = some (.int .i64 p) := (zC hbx 7).trans rfl; have h8 : w1.cell? ⟨w.heap.size, 8, none⟩ = some (.int .i64 q) := (zC hbx 8).trans rfl; have HB1 := zM (zH (zA (Below.refl w.heap.size w) _) (by simp) hq); clear hb hbx hq))
    go_ret
    exact ⟨by rw [HF.out]; first | rfl | simp, by repeat (first | exact HB1.out | apply zA | apply zN | apply zD)⟩
   | true =>
   cases r4 : rgB p 0 400 with
   | false =>
    rw [n1] at HNk
    have HF := zM (show inodeOkV l 2 x2 x3 x4 p q s ds = false from by unfold inodeOkV; simp [r1, r2, r3, n1, r4])
    clear HT e0 n1
    go_enter Tryd.func70, Tryd.ntmps70
    go_wp2_with (first | (go_at_call 69; refine (within_any _ _ _ _).mono ?_; rintro e w1 ⟨rfl, ⟨n, rfl⟩⟩) | (go_at_call 95; refine (HNk.out _ (by repeat (first | exact Below.refl _ _ | apply zA | apply zN | apply zD))).mono ?_; rintro e w1 ⟨rfl, hb⟩; have hq : Below (w.alloc (.cells #[.int .i64 x0, .int .i64 2, .int .i64 x2, .int .i64 x3, .int .i64 x4, .string s, .slice A6 ds.length c6, .int .i64 p, .int .i64 q] 90)).heap.size (w.alloc (.cells #[.int .i64 x0, .int .i64 2, .int .i64 x2, .int .i64 x3, .int .i64 x4, .string s, .slice A6 ds.length c6, .int .i64 p, .int .i64 q] 90)) w1 := zH (by repeat (first | exact Below.refl _ _ | apply zA | apply zN | apply zD)) (zZ (by repeat (first | exact Below.refl _ _ | apply zA | apply zN | apply zD))) hb; have hbx := (hq.block w.heap.size (by simp)).trans (heap_alloc_new w _); have h7 : w1.cell? ⟨w.heap.size, 7, none⟩ = some (.int .i64 p) := (zC hbx 7).trans rfl; have h8 : w1.cell? ⟨w.heap.size, 8, none⟩ = some (.int .i64 q) := (zC hbx 8).trans rfl; have HB1 := zM (zH (zA (Below.refl w.heap.size w) _) (by simp) hq); clear hb hbx hq))
    go_ret
    exact ⟨by rw [HF.out]; first | rfl | simp, by repeat (first | exact HB1.out | apply zA | apply zN | apply zD)⟩
   | true =>
    rw [n1] at HNk
    have HF := zM (show inodeOkV l 2 x2 x3 x4 p q s ds = rgB q 0 24 from by unfold inodeOkV; simp [r1, r2, r3, n1, r4, e0])
    clear HT e0 n1
    go_enter Tryd.func70, Tryd.ntmps70
    go_wp2_with (first | (go_at_call 69; refine (within_any _ _ _ _).mono ?_; rintro e w1 ⟨rfl, ⟨n, rfl⟩⟩) | (go_at_call 95; refine (HNk.out _ (by repeat (first | exact Below.refl _ _ | apply zA | apply zN | apply zD))).mono ?_; rintro e w1 ⟨rfl, hb⟩; have hq : Below (w.alloc (.cells #[.int .i64 x0, .int .i64 2, .int .i64 x2, .int .i64 x3, .int .i64 x4, .string s, .slice A6 ds.length c6, .int .i64 p, .int .i64 q] 90)).heap.size (w.alloc (.cells #[.int .i64 x0, .int .i64 2, .int .i64 x2, .int .i64 x3, .int .i64 x4, .string s, .slice A6 ds.length c6, .int .i64 p, .int .i64 q] 90)) w1 := zH (by repeat (first | exact Below.refl _ _ | apply zA | apply zN | apply zD)) (zZ (by repeat (first | exact Below.refl _ _ | apply zA | apply zN | apply zD))) hb; have hbx := (hq.block w.heap.size (by simp)).trans (heap_alloc_new w _); have h7 : w1.cell? ⟨w.heap.size, 7, none⟩ = some (.int .i64 p) := (zC hbx 7).trans rfl; have h8 : w1.cell? ⟨w.heap.size, 8, none⟩ = some (.int .i64 q) := (zC hbx 8).trans rfl; have HB1 := zM (zH (zA (Below.refl w.heap.size w) _) (by simp) hq); clear hb hbx hq))
    go_ret
    exact ⟨by rw [HF.out]; first | rfl | simp, by repeat (first | exact HB1.out | apply zA | apply zN | apply zD)⟩
  ·have e1 := nil_not s e0
   have e2 : (s.toList == ([] : List UInt8)) = false := by rw [beq_eq_false_iff_ne]; exact e1
   have e3 : s.toList.isEmpty = false := by cases h : s.toList with
    | nil => exact absurd h e1
    | cons a b => rfl
   have HF := zM (show inodeOkV l 2 x2 x3 x4 p q s ds = false from by unfold inodeOkV; simp [r1, r2, r3, e0])
   clear HT HNk e0
   go_enter Tryd.func70, Tryd.ntmps70
   go_wp2_with (first | (go_at_call 69; refine (within_any _ _ _ _).mono ?_; rintro e w1 ⟨rfl, ⟨n, rfl⟩⟩) | (go_at_call 95; refine (HNk.out _ (by repeat (first | exact Below.refl _ _ | apply zA | apply zN | apply zD))).mono ?_; rintro e w1 ⟨rfl, hb⟩; have hq : Below (w.alloc (.cells #[.int .i64 x0, .int .i64 2, .int .i64 x2, .int .i64 x3, .int .i64 x4, .string s, .slice A6 ds.length c6, .int .i64 p, .int .i64 q] 90)).heap.size (w.alloc (.cells #[.int .i64 x0, .int .i64 2, .int .i64 x2, .int .i64 x3, .int .i64 x4, .string s, .slice A6 ds.length c6, .int .i64 p, .int .i64 q] 90)) w1 := zH (by repeat (first | exact Below.refl _ _ | apply zA | apply zN | apply zD)) (zZ (by repeat (first | exact Below.refl _ _ | apply zA | apply zN | apply zD))) hb; have hbx := (hq.block w.heap.size (by simp)).trans (heap_alloc_new w _); have h7 : w1.cell? ⟨w.heap.size, 7, none⟩ = some (.int .i64 p) := (zC hbx 7).trans rfl; have h8 : w1.cell? ⟨w.heap.size, 8, none⟩ = some (.int .i64 q) := (zC hbx 8).trans rfl; have HB1 := zM (zH (zA (Below.refl w.heap.size w) _) (by simp) hq); clear hb hbx hq))
   go_ret
   exact ⟨by rw [HF.out]; first | rfl | simp, by repeat (first | exact Below.refl _ _ | apply zA | apply zN | apply zD)⟩
 ·have k2b : (x1 == 2) = false := by simpa using k2
  have k2n : (x1 != 2) = true := by simpa using k2
  by_cases e6 : 0 < ds.length
  ·have e6b : decide (0 < ds.length) = true := zE e6
   have e6i : decide (0 < (ds.length : Int)) = true := zE (by omega)
   have HF := zM (show inodeOkV l x1 x2 x3 x4 p q s ds = false from by unfold inodeOkV; simp [r1, r2, r3, k2, e6])
   clear HNk HT k2
   go_enter Tryd.func70, Tryd.ntmps70
   go_wp2_with (first | (go_at_call 69; refine (within_any _ _ _ _).mono ?_; rintro e w1 ⟨rfl, ⟨n, rfl⟩⟩))
   go_ret
   exact ⟨by rw [HF.out]; first | rfl | simp, by repeat (first | exact Below.refl _ _ | apply zA | apply zN | apply zD)⟩
  ·have e6b : decide (0 < ds.length) = false := zG e6
   have e6i : decide (0 < (ds.length : Int)) = false := zG (by omega)
   by_cases m7 : p = 0
   ·subst m7
    by_cases m8 : q = 0
    ·subst m8
     by_cases k1 : x1 = 1
     ·subst k1
      have HF := zM (show inodeOkV l 1 x2 x3 x4 0 0 s ds = decide ((s.size : Int) ≤ 64) from by unfold inodeOkV; simp [r1, r2, r3, e6, show (decide ((s.size : Int) ≤ 64)) = decide (s.size ≤ 64) from decide_eq_decide.2 (by omega)])
      clear HNk HT k2
      go_enter Tryd.func70, Tryd.ntmps70
      go_wp2_with (first | (go_at_call 69; refine (within_any _ _ _ _).mono ?_; rintro e w1 ⟨rfl, ⟨n, rfl⟩⟩))
      go_ret
      exact ⟨by rw [HF.out]; first | rfl | simp, by repeat (first | exact Below.refl _ _ | apply zA | apply zN | apply zD)⟩
     ·have k1b : (x1 == 1) = false := by simpa using k1
      by_cases k3 : x1 = 3
      ·subst k3
       cases t1 : tgB s with
       | false =>
        rw [t1] at HT
        have HF := zM (show inodeOkV l 3 x2 x3 x4 0 0 s ds = false from by unfold inodeOkV; simp [r1, r2, r3, e6, t1])
        clear HNk k2 k1 t1
        go_enter Tryd.func70, Tryd.ntmps70
        go_wp2_with (first | (go_at_call 69; refine (within_any _ _ _ _).mono ?_; rintro e w1 ⟨rfl, ⟨n, rfl⟩⟩) | (go_at_call 49; refine (HT.out _).mono ?_; rintro e w1 ⟨rfl, ⟨n, rfl⟩⟩))
        go_ret
        exact ⟨by rw [HF.out]; first | rfl | simp, by repeat (first | exact Below.refl _ _ | apply zA | apply zN | apply zD)⟩
       | true =>
        rw [t1] at HT
        have HF := zM (show inodeOkV l 3 x2 x3 x4 0 0 s ds = (x2 == 511) from by unfold inodeOkV; simp [r1, r2, r3, e6, t1])
        clear HNk k2 k1 t1
        go_enter Tryd.func70, Tryd.ntmps70
        go_wp2_with (first | (go_at_call 69; refine (within_any _ _ _ _).mono ?_; rintro e w1 ⟨rfl, ⟨n, rfl⟩⟩) | (go_at_call 49; refine (HT.out _).mono ?_; rintro e w1 ⟨rfl, ⟨n, rfl⟩⟩))
        go_ret
        exact ⟨by rw [HF.out]; first | rfl | simp, by repeat (first | exact Below.refl _ _ | apply zA | apply zN | apply zD)⟩
      ·have k3b : (x1 == 3) = false := by simpa using k3
       have HF := zM (show inodeOkV l x1 x2 x3 x4 0 0 s ds = false from by unfold inodeOkV; simp [k1, k2, k3])
       clear HNk HT k2 k1 k3
       go_enter Tryd.func70, Tryd.ntmps70
       go_wp2_with (first | (go_at_call 69; refine (within_any _ _ _ _).mono ?_; rintro e w1 ⟨rfl, ⟨n, rfl⟩⟩))
       go_ret
       exact ⟨by rw [HF.out]; first | rfl | simp, by repeat (first | exact Below.refl _ _ | apply zA | apply zN | apply zD)⟩
    ·have m8b : (q == 0) = false := by simpa using m8
     have m8n : (q != 0) = true := by simpa using m8
     have HF := zM (show inodeOkV l x1 x2 x3 x4 0 q s ds = false from by unfold inodeOkV; simp [r1, r2, r3, k2, m8])
     clear HNk HT k2 m8
     go_enter Tryd.func70, Tryd.ntmps70
     go_wp2_with (first | (go_at_call 69; refine (within_any _ _ _ _).mono ?_; rintro e w1 ⟨rfl, ⟨n, rfl⟩⟩))
     go_ret
     exact ⟨by rw [HF.out]; first | rfl | simp, by repeat (first | exact Below.refl _ _ | apply zA | apply zN | apply zD)⟩
   ·have m7b : (p == 0) = false := by simpa using m7
    have m7n : (p != 0) = true := by simpa using m7
    have HF := zM (show inodeOkV l x1 x2 x3 x4 p q s ds = false from by unfold inodeOkV; simp [r1, r2, r3, k2, m7])
    clear HNk HT k2 m7
    go_enter Tryd.func70, Tryd.ntmps70
    go_wp2_with (first | (go_at_call 69; refine (within_any _ _ _ _).mono ?_; rintro e w1 ⟨rfl, ⟨n, rfl⟩⟩))
    go_ret
    exact ⟨by rw [HF.out]; first | rfl | simp, by repeat (first | exact Below.refl _ _ | apply zA | apply zN | apply zD)⟩
end

section
open Go.Proofs.YtiopcpkfjikfdaaDoor.Mth Go.Proofs.YtiopcpkfjikfdaaDoor.Str
/-! ### is a volume right -/
def iAt (l : List S90) (i : Nat) : S90 := l.getD i z90
theorem iAt_eq (l : List S90) (i : Nat) (h : i < l.length) : iAt l i = l[i] := by
 unfold iAt
 rw [List.getD_eq_getElem?_getD, List.getElem?_eq_getElem h]; rfl
def inoAtB (nx : Int) (l : List S90) (i : Nat) : Bool := rgB (iAt l i).f0 1 (nx - 1) && ((i == 0 || decide ((iAt l (i - 1)).f0 < (iAt l i).f0)) && inodeOkB l (iAt l i))
def reachAtB (l : List S90) (i : Nat) : Bool := (belowL l 1).contains (iAt l i).f0 && !((iAt l i).f1 == 2 && !(namedN l (iAt l i).f0 == 1))
def endB (l : List S90) : Bool := decide (totalN l ≤ 400) && !(l.any (overB l))
def reachFrom (l : List S90) : Nat → Nat → Bool
 | 0, _ => endB l
 | k + 1, i => reachAtB l i && reachFrom l k (i + 1)
def inosFrom (nx : Int) (l : List S90) : Nat → Nat → Bool
 | 0, _ => reachFrom l (l.length - 1) 1
 | k + 1, i => inoAtB nx l i && inosFrom nx l k (i + 1)
def volOkB (nx : Int) (l : List S90) : Bool := rgB nx 2 100000 && (rgB (l.length : Int) 1 24 && ((iAt l 0).f0 == 1 && ((iAt l 0).f1 == 2 && inosFrom nx l l.length 0)))
theorem cutI (A : Option Addr) (c : Nat) (l : List S90) (h1 : 1 ≤ l.length) (hc : l.length ≤ c) : ∃ A1 c1, ∃ ls : List S90, ls = l.drop 1 ∧ (∀ W : World, (Instr.slice 43 (.slice A l.length c) (some (.int .i64 1)) none none).run Tryd.prog W = .ok (.slice A1 ls.length c1) W) ∧
  ∀ W, Kd.C k90 W A l.length l → Kd.C k90 W A1 ls.length ls := by
 obtain ⟨i0, hi, hz⟩ := Option.map_eq_some_iff.1 info90
 simp only [Prod.mk.injEq] at hz
 have h := cut_from (P := Tryd.prog) 43 90 .i64 (by kernel_rfl) hi 9 hz.2.1 A l.length c 1 (by omega) (by omega)
 refine ⟨_, c - 1, l.drop 1, rfl, fun W => ?_, fun W hC => Kd.C_drop hC h1 hc⟩
 rw [h W, List.length_drop]
 rfl
theorem drop_at (l : List S90) (j : Nat) (h : j < (l.drop 1).length) : (l.drop 1)[j] = iAt l (j + 1) := by
 rw [List.length_drop] at h
 rw [List.getElem_drop, iAt_eq l (j + 1) (by omega)]
 congr 1; omega
set_option maxHeartbeats 8000000 in
set_option maxRecDepth 100000 in
theorem volOk_any (w : World) (nx : Int) (A : Option Addr) (c : Nat) (l : List S90) (hr : Kd.C k90 w A l.length l) (hc : l.length ≤ c) (hs : volSmall l) :
  Calls Tryd.prog 44 #[.agg #[.int .i64 nx, .slice A l.length c]] w fun e w' => e = .returned (.bool (volOkB nx l)) ∧ Below w.heap.size w w' := by
 have hu29 := Tryd.underlying45
 have hu45 := Tryd.underlying90
 have hm : l.length ≤ 9223372036854775807 := hr.2.1
 have HV0 := zM (show VolAt (w.alloc (.cells #[.int .i64 nx, .slice A l.length c] 45)) w.heap.size nx A c l from ⟨heap_alloc_new w _, Kd.C_below hr (zA (Below.refl _ _) _), hc, hs⟩)
 cases r1 : rgB nx 2 100000 with
 | false =>
  have HF := zM (show volOkB nx l = false from by unfold volOkB; simp [r1])
  clear HV0 hr hc hs
  go_enter Tryd.func44, Tryd.ntmps44
  go_wp2_with (go_at_call 69; refine (within_any _ _ _ _).mono ?_; rintro e w1 ⟨rfl, ⟨n, rfl⟩⟩)
  go_ret
  exact ⟨by rw [HF.out]; rfl, (by repeat (first | exact Below.refl _ _ | apply zA | apply zN | apply zD))⟩
 | true =>
 cases r2 : rgB (l.length : Int) 1 24 with
 | false =>
  have HF := zM (show volOkB nx l = false from by unfold volOkB; simp [r1, r2])
  clear HV0 hr hc hs
  go_enter Tryd.func44, Tryd.ntmps44
  go_wp2_with (go_at_call 69; refine (within_any _ _ _ _).mono ?_; rintro e w1 ⟨rfl, ⟨n, rfl⟩⟩)
  go_ret
  exact ⟨by rw [HF.out]; rfl, (by repeat (first | exact Below.refl _ _ | apply zA | apply zN | apply zD))⟩
 | true =>
 have hl1 : 1 ≤ l.length ∧ l.length ≤ 24 := by have h1 := zO r2; omega
 have hnx : 2 ≤ nx ∧ nx ≤ 100000 := zO r1
 obtain ⟨ad, A6, c6, eA, hx0, hx1, -, -, -, -, -, -, -, -, -⟩ := at_T90 hr 0 (by omega) (by omega)
 subst eA
 have hz : ad.add 0 = ad := by cases ad; simp [Addr.add]
 have hz2 : rd_T90 l 0 = iAt l 0 := rfl
 rw [show (0 : Int).toNat * 9 = 0 from rfl, hz, hz2] at hx0 hx1
 replace hx0 := pw_cell_below (zA (Below.refl w.heap.size w) (.cells #[.int .i64 nx, .slice (some ad) l.length c] 45)) hx0
 replace hx1 := pw_cell_below (zA (Below.refl w.heap.size w) (.cells #[.int .i64 nx, .slice (some ad) l.length c] 45)) hx1
 have hp0 : (0 < l.length) = True := eq_true (by omega)
 have hp1 : ((0 : Int) < (l.length : Int)) = True := eq_true (by omega)
 clear hz hz2
 cases r3 : ((iAt l 0).f0 == 1) with
 | false =>
  have r3n : ((iAt l 0).f0 != 1) = true := by rw [bne, r3]; rfl
  have HF := zM (show volOkB nx l = false from by unfold volOkB; simp [r1, r2, r3])
  clear HV0 hr hc hs hl1 hnx
  go_enter Tryd.func44, Tryd.ntmps44
  go_wp2_with (go_at_call 69; refine (within_any _ _ _ _).mono ?_; rintro e w1 ⟨rfl, ⟨n, rfl⟩⟩)
  go_ret
  exact ⟨by rw [HF.out]; rfl, (by repeat (first | exact Below.refl _ _ | apply zA | apply zN | apply zD))⟩
 | true =>
 have r3n : ((iAt l 0).f0 != 1) = false := by rw [bne, r3]; rfl
 cases r4 : ((iAt l 0).f1 == 2) with
 | false =>
  have r4n : ((iAt l 0).f1 != 2) = true := by rw [bne, r4]; rfl
  have HF := zM (show volOkB nx l = false from by unfold volOkB; simp [r1, r2, r3, r4])
  clear HV0 hr hc hs hl1 hnx
  go_enter Tryd.func44, Tryd.ntmps44
  go_wp2_with (go_at_call 69; refine (within_any _ _ _ _).mono ?_; rintro e w1 ⟨rfl, ⟨n, rfl⟩⟩)
  go_ret
  exact ⟨by rw [HF.out]; rfl, (by repeat (first | exact Below.refl _ _ | apply zA | apply zN | apply zD))⟩
 | true =>
 have r4n : ((iAt l 0).f1 != 2) = false := by rw [bne, r4]; rfl
 have HF := zM (show volOkB nx l = inosFrom nx l l.length 0 from by unfold volOkB; simp [r1, r2, r3, r4])
 have HL1 := zM hl1
 have HNX := zM hnx
 clear hr hc hs hl1 hnx
 go_enter Tryd.func44, Tryd.ntmps44
 go_wp2_with (go_at_call 69; refine (within_any _ _ _ _).mono ?_; rintro e w1 ⟨rfl, ⟨n, rfl⟩⟩)
 have HBw := zM (zA (Below.refl w.heap.size w) (.cells #[.int .i64 nx, .slice (some ad) l.length c] 45))
 generalize w.alloc (.cells #[.int .i64 nx, .slice (some ad) l.length c] 45) = w1 at HV0 HBw hx0 hx1 ⊢
 generalize w.heap.size = gb at HV0 ⊢
 have HCut := zM (cutI (some ad) c l HL1.out.1 HV0.out.cap)
 have HSm := zM HV0.out.small
 clear r2 hx0 hx1 hp0 hp1 r3 r3n r4 r4n
 have HF2 := zM HF.out.symm
 clear HF
 go_loopg [38] l.length (fun kq v38 w' => ∃ (x : Nat), v38 = .int .i64 (x : Int) ∧ Aside0 (x + kq = l.length ∧ inosFrom nx l kq x = volOkB nx l) ∧ Aside0 (Below w1.heap.size w1 w'))
 case atStart => exact ⟨0, rfl, ⟨by omega, HF2.out⟩, ⟨by repeat (first | exact Below.refl _ _ | apply zN)⟩⟩
 case round =>
  obtain ⟨x, rfl, HX, HB⟩ := hrel
  have hl : gk ≤ l.length ∧ x ≤ l.length := by have := HX.out.1; omega
  by_cases hlt : x < l.length
  ·cases gk with
   | zero => have := HX.out.1; omega
   | succ k1 =>
   obtain ⟨ad2, A6, c6, eA, hx0, hx1, hx2, hx3, hx4, hx5, hx6, hx7, hx8, hl6, hi6⟩ := ino_at HV0.out HB.out x hlt
   obtain rfl : ad = ad2 := by injection eA
   obtain ⟨xi, hxi⟩ : ∃ q, q = l[x] := ⟨_, rfl⟩
   have hxm : xi ∈ l := hxi ▸ List.getElem_mem hlt
   have HSx := zM (show dSmall xi.f6 ∧ xi.f5.size ≤ 1048576 from ⟨⟨HSm.out.2.1 _ hxm, HSm.out.2.2.2 _ hxm⟩, HSm.out.2.2.1 _ hxm⟩)
   rw [← hxi] at hx0 hx1 hx2 hx3 hx4 hx5 hx6 hx7 hx8 hl6 hi6
   have HNF := zM (show inosFrom nx l (k1 + 1) x = (rgB xi.f0 1 (nx - 1) && ((x == 0 || decide ((iAt l (x - 1)).f0 < xi.f0)) && inodeOkB l xi) && inosFrom nx l k1 (x + 1)) from by
    rw [inosFrom, inoAtB, iAt_eq l x hlt, ← hxi])
   obtain ⟨pf, hpf⟩ : ∃ q, q = (iAt l (x - 1)).f0 := ⟨_, rfl⟩
   rw [← hpf] at HNF
   have HJ := zM (show 0 < x → ∃ j : Int, wrap64 ((x : Int) - 1) = j ∧ 0 ≤ j ∧ j < (l.length : Int) ∧ ∀ W, Below w1.heap.size w1 W → W.cell? (ad.add (j.toNat * 9)) = some (.int .i64 pf) from fun hx => ⟨((x - 1 : Nat) : Int), by unfold wrap64; omega, by omega, by omega, fun W hW => by
    obtain ⟨ad3, -, -, e1, h1, -⟩ := ino_at HV0.out hW (x - 1) (by omega)
    obtain rfl : ad = ad3 := by injection e1
    rw [← iAt_eq l (x - 1) (by omega), ← hpf] at h1
    rw [Int.toNat_natCast]; exact h1⟩)
   have HI0 := zM (fun (W : World) (hW : Below w1.heap.size w1 W) => inodeOk_any W gb nx (some ad) c l (HV0.out.below hW) xi.f0 xi.f1 xi.f2 xi.f3 xi.f4 xi.f7 xi.f8 xi.f5 A6 c6 xi.f6 (Kd.C_below hi6 hW) HSx.out.1 HSx.out.2)
   obtain ⟨nq, hnq⟩ : ∃ q, q = nx - 1 := ⟨_, rfl⟩
   have hnw : IntKind.i64.wrap (nx - 1) = nq := by rw [hnq, i64_w]; unfold wrap64; have := HNX.out; omega
   rw [← hnq] at HNF
   have HIB : inodeOkB l xi = inodeOkV l xi.f1 xi.f2 xi.f3 xi.f4 xi.f7 xi.f8 xi.f5 xi.f6 := rfl
   rw [HIB] at HNF
   have hmN : xi.f6.length ≤ 9223372036854775807 := hi6.2.1
   clear HIB hnq hpf hxi hxm hi6 hl6 hl eA
   obtain ⟨f0, f1, f2, f3, f4, f5, f6, f7, f8⟩ := xi
   dsimp only at hx0 hx1 hx2 hx3 hx4 hx5 hx6 hx7 hx8 HNF HI0 hmN
   have HW := fun W => within_any f0 1 nq W
   go_wp2
   generalize hq : wr.alloc (.cells #[.int .i64 f0, .int .i64 f1, .int .i64 f2, .int .i64 f3, .int .i64 f4, .string f5, .slice A6 f6.length c6, .int .i64 f7, .int .i64 f8] 90) = wi
   have HBi := zM (show Below w1.heap.size w1 wi from by rw [← hq]; exact zA HB.out _)
   have HBX := zM (show wi.heap[wr.heap.size]? = some (.cells #[.int .i64 f0, .int .i64 f1, .int .i64 f2, .int .i64 f3, .int .i64 f4, .string f5, .slice A6 f6.length c6, .int .i64 f7, .int .i64 f8] 90 (0, 0)) from by rw [← hq]; exact heap_alloc_new wr _)
   generalize wr.heap.size = gd at HBX ⊢
   have hd0 : ∀ y : Grow wi, y.W.cell? ⟨gd, 0, none⟩ = some (.int .i64 f0) := fun y => y.cell ((zC HBX.out 0).trans rfl)
   have hd1 : ∀ y : Grow wi, y.W.cell? ⟨gd, 1, none⟩ = some (.int .i64 f1) := fun y => y.cell ((zC HBX.out 1).trans rfl)
   have hd2 : ∀ y : Grow wi, y.W.cell? ⟨gd, 2, none⟩ = some (.int .i64 f2) := fun y => y.cell ((zC HBX.out 2).trans rfl)
   have hd3 : ∀ y : Grow wi, y.W.cell? ⟨gd, 3, none⟩ = some (.int .i64 f3) := fun y => y.cell ((zC HBX.out 3).trans rfl)
   have hd4 : ∀ y : Grow wi, y.W.cell? ⟨gd, 4, none⟩ = some (.int .i64 f4) := fun y => y.cell ((zC HBX.out 4).trans rfl)
   have hd5 : ∀ y : Grow wi, y.W.cell? ⟨gd, 5, none⟩ = some (.string f5) := fun y => y.cell ((zC HBX.out 5).trans rfl)
   have hd6 : ∀ y : Grow wi, y.W.cell? ⟨gd, 6, none⟩ = some (.slice A6 f6.length c6) := fun y => y.cell ((zC HBX.out 6).trans rfl)
   have hd7 : ∀ y : Grow wi, y.W.cell? ⟨gd, 7, none⟩ = some (.int .i64 f7) := fun y => y.cell ((zC HBX.out 7).trans rfl)
   have hd8 : ∀ y : Grow wi, y.W.cell? ⟨gd, 8, none⟩ = some (.int .i64 f8) := fun y => y.cell ((zC HBX.out 8).trans rfl)
   have hv0 : ∀ y : Grow wi, y.W.cell? ⟨gb, 0, none⟩ = some (.int .i64 nx) := fun y => y.cell (HV0.out.below HBi.out).c0
   have hv1 : ∀ y : Grow wi, y.W.cell? ⟨gb, 1, none⟩ = some (.slice (some ad) l.length c) := fun y => y.cell (HV0.out.below HBi.out).c1
   have HI1 := zM (fun (y : Grow wi) => HI0.out y.W (zH HBi.out HBi.out.size y.hb))
   clear hx0 hx1 hx2 hx3 hx4 hx5 hx6 hx7 hx8 HB hq HI0 HBX
   cases b1 : rgB f0 1 nq with
   | false =>
    rw [b1] at HW
    have HG := zM (show inosFrom nx l (k1 + 1) x = false from by rw [HNF.out, b1]; rfl)
    have HI := HI1
    clear HI1 b1
    refine wp_region_grow (by kernel_rfl) (by kernel_rfl) ?_
    repeat (go_big_quiet_step (first | (go_at_call 69; exact grow_draw (HW _)) | (go_at_call 70; exact grow_call (HI.out _))))
    refine wpQuiet_nil ?_
    rintro _ ⟨yw, rfl⟩
    have HBy := zM (zH HBi.out HBi.out.size yw.hb)
    generalize yw.W = wy at HBy ⊢

    go_wp2
    go_ret
    exact ⟨by rw [← HX.out.2, HG.out]; rfl, zH HBw.out HBw.out.size HBy.out⟩
   | true =>
    rw [b1] at HW
    by_cases b4 : 0 < x
    ·obtain ⟨j, hj, hj0, hj1, hjc⟩ := HJ.out b4
     have hjw : IntKind.i64.wrap ((x : Int) - 1) = j := (i64_w _).trans hj
     have b4d : decide (0 < x) = true := zE b4
     have b4i : decide (0 < (x : Int)) = true := zE (by omega)
     have hp0 : ∀ y : Grow wi, y.W.cell? (ad.add (j.toNat * 9)) = some (.int .i64 pf) := fun y => hjc y.W (zH HBi.out HBi.out.size y.hb)
     replace hj0 := eq_true hj0
     replace hj1 := eq_true hj1
     have hx0 : (x == 0) = false := by rw [beq_eq_false_iff_ne]; omega
     by_cases b5 : pf < f0
     ·have b5d : decide (f0 ≤ pf) = false := zG (by omega)
      have b5e : decide (pf < f0) = true := zE b5
      cases b6 : inodeOkV l f1 f2 f3 f4 f7 f8 f5 f6 with
      | false =>
       have HG := zM (show inosFrom nx l (k1 + 1) x = false from by rw [HNF.out, b1, hx0, b5e, b6]; rfl)
       rw [b6] at HI1
       have HI := HI1
       clear HI1 b1 b5 b5e b6 hx0 b4 hj hjc
       refine wp_region_grow (by kernel_rfl) (by kernel_rfl) ?_
       repeat (go_big_quiet_step (first | (go_at_call 69; exact grow_draw (HW _)) | (go_at_call 70; exact grow_call (HI.out _))))
       refine wpQuiet_nil ?_
       rintro _ ⟨yw, rfl⟩
       have HBy := zM (zH HBi.out HBi.out.size yw.hb)
       generalize yw.W = wy at HBy ⊢

       go_wp2
       go_ret
       exact ⟨by rw [← HX.out.2, HG.out]; rfl, zH HBw.out HBw.out.size HBy.out⟩
      | true =>
       have HG := zM (show inosFrom nx l (k1 + 1) x = inosFrom nx l k1 (x + 1) from by rw [HNF.out, b1, hx0, b5e, b6]; rfl)
       rw [b6] at HI1
       have HI := HI1
       clear HI1 b1 b5 b5e b6 hx0 b4 hj hjc
       refine wp_region_grow (by kernel_rfl) (by kernel_rfl) ?_
       repeat (go_big_quiet_step (first | (go_at_call 69; exact grow_draw (HW _)) | (go_at_call 70; exact grow_call (HI.out _))))
       refine wpQuiet_nil ?_
       rintro _ ⟨yw, rfl⟩
       have HBy := zM (zH HBi.out HBi.out.size yw.hb)
       generalize yw.W = wy at HBy ⊢

       go_wp2
       go_roundg k1
       case measure => omega
       case rel => exact ⟨x + 1, by go_num, ⟨by have := HX.out.1; omega, by rw [← HX.out.2, HG.out]⟩, HBy⟩
     ·have b5d : decide (f0 ≤ pf) = true := zE (by omega)
      have b5e : decide (pf < f0) = false := zG b5
      have HG := zM (show inosFrom nx l (k1 + 1) x = false from by rw [HNF.out, b1, hx0, b5e]; rfl)
      have HI := HI1
      clear HI1 b1 b5 b5e hx0 b4 hj hjc
      refine wp_region_grow (by kernel_rfl) (by kernel_rfl) ?_
      repeat (go_big_quiet_step (first | (go_at_call 69; exact grow_draw (HW _)) | (go_at_call 70; exact grow_call (HI.out _))))
      refine wpQuiet_nil ?_
      rintro _ ⟨yw, rfl⟩
      have HBy := zM (zH HBi.out HBi.out.size yw.hb)
      generalize yw.W = wy at HBy ⊢

      go_wp2
      go_ret
      exact ⟨by rw [← HX.out.2, HG.out]; rfl, zH HBw.out HBw.out.size HBy.out⟩
    ·have hx0 : x = 0 := by omega
     subst hx0
     cases b6 : inodeOkV l f1 f2 f3 f4 f7 f8 f5 f6 with
     | false =>
      have HG := zM (show inosFrom nx l (k1 + 1) 0 = false from by rw [HNF.out, b1, b6]; rfl)
      rw [b6] at HI1
      have HI := HI1
      clear HI1 b1 b6
      refine wp_region_grow (by kernel_rfl) (by kernel_rfl) ?_
      repeat (go_big_quiet_step (first | (go_at_call 69; exact grow_draw (HW _)) | (go_at_call 70; exact grow_call (HI.out _))))
      refine wpQuiet_nil ?_
      rintro _ ⟨yw, rfl⟩
      have HBy := zM (zH HBi.out HBi.out.size yw.hb)
      generalize yw.W = wy at HBy ⊢

      go_wp2
      go_ret
      exact ⟨by rw [← HX.out.2, HG.out]; rfl, zH HBw.out HBw.out.size HBy.out⟩
     | true =>
      have HG := zM (show inosFrom nx l (k1 + 1) 0 = inosFrom nx l k1 (0 + 1) from by rw [HNF.out, b1, b6]; rfl)
      rw [b6] at HI1
      have HI := HI1
      clear HI1 b1 b6
      refine wp_region_grow (by kernel_rfl) (by kernel_rfl) ?_
      repeat (go_big_quiet_step (first | (go_at_call 69; exact grow_draw (HW _)) | (go_at_call 70; exact grow_call (HI.out _))))
      refine wpQuiet_nil ?_
      rintro _ ⟨yw, rfl⟩
      have HBy := zM (zH HBi.out HBi.out.size yw.hb)
      generalize yw.W = wy at HBy ⊢

      go_wp2
      go_roundg k1
      case measure => omega
      case rel => exact ⟨0 + 1, by go_num, ⟨by have := HX.out.1; omega, by rw [← HX.out.2, HG.out]⟩, HBy⟩
  ·have HF3 := zM (show reachFrom l (l.length - 1) 1 = volOkB nx l from by
    have h1 := HX.out
    have e : gk = 0 := by omega
    rw [e] at h1; exact h1.2)
   clear hl
   have HBl := zM (below_any wr gb nx (some ad) c l 1 (HV0.out.below HB.out))
   have hc1 := (HV0.out.below HB.out).c1
   go_wp2_with (go_at_call 71; refine HBl.out.mono ?_; rintro e w2 ⟨v, rfl, ho, hb⟩; obtain ⟨A5, c5, rfl, hr5⟩ := ownReads ho; have HR5 := zM hr5; have HBa := zM (zH HB.out HB.out.size hb); have hc1b := (HV0.out.below HBa.out).c1; obtain ⟨A1, cc1, ls, hls, hcut, hsub⟩ := HCut.out; have HLs := zM hls; have HLd := zM (show ls.length = l.length - 1 from (by rw [hls]; exact List.length_drop)); have hmS : ls.length ≤ 9223372036854775807 := (by have := HLd.out; omega); clear hls; have HSub := zM (fun W (hW : Below w1.heap.size w1 W) => hsub W (HV0.out.below hW).row); clear ho hb hr5 hsub)
   have HF4 := zM (show reachFrom l ls.length (0 + 1) = volOkB nx l from by rw [HLd.out]; exact HF3.out)
   clear hcut HB hc1 hc1b
   go_loopg [77] ls.length (fun kq v77 w' => ∃ (x : Nat), v77 = .int .i64 (x : Int) ∧ Aside0 (x + kq = ls.length ∧ reachFrom l kq (x + 1) = volOkB nx l) ∧ Aside0 (Below w1.heap.size w1 w') ∧ Aside0 (Below w2.heap.size w2 w'))
   case atStart => exact ⟨0, rfl, ⟨by omega, HF4.out⟩, HBa, ⟨Below.refl _ _⟩⟩
   case round =>
    clear HX
    obtain ⟨x, rfl, HX, HB, HB2⟩ := hrel
    have hl : gk ≤ ls.length ∧ x ≤ ls.length := by have := HX.out.1; omega
    by_cases hlt : x < ls.length
    ·cases gk with
     | zero => have := HX.out.1; omega
     | succ k1 =>
     obtain ⟨ad1, A6, c6, eA, hx0, hx1, hx2, hx3, hx4, hx5, hx6, hx7, hx8, hl6, hi6⟩ := at_T90 (HSub.out _ HB.out) (x : Int) (by omega) (by omega)
     subst eA
     have hxe : rd_T90 ls (x : Int) = iAt l (x + 1) := by
      have h1 := HLs.out
      subst h1
      rw [rd45 _ x hlt, drop_at l x hlt]
     rw [Int.toNat_natCast, hxe] at hx0 hx1 hx2 hx3 hx4 hx5 hx6 hx7 hx8
     have hmN : (iAt l (x + 1)).f6.length ≤ 9223372036854775807 := by rw [hxe] at hi6; exact hi6.2.1
     have HNF := zM (show reachFrom l (k1 + 1) (x + 1) = ((belowL l 1).contains (iAt l (x + 1)).f0 && !((iAt l (x + 1)).f1 == 2 && !(namedN l (iAt l (x + 1)).f0 == 1)) && reachFrom l k1 (x + 1 + 1)) from by
      rw [reachFrom, reachAtB])
     obtain ⟨xi, hxi⟩ : ∃ q, q = iAt l (x + 1) := ⟨_, rfl⟩
     rw [← hxi] at hx0 hx1 hx2 hx3 hx4 hx5 hx6 hx7 hx8 HNF hmN
     clear hxe hxi hl6 hi6 hl
     obtain ⟨f0, f1, f2, f3, f4, f5, f6, f7, f8⟩ := xi
     dsimp only at hx0 hx1 hx2 hx3 hx4 hx5 hx6 hx7 hx8 HNF hmN
     have HCt0 := fun W (hW : Below w2.heap.size w2 W) => contains_any W A5 c5 (belowL l 1) f0 (ReadsInt.below HR5.out hW)
     have HNm0 := fun W (hW : Below w1.heap.size w1 W) => named_any W gb nx (some ad) c l f0 (HV0.out.below hW)
     cases q1 : (belowL l 1).contains f0 with
     | false =>
      rw [q1] at HCt0
      have HCt := zM HCt0
      have HG := zM (show reachFrom l (k1 + 1) (x + 1) = false from by rw [HNF.out, q1]; rfl)
      clear HCt0 HNm0 q1
      go_wp2_with (go_at_call 72; refine (HCt.out _ (by repeat (first | exact HB2.out | apply zA | apply zN | apply zD))).mono ?_; rintro e w3 ⟨rfl, ⟨n, rfl⟩⟩)
      go_ret
      exact ⟨by rw [← HX.out.2, HG.out]; rfl, zH HBw.out HBw.out.size (by repeat (first | exact HB.out | apply zA | apply zN | apply zD))⟩
     | true =>
      rw [q1] at HCt0
      have HCt := zM HCt0
      cases q2 : (f1 == 2) with
      | false =>
       have HG := zM (show reachFrom l (k1 + 1) (x + 1) = reachFrom l k1 (x + 1 + 1) from by rw [HNF.out, q1, q2]; rfl)
       clear HCt0 HNm0 q1
       go_wp2_with (go_at_call 72; refine (HCt.out _ (by repeat (first | exact HB2.out | apply zA | apply zN | apply zD))).mono ?_; rintro e w3 ⟨rfl, ⟨n, rfl⟩⟩)
       go_roundg k1
       case measure => omega
       case rel => exact ⟨x + 1, by go_num, ⟨by have := HX.out.1; omega, by rw [← HX.out.2, HG.out]⟩, ⟨by repeat (first | exact HB.out | apply zA | apply zN | apply zD)⟩, ⟨by repeat (first | exact HB2.out | apply zA | apply zN | apply zD)⟩⟩
      | true =>
       have hNe : (namedN l f0 == 1) = (((namedN l f0 : Nat) : Int) == 1) := by
        apply Bool.eq_iff_iff.2; simp only [beq_iff_eq]; omega
       rw [hNe] at HNF
       clear hNe
       generalize ((namedN l f0 : Nat) : Int) = nn at HNF HNm0
       have HNm := zM HNm0
       cases q3 : (nn == 1) with
       | false =>
        have q3n : (nn != 1) = true := by rw [bne, q3]; rfl
        have HG := zM (show reachFrom l (k1 + 1) (x + 1) = false from by rw [HNF.out, q1, q2, q3]; rfl)
        clear HCt0 HNm0 q1
        go_wp2_with (first | (go_at_call 72; refine (HCt.out _ (by repeat (first | exact HB2.out | apply zA | apply zN | apply zD))).mono ?_; rintro e w3 ⟨rfl, ⟨n, rfl⟩⟩) | (go_at_call 73; refine (HNm.out _ (by repeat (first | exact HB.out | apply zA | apply zN | apply zD))).mono ?_; rintro e w3 ⟨rfl, hb⟩; have HBn := zM (zH (show Below w1.heap.size w1 _ from by repeat (first | exact HB.out | apply zA | apply zN | apply zD)) (zZ (show Below w1.heap.size w1 _ from by repeat (first | exact HB.out | apply zA | apply zN | apply zD))) hb); have HBm := zM (zH (show Below w2.heap.size w2 _ from by repeat (first | exact HB2.out | apply zA | apply zN | apply zD)) (zZ (show Below w2.heap.size w2 _ from by repeat (first | exact HB2.out | apply zA | apply zN | apply zD))) hb); clear hb))
        go_ret
        exact ⟨by rw [← HX.out.2, HG.out]; rfl, zH HBw.out HBw.out.size HBn.out⟩
       | true =>
        have q3n : (nn != 1) = false := by rw [bne, q3]; rfl
        have HG := zM (show reachFrom l (k1 + 1) (x + 1) = reachFrom l k1 (x + 1 + 1) from by rw [HNF.out, q1, q2, q3]; rfl)
        clear HCt0 HNm0 q1
        go_wp2_with (first | (go_at_call 72; refine (HCt.out _ (by repeat (first | exact HB2.out | apply zA | apply zN | apply zD))).mono ?_; rintro e w3 ⟨rfl, ⟨n, rfl⟩⟩) | (go_at_call 73; refine (HNm.out _ (by repeat (first | exact HB.out | apply zA | apply zN | apply zD))).mono ?_; rintro e w3 ⟨rfl, hb⟩; have HBn := zM (zH (show Below w1.heap.size w1 _ from by repeat (first | exact HB.out | apply zA | apply zN | apply zD)) (zZ (show Below w1.heap.size w1 _ from by repeat (first | exact HB.out | apply zA | apply zN | apply zD))) hb); have HBm := zM (zH (show Below w2.heap.size w2 _ from by repeat (first | exact HB2.out | apply zA | apply zN | apply zD)) (zZ (show Below w2.heap.size w2 _ from by repeat (first | exact HB2.out | apply zA | apply zN | apply zD))) hb); clear hb))
        go_roundg k1
        case measure => omega
        case rel => exact ⟨x + 1, by go_num, ⟨by have := HX.out.1; omega, by rw [← HX.out.2, HG.out]⟩, HBn, HBm⟩
    ·have HE := zM (show endB l = volOkB nx l from by
      have h1 := HX.out
      have e : gk = 0 := by omega
      rw [e] at h1; exact h1.2)
     have HT0 := total_any wr gb nx (some ad) c l (HV0.out.below HB.out)
     have HO0 := fun W (hW : Below w1.heap.size w1 W) => anyOver_any W gb nx (some ad) c l (HV0.out.below hW)
     have hTe : decide (totalN l ≤ 400) = decide (((totalN l : Nat) : Int) ≤ 400) := decide_eq_decide.2 (by omega)
     have HE2 := zM (show volOkB nx l = (decide (((totalN l : Nat) : Int) ≤ 400) && !(l.any (overB l))) from by rw [← HE.out, endB, hTe])
     clear hTe hl
     generalize ((totalN l : Nat) : Int) = tt at HT0 HE2
     have HTt := zM HT0
     cases q4 : decide (tt ≤ 400) with
     | false =>
      have HG := zM (show volOkB nx l = false from by rw [HE2.out, q4]; rfl)
      clear HT0 HO0
      go_wp2_with (go_at_call 74; refine HTt.out.mono ?_; rintro e w3 ⟨rfl, hb⟩; have HBn := zM (zH HB.out HB.out.size hb); clear hb)
      go_ret
      exact ⟨by rw [HG.out]; rfl, zH HBw.out HBw.out.size HBn.out⟩
     | true =>
      have HG := zM (show volOkB nx l = !(l.any (overB l)) from by rw [HE2.out, q4, Bool.true_and])
      generalize l.any (overB l) = ov at HO0 HG
      have HOv := zM HO0
      clear HT0 HO0
      go_wp2_with (first | (go_at_call 74; refine HTt.out.mono ?_; rintro e w3 ⟨rfl, hb⟩; have HBn := zM (zH HB.out HB.out.size hb); have hc9 := (HV0.out.below HBn.out).c1; clear hb) | (go_at_call 75; refine (HOv.out _ HBn.out).mono ?_; rintro e w4 ⟨rfl, hb⟩; have HBo := zM (zH HBn.out HBn.out.size hb); clear hb))
      go_ret
      exact ⟨by rw [HG.out]; rfl, zH HBw.out HBw.out.size HBo.out⟩
end

end Go.Proofs.YtiopcpkfjikfdaaDoor.PFnExactWalk
