import Derived.Test.YtiopcpkfjikfdaaGreatDoorQFnCleanx1
import Derived.Test.YtiopcpkfjikfdaaGreatDoorQFnCleanx9
set_option maxHeartbeats 8000000
set_option maxRecDepth 100000
namespace Go.Proofs.YtiopcpkfjikfdaaGreatDoor.PFnClean
open Go.RowKit Go.Proofs.YtiopcpkfjikfdaaGreatDoorW.PrintWords Go.Proofs.YtiopcpkfjikfdaaGreatDoorW.PrintLast Go.Proofs.YtiopcpkfjikfdaaGreatDoorW.PrintMore
attribute [local go_sem] max2_int min2_int max_two min_two max_three min_three max_four min_four   -- for this text's walks alone
set_option linter.unusedVariables false
set_option linter.unusedSimpArgs false
section
open Go.Proofs.YtiopcpkfjikfdaaGreatDoor.Mth Go.Proofs.YtiopcpkfjikfdaaGreatDoor.Str
structure Grow (w : World) where
 W : World
 hb : Below w.heap.size w W
instance grow_some (w : World) : Nonempty (Grow w) := ⟨⟨w, Below.refl _ _⟩⟩
theorem wp_region_grow {P : Program} {id : Nat} {Q : Exit → Act → World → Prop} {a : Act} {w : World} {l : List Oper} (hm : P.follows .mixedOrders = true) (hB : Region.lexB .any l.toArray = true)
  (h : wpQuiet P l.toArray (fun w' => ∃ x : Grow w, w' = x.W) (fun a' => ∀ w', (∃ x : Grow w, w' = x.W) → Q .normal a' w') l a) : (Code.region id l.toArray true).wp P Q a w :=
 wp_region_quiet (C := fun w' => ∃ x : Grow w, w' = x.W) hm hB ⟨⟨_, zD (Below.refl _ _)⟩, rfl⟩ (by simpa using h)
theorem Grow.cell {w : World} (x : Grow w) {p : Addr} {v : Value} (h : w.cell? p = some v) : x.W.cell? p = some v := pw_cell_below x.hb h
theorem grow_call {P : Program} {f : FuncId} {args : Array Value} {w : World} {x : Grow w} {v : Value} (h : Calls P f args x.W fun e w' => e = .returned v ∧ Below x.W.heap.size x.W w') : Calls P f args x.W fun e w'' => e = .returned v ∧ ∃ y : Grow w, w'' = y.W :=
 h.mono fun e w' h' => ⟨h'.1, ⟨w', zH x.hb x.hb.size h'.2⟩, rfl⟩
theorem grow_draw {P : Program} {f : FuncId} {args : Array Value} {w : World} {x : Grow w} {v : Value} (h : Calls P f args x.W fun e w' => e = .returned v ∧ Drawn0 x.W w') : Calls P f args x.W fun e w'' => e = .returned v ∧ ∃ y : Grow w, w'' = y.W :=
 h.mono fun e w' h' => ⟨h'.1, ⟨w', zH x.hb x.hb.size h'.2.below⟩, rfl⟩
theorem within_eq (a b c : Int) : impl_within.f a b c = some (decide (b ≤ a ∧ a ≤ c)) := by
 unfold impl_within.f
 by_cases h : a ≥ b
 ·rw [if_pos h]; have : b ≤ a := h; simp [this]
 ·rw [if_neg h]; have : ¬ b ≤ a := h; simp [this]
def rgB (a b c : Int) : Bool := decide (b ≤ a ∧ a ≤ c)
theorem within_any (a b c : Int) (w : World) : Calls Tryz.prog 33 #[.int .i64 a, .int .i64 b, .int .i64 c] w fun e w' => e = .returned (.bool (rgB a b c)) ∧ Drawn0 w w' := impl_within.calls a b c _ w (within_eq a b c)
theorem byte_impl (x : Int) : impl_isNameByte.f x = some (nameByte x) := by
 unfold impl_isNameByte.f nameByte
 repeat' split
 all_goals (congr 1; apply Bool.eq_iff_iff.2; simp only [beq_iff_eq, decide_eq_true_eq, true_iff, false_iff, iff_true]; omega)
theorem name_impl_loop (s : ByteArray) (hs : s.size ≤ 140737488351232) : ∀ (d i : Nat), i + d = s.size → Ev (fun k => impl_NameOk.l0 k s (s.size : Int) (i : Int)) (decide (1 ≤ s.size ∧ s.size ≤ 8 ∧ bytesOf s ≠ [46] ∧ bytesOf s ≠ [46, 46]) && ((bytesOf s).drop i).all nameByte) := by
 intro d
 induction d with
 | zero =>
  intro i hi
  rw [all_end s _ i (by omega), Bool.and_true]
  refine Ev.step (impl_NameOk.l0.eq_2 _ _ _) (ev_neg (by omega) (ev_of (within_eq _ _ _) ?_))
  have e1 := toList_iff s [46]
  have e2 := toList_iff s [46, 46]
  have m1 : ([46] : List UInt8).map (fun b => (b.toNat : Int)) = [46] := rfl
  have m2 : ([46, 46] : List UInt8).map (fun b => (b.toNat : Int)) = [46, 46] := rfl
  rw [m1] at e1; rw [m2] at e2
  by_cases h1 : 1 ≤ s.size ∧ s.size ≤ 8
  ·refine ev_pos (by simp; omega) ?_
   by_cases c1 : bytesOf s = [46]
   ·refine ev_pos (e1.2 c1) (ev_now ?_)
    simp [c1]
   ·refine ev_neg (fun h => c1 (e1.1 h)) (ev_now ?_)
    congr 1
    apply Bool.eq_iff_iff.2
    simp only [bne_iff_ne, ne_eq, decide_eq_true_eq]
    constructor
    ·intro h; exact ⟨h1.1, h1.2, c1, fun h' => h (e2.2 h')⟩
    ·rintro ⟨_, _, _, h⟩ h'; exact h (e2.1 h')
  ·refine ev_neg (by simp; omega) (ev_now ?_)
   congr 1; symm
   apply zG; rintro ⟨a, b, _⟩; exact h1 ⟨a, b⟩
 | succ d ih =>
  intro i hi
  rw [all_drop s _ i (by omega)]
  refine Ev.step (impl_NameOk.l0.eq_2 _ _ _) (ev_pos (by omega) (ev_pos (by omega) (ev_pos (by omega) (ev_of (byte_impl _) ?_))))
  have e3 : wrap64 ((i : Int) + 1) = ((i + 1 : Nat) : Int) := w64 (by omega) (by omega)
  rw [e3]
  by_cases h : nameByte (bt s (i : Int)) = true
  ·rw [h, Bool.true_and]
   exact ev_pos rfl (ih (i + 1) (by omega))
  ·have h' : nameByte (bt s (i : Int)) = false := by simpa using h
   rw [h', Bool.false_and, Bool.and_false]
   exact ev_neg (by simp) (ev_now rfl)
theorem name_impl (s : ByteArray) (hs : s.size ≤ 140737488351232) : Ev (fun k => impl_NameOk.f k s) (nameOkL (bytesOf s)) := by
 unfold impl_NameOk.f nameOkL
 rw [bytesOf_length]
 have := name_impl_loop s hs s.size 0 (by omega)
 simpa using this
theorem target_impl_loop (s : ByteArray) (hs : s.size ≤ 140737488351232) : ∀ (d i : Nat), i + d = s.size → Ev (fun k => impl_isTarget.l0 k s (s.size : Int) (i : Int)) (decide (1 ≤ s.size ∧ s.size ≤ 60) && ((bytesOf s).drop i).all slashByte) := by
 intro d
 induction d with
 | zero =>
  intro i hi
  rw [all_end s _ i (by omega), Bool.and_true]
  refine Ev.step (impl_isTarget.l0.eq_2 _ _ _) (ev_neg (by omega) (ev_of (within_eq _ _ _) (ev_now ?_)))
  congr 1
  apply Bool.eq_iff_iff.2
  simp only [decide_eq_true_eq]; omega
 | succ d ih =>
  intro i hi
  rw [all_drop s _ i (by omega)]
  refine Ev.step (impl_isTarget.l0.eq_2 _ _ _) (ev_pos (by omega) (ev_pos (by omega) (ev_pos (by omega) ?_)))
  have e3 : wrap64 ((i : Int) + 1) = ((i + 1 : Nat) : Int) := w64 (by omega) (by omega)
  rw [e3]
  unfold slashByte
  by_cases h47 : bt s (i : Int) = 47
  ·refine ev_pos h47 ?_
   rw [h47]
   have := ih (i + 1) (by omega)
   unfold slashByte at this
   simpa using this
  ·refine ev_neg h47 (ev_of (byte_impl _) ?_)
   rw [zG h47, Bool.false_or]
   by_cases h : nameByte (bt s (i : Int)) = true
   ·rw [h, Bool.true_and]
    exact ev_pos rfl (ih (i + 1) (by omega))
   ·have h' : nameByte (bt s (i : Int)) = false := by simpa using h
    rw [h', Bool.false_and, Bool.and_false]
    exact ev_neg (by simp) (ev_now rfl)
theorem target_impl (s : ByteArray) (hs : s.size ≤ 140737488351232) : Ev (fun k => impl_isTarget.f k s) (targetL (bytesOf s)) := by
 unfold impl_isTarget.f targetL
 rw [bytesOf_length]
 have := target_impl_loop s hs s.size 0 (by omega)
 simpa using this
def nmB (s : ByteArray) : Bool := nameOkL (bytesOf s)
def tgB (s : ByteArray) : Bool := targetL (bytesOf s)
theorem nameOk_any (s : ByteArray) (hs : s.size ≤ 1048576) (w : World) : Calls Tryz.prog 91 #[.string s] w fun e w' => e = .returned (.bool (nmB s)) ∧ Drawn0 w w' := by
 obtain ⟨K, hK⟩ := name_impl s (by omega)
 exact impl_NameOk.calls K s _ w (hK K (Nat.le_refl _))
theorem target_any (s : ByteArray) (hs : s.size ≤ 1048576) (w : World) : Calls Tryz.prog 43 #[.string s] w fun e w' => e = .returned (.bool (tgB s)) ∧ Drawn0 w w' := by
 obtain ⟨K, hK⟩ := target_impl s (by omega)
 exact impl_isTarget.calls K s _ w (hK K (Nat.le_refl _))
def totalN (l : List S37) : Nat := (l.map fun x => x.f5.size).sum
theorem totalN_snoc (l : List S37) (x : Nat) (h : x < l.length) : totalN (l.take (x + 1)) = totalN (l.take x) + l[x].f5.size := by
 unfold totalN
 rw [List.take_succ_eq_append_getElem h, List.map_append, List.sum_append]
 simp
theorem totalN_le : ∀ (l : List S37), (∀ x ∈ l, x.f5.size ≤ 1048576) → totalN l ≤ l.length * 1048576
 | [], _ => Nat.le_refl _
 | x :: l, h => by
  have h2 := h x (by simp)
  have h3 := totalN_le l (fun y hy => h y (by simp [hy]))
  unfold totalN at h3 ⊢
  rw [List.map_cons, List.sum_cons, List.length_cons]
  omega
theorem total_any (w : World) (g : Nat) (nx : Int) (A : Option Addr) (c : Nat) (l : List S37) (h : VolAt w g nx A c l) :
  Calls Tryz.prog 38 #[.pointer (some ⟨g, 0, none⟩)] w fun e w' => e = .returned (.int .i64 (totalN l : Int)) ∧ Below w.heap.size w w' := by
 have hu29 := Tryz.underlying26
 have hu45 := Tryz.underlying37
 have hm := h.len
 have hc0 := h.c0
 have hc1 := h.c1
 have HV := zM h
 have HB := zM (Below.refl w.heap.size w)
 clear h
 go_enter Tryz.func38, Tryz.ntmps38
 go_wp2
 go_loopg [3, 11] l.length (fun kq vn vi w' => ∃ (x n : Nat), vn = .int .i64 (n : Int) ∧ vi = .int .i64 (x : Int) ∧ Aside0 (x + kq = l.length ∧ n = totalN (l.take x)) ∧ Aside0 (Below w.heap.size w w'))
 case atStart => exact ⟨0, 0, rfl, rfl, ⟨by omega, rfl⟩, HB⟩
 case round =>
  clear hc0 hc1 HB
  obtain ⟨x, n, rfl, rfl, HX, HB⟩ := hrel
  have hl : gk ≤ l.length ∧ x ≤ l.length := by have := HX.out.1; omega
  have hn : n ≤ 2000000000000 := by
   have h1 := totalN_le (l.take x) (fun z hz => HV.out.small.2.2.1 z (List.mem_of_mem_take hz))
   have h2 := HX.out.2
   have h3 := HV.out.small.1
   rw [List.length_take] at h1
   omega
  by_cases hlt : x < l.length
  ·cases gk with
   | zero => have := HX.out.1; omega
   | succ k1 =>
   obtain ⟨ad, A6, c6, eA, hx0, hx1, hx2, hx3, hx4, hx5, hx6, hx7, hx8, -, -⟩ := ino_at HV.out HB.out x hlt
   have hz := HV.out.small.2.2.1 _ (List.getElem_mem hlt)
   obtain ⟨dt, hdt⟩ : ∃ q, q = l[x].f5 := ⟨_, rfl⟩
   rw [← hdt] at hx5 hz
   have HS := zM (show totalN (l.take (x + 1)) = n + dt.size from by rw [totalN_snoc l x hlt, ← hdt, HX.out.2])
   subst eA
   clear hl hdt
   go_wp2
   go_roundg k1
   case measure => omega
   case rel => exact ⟨x + 1, n + dt.size, by go_num, by go_num, ⟨by have := HX.out.1; omega, by rw [HS.out]⟩, ⟨by repeat (first | exact HB.out | apply zA | apply zN | apply zD)⟩⟩
  ·have HN := zM (show n = totalN l from by have h1 := HX.out; have e : x = l.length := (by omega); rw [e, List.take_length] at h1; exact h1.2)
   clear hl
   go_wp2
   go_ret
   exact ⟨by rw [HN.out]; rfl, HB.out⟩
end
section
open Go.Proofs.YtiopcpkfjikfdaaGreatDoor.Mth Go.Proofs.YtiopcpkfjikfdaaGreatDoor.Str
def dAt (ds : List S59) (i : Nat) : S59 := ds.getD i z59
theorem dAt_eq (ds : List S59) (i : Nat) (h : i < ds.length) : dAt ds i = ds[i] := by
 unfold dAt
 rw [List.getD_eq_getElem?_getD, List.getElem?_eq_getElem h]; rfl
def lessS (a b : ByteArray) : Bool := Op.bytesLess a.toList b.toList
def nameAtB (l : List S37) (ds : List S59) (i : Nat) : Bool := nmB (dAt ds i).f0 && (!((dAt ds i).f1 == 1) && (decide (inoI l (dAt ds i).f1 < l.length) && (i == 0 || lessS (dAt ds (i - 1)).f0 (dAt ds i).f0)))
def namesFrom (l : List S37) (ds : List S59) : Nat → Nat → Bool
 | 0, _ => decide (ds.length ≤ 12)
 | k + 1, i => nameAtB l ds i && namesFrom l ds k (i + 1)
def namesOkB (l : List S37) (ds : List S59) : Bool := namesFrom l ds ds.length 0
def dSmall (ds : List S59) : Prop := ds.length ≤ 1048576 ∧ ∀ d ∈ ds, d.f0.size ≤ 1048576
theorem namesOk_any (w : World) (g : Nat) (nx : Int) (A : Option Addr) (c : Nat) (l : List S37) (h : VolAt w g nx A c l) (x0 x1 x2 x3 x4 p q : Int) (s : ByteArray) (A6 : Option Addr) (c6 : Nat) (ds : List S59) (hR : Kd.C k59 w A6 ds.length ds) (hS : dSmall ds) :
  Calls Tryz.prog 68 #[.pointer (some ⟨g, 0, none⟩), .agg #[.int .i64 x0, .int .i64 x1, .int .i64 x2, .int .i64 x3, .int .i64 x4, .string s, .slice A6 ds.length c6, .int .i64 p, .int .i64 q]] w fun e w' =>
   e = .returned (.bool (namesOkB l ds)) ∧ Below w.heap.size w w' := by
 have hu29 := Tryz.underlying26
 have hu45 := Tryz.underlying37
 have hu68 := Tryz.underlying59
 have hm : ds.length ≤ 9223372036854775807 := hR.2.1
 have HV := zM h
 have HR := zM hR
 have HS := zM hS
 clear h hR hS
 go_enter Tryz.func68, Tryz.ntmps68
 go_wp2
 generalize hq : w.alloc (.cells #[.int .i64 x0, .int .i64 x1, .int .i64 x2, .int .i64 x3, .int .i64 x4, .string s, .slice A6 ds.length c6, .int .i64 p, .int .i64 q] 37) = w1
 have HB1 := zM (show Below w.heap.size w w1 from by rw [← hq]; exact zA (Below.refl _ _) _)
 have HK6 := zM (show w1.cell? ⟨w.heap.size, 6, none⟩ = some (.slice A6 ds.length c6) from by rw [← hq]; exact (zC (heap_alloc_new w _) 6).trans rfl)
 have HLb := zM (show w.heap.size < w1.heap.size from by rw [← hq]; simp)
 have HV1 := zM (HV.out.below HB1.out)
 have HR1 := zM (Kd.C_below HR.out HB1.out)
 obtain ⟨gb, hgb⟩ : ∃ q, q = w.heap.size := ⟨_, rfl⟩
 rw [← hgb] at HK6 HLb ⊢
 have HG := zM hgb
 clear hq hgb HV HR
 go_loopg [10] ds.length (fun kq v10 w' => ∃ (x : Nat), v10 = .int .i64 (x : Int) ∧ Aside0 (x + kq = ds.length ∧ namesFrom l ds kq x = namesOkB l ds) ∧ Aside0 (Below w1.heap.size w1 w'))
 case atStart => exact ⟨0, rfl, ⟨by omega, rfl⟩, ⟨Below.refl _ _⟩⟩
 case round =>
  obtain ⟨x, rfl, HX, HB⟩ := hrel
  have hl : gk ≤ ds.length ∧ x ≤ ds.length := by have := HX.out.1; omega
  by_cases hlt : x < ds.length
  ·cases gk with
   | zero => have := HX.out.1; omega
   | succ k1 =>
   obtain ⟨adN, eA, hy0, hy1⟩ := dir_at HR1.out HB.out x hlt
   subst eA
   have hsz := HS.out.2 _ (List.getElem_mem hlt)
   obtain ⟨sn, hsn⟩ : ∃ q, q = ds[x].f0 := ⟨_, rfl⟩
   obtain ⟨v, hv⟩ : ∃ q, q = ds[x].f1 := ⟨_, rfl⟩
   rw [← hsn] at hy0 hsz
   rw [← hv] at hy1
   have HNF := zM (show namesFrom l ds (k1 + 1) x = (nmB sn && (!(v == 1) && (decide (inoI l v < l.length) && (x == 0 || lessS (dAt ds (x - 1)).f0 sn))) && namesFrom l ds k1 (x + 1)) from by
    rw [namesFrom, nameAtB, dAt_eq ds x hlt, ← hsn, ← hv])
   obtain ⟨sp, hsp⟩ : ∃ q, q = (dAt ds (x - 1)).f0 := ⟨_, rfl⟩
   rw [← hsp] at HNF
   have HN0 := nameOk_any sn hsz
   have HI0 := fun (W : World) (hW : Below w1.heap.size w1 W) => inode_any W g nx A c l v (HV1.out.below hW)
   have HJ := zM (show 0 < x → ∃ j : Int, wrap64 ((x : Int) - 1) = j ∧ 0 ≤ j ∧ j < (ds.length : Int) ∧ ∀ W, Below w1.heap.size w1 W → ∃ ad, some adN = some ad ∧ W.cell? (ad.add (j.toNat * 2)) = some (.string sp) from fun hx => ⟨((x - 1 : Nat) : Int), by unfold wrap64; omega, by omega, by omega, fun W hW => by
    obtain ⟨ad, e1, h1, -⟩ := dir_at HR1.out hW (x - 1) (by omega)
    rw [← dAt_eq ds (x - 1) (by omega), ← hsp] at h1
    exact ⟨ad, e1, by rw [Int.toNat_natCast]; exact h1⟩⟩)
   clear hl hsn hv hsp hsz
   go_wp2
   generalize hq : wr.alloc (.cells #[.string sn, .int .i64 v] 59) = wi
   have HBi := zM (show Below w1.heap.size w1 wi from by rw [← hq]; exact zA HB.out _)
   have hd0 : ∀ y : Grow wi, y.W.cell? ⟨wr.heap.size, 0, none⟩ = some (.string sn) := fun y => y.cell (by rw [← hq]; exact (zC (heap_alloc_new wr _) 0).trans rfl)
   have hd1 : ∀ y : Grow wi, y.W.cell? ⟨wr.heap.size, 1, none⟩ = some (.int .i64 v) := fun y => y.cell (by rw [← hq]; exact (zC (heap_alloc_new wr _) 1).trans rfl)
   have hn6 : ∀ y : Grow wi, y.W.cell? ⟨gb, 6, none⟩ = some (.slice (some adN) ds.length c6) := fun y => y.cell ((HBi.out.cell (p := ⟨gb, 6, none⟩) HLb.out).trans HK6.out)
   generalize wr.heap.size = gd at hd0 hd1 ⊢
   clear hy0 hy1 HB hq
   have HI1 := fun (y : Grow wi) => HI0 y.W (zH HBi.out HBi.out.size y.hb)
   clear HI0
   cases b1 : nmB sn with
   | false =>
    have HF := zM (show namesFrom l ds (k1 + 1) x = false from by rw [HNF.out, b1]; rfl)
    rw [b1] at HN0
    have HN := zM HN0
    have HI := zM HI1
    clear HN0 HI1 b1
    refine wp_region_grow (by kernel_rfl) (by kernel_rfl) ?_
    repeat (go_big_quiet_step (first | (go_at_call 91; exact grow_draw (HN.out _)) | (go_at_call 44; exact grow_draw (HI.out _))))
    refine wpQuiet_nil ?_
    rintro _ ⟨yw, rfl⟩
    have HBy := zM (zH HBi.out HBi.out.size yw.hb)
    generalize yw.W = wy at HBy ⊢
    go_wp2
    go_ret
    exact ⟨by rw [← HX.out.2, HF.out]; rfl, zH HB1.out HB1.out.size HBy.out⟩
   | true =>
    rw [b1] at HN0
    have HN := zM HN0
    cases b2 : (v == 1) with
    | true =>
     have HF := zM (show namesFrom l ds (k1 + 1) x = false from by rw [HNF.out, b1, b2]; rfl)
     have HI := zM HI1
     clear HN0 HI1 b1
     refine wp_region_grow (by kernel_rfl) (by kernel_rfl) ?_
     repeat (go_big_quiet_step (first | (go_at_call 91; exact grow_draw (HN.out _)) | (go_at_call 44; exact grow_draw (HI.out _))))
     refine wpQuiet_nil ?_
     rintro _ ⟨yw, rfl⟩
     have HBy := zM (zH HBi.out HBi.out.size yw.hb)
     generalize yw.W = wy at HBy ⊢
     go_wp2
     go_ret
     exact ⟨by rw [← HX.out.2, HF.out]; rfl, zH HB1.out HB1.out.size HBy.out⟩
    | false =>
     have HE : ∀ y : Grow wi, inoP A l v = if decide (inoI l v < l.length) = true then .pointer (some ((A.getD ⟨0, 0, none⟩).add (inoI l v * 9))) else .pointer none := fun y => by
      unfold inoP
      by_cases h : inoI l v < l.length
      ·rw [if_pos h, if_pos (zE h)]
       obtain ⟨ad, -, -, eA, -⟩ := ino_at HV1.out (Below.refl _ _) _ h
       rw [eA]; rfl
      ·rw [if_neg h, if_neg (by simpa using h)]
     cases b3 : decide (inoI l v < l.length) with
     | false =>
      have HF := zM (show namesFrom l ds (k1 + 1) x = false from by rw [HNF.out, b1, b2, b3]; rfl)
      have HI := zM (show ∀ y : Grow wi, Calls Tryz.prog 44 #[.pointer (some ⟨g, 0, none⟩), .int .i64 v] y.W fun e w' => e = .returned (.pointer none) ∧ Drawn0 y.W w' from fun y => by have h1 := HI1 y; rw [HE y, b3] at h1; exact h1)
      clear HN0 HI1 HE b1 b3
      refine wp_region_grow (by kernel_rfl) (by kernel_rfl) ?_
      repeat (go_big_quiet_step (first | (go_at_call 91; exact grow_draw (HN.out _)) | (go_at_call 44; exact grow_draw (HI.out _))))
      refine wpQuiet_nil ?_
      rintro _ ⟨yw, rfl⟩
      have HBy := zM (zH HBi.out HBi.out.size yw.hb)
      generalize yw.W = wy at HBy ⊢
      go_wp2
      go_ret
      exact ⟨by rw [← HX.out.2, HF.out]; rfl, zH HB1.out HB1.out.size HBy.out⟩
     | true =>
      have HI := zM (show ∀ y : Grow wi, Calls Tryz.prog 44 #[.pointer (some ⟨g, 0, none⟩), .int .i64 v] y.W fun e w' => e = .returned (.pointer (some ((A.getD ⟨0, 0, none⟩).add (inoI l v * 9)))) ∧ Drawn0 y.W w' from fun y => by have h1 := HI1 y; rw [HE y, b3] at h1; exact h1)
      clear HN0 HI1 HE
      generalize (A.getD ⟨0, 0, none⟩).add (inoI l v * 9) = pa at HI
      by_cases b4 : 0 < x
      ·obtain ⟨j, hj, hj0, hj1, hjc⟩ := HJ.out b4
       have hjw : IntKind.i64.wrap ((x : Int) - 1) = j := (i64_w _).trans hj
       have b4d : decide (0 < x) = true := zE b4
       have b4i : decide (0 < (x : Int)) = true := zE (by omega)
       have hp0 : ∀ y : Grow wi, y.W.cell? (adN.add (j.toNat * 2)) = some (.string sp) := fun y => by
        obtain ⟨ad, e1, h1⟩ := hjc y.W (zH HBi.out HBi.out.size y.hb)
        injection e1 with e1
        rw [e1]; exact h1
       replace hj0 := eq_true hj0
       replace hj1 := eq_true hj1
       have hx0 : (x == 0) = false := by rw [beq_eq_false_iff_ne]; omega
       cases b5 : lessS sp sn with
       | false =>
        have HF := zM (show namesFrom l ds (k1 + 1) x = false from by rw [HNF.out, b1, b2, b3, hx0, b5]; rfl)
        have b5' : Op.bytesLess sp.toList sn.toList = false := b5
        clear b1 b3 hx0 b4 hj hjc b5
        refine wp_region_grow (by kernel_rfl) (by kernel_rfl) ?_
        repeat (go_big_quiet_step (first | (go_at_call 91; exact grow_draw (HN.out _)) | (go_at_call 44; exact grow_draw (HI.out _))))
        refine wpQuiet_nil ?_
        rintro _ ⟨yw, rfl⟩
        have HBy := zM (zH HBi.out HBi.out.size yw.hb)
        generalize yw.W = wy at HBy ⊢
        go_wp2
        go_ret
        exact ⟨by rw [← HX.out.2, HF.out]; rfl, zH HB1.out HB1.out.size HBy.out⟩
       | true =>
        have HF := zM (show namesFrom l ds (k1 + 1) x = namesFrom l ds k1 (x + 1) from by rw [HNF.out, b1, b2, b3, hx0, b5]; rfl)
        have b5' : Op.bytesLess sp.toList sn.toList = true := b5
        clear b1 b3 hx0 b4 hj hjc b5
        refine wp_region_grow (by kernel_rfl) (by kernel_rfl) ?_
        repeat (go_big_quiet_step (first | (go_at_call 91; exact grow_draw (HN.out _)) | (go_at_call 44; exact grow_draw (HI.out _))))
        refine wpQuiet_nil ?_
        rintro _ ⟨yw, rfl⟩
        have HBy := zM (zH HBi.out HBi.out.size yw.hb)
        generalize yw.W = wy at HBy ⊢
        go_wp2
        go_roundg k1
        case measure => omega
        case rel => exact ⟨x + 1, by go_num, ⟨by have := HX.out.1; omega, by rw [← HX.out.2, HF.out]⟩, HBy⟩
      ·have hx0 : x = 0 := by omega
       subst hx0
       have HF := zM (show namesFrom l ds (k1 + 1) 0 = namesFrom l ds k1 (0 + 1) from by rw [HNF.out, b1, b2, b3]; rfl)
       clear b1 b3
       refine wp_region_grow (by kernel_rfl) (by kernel_rfl) ?_
       repeat (go_big_quiet_step (first | (go_at_call 91; exact grow_draw (HN.out _)) | (go_at_call 44; exact grow_draw (HI.out _))))
       refine wpQuiet_nil ?_
       rintro _ ⟨yw, rfl⟩
       have HBy := zM (zH HBi.out HBi.out.size yw.hb)
       generalize yw.W = wy at HBy ⊢
       go_wp2
       go_roundg k1
       case measure => omega
       case rel => exact ⟨0 + 1, by go_num, ⟨by have := HX.out.1; omega, by rw [← HX.out.2, HF.out]⟩, HBy⟩
  ·have HN := zM (show namesOkB l ds = decide (ds.length ≤ 12) from by
    have h1 := HX.out
    have e : gk = 0 := by omega
    rw [e] at h1; exact h1.2.symm)
   have hK := (HB.out.cell (p := ⟨gb, 6, none⟩) HLb.out).trans HK6.out
   clear hl
   go_wp2
   go_ret
   exact ⟨by rw [HN.out, show decide (ds.length ≤ 12) = decide ((ds.length : Int) ≤ 12) from decide_eq_decide.2 (by omega)]; rfl, zH HB1.out HB1.out.size HB.out⟩
end
section
open Go.Proofs.YtiopcpkfjikfdaaGreatDoor.Mth Go.Proofs.YtiopcpkfjikfdaaGreatDoor.Str
def inodeOkV (l : List S37) (x1 x2 x3 x4 p q : Int) (s : ByteArray) (ds : List S59) : Bool :=
 rgB x2 0 2047 && (rgB x3 0 1000 && (rgB x4 0 1000 && (!(!(x1 == 2) && (decide (0 < ds.length) || (!(p == 0) || !(q == 0)))) &&
  (if x1 = 1 then decide (s.size ≤ 64) else if x1 = 3 then tgB s && x2 == 511 else if x1 = 2 then decide (s.size = 0) && (namesOkB l ds && (rgB p 0 400 && rgB q 0 24)) else false))))
def inodeOkB (l : List S37) (x : S37) : Bool := inodeOkV l x.f1 x.f2 x.f3 x.f4 x.f7 x.f8 x.f5 x.f6
theorem nil_forms (s : ByteArray) (h : s.size = 0) : s.toList = ([] : List UInt8) := by
 exact (toList_iff s []).2 (List.eq_nil_of_length_eq_zero (by rw [bytesOf_length]; exact h))
theorem nil_not (s : ByteArray) (h : s.size ≠ 0) : s.toList ≠ ([] : List UInt8) := fun e => h (by
 have h1 := (toList_iff s []).1 e
 have h2 := congrArg List.length h1
 rw [bytesOf_length] at h2
 simpa using h2)
theorem inodeOk_any (w : World) (g : Nat) (nx : Int) (A : Option Addr) (c : Nat) (l : List S37) (h : VolAt w g nx A c l) (x0 x1 x2 x3 x4 p q : Int) (s : ByteArray) (A6 : Option Addr) (c6 : Nat) (ds : List S59) (hR : Kd.C k59 w A6 ds.length ds) (hS : dSmall ds) (hs : s.size ≤ 1048576) :
  Calls Tryz.prog 34 #[.pointer (some ⟨g, 0, none⟩), .agg #[.int .i64 x0, .int .i64 x1, .int .i64 x2, .int .i64 x3, .int .i64 x4, .string s, .slice A6 ds.length c6, .int .i64 p, .int .i64 q]] w fun e w' =>
   e = .returned (.bool (inodeOkV l x1 x2 x3 x4 p q s ds)) ∧ Below w.heap.size w w' := by
 have hu29 := Tryz.underlying26
 have hu45 := Tryz.underlying37
 have hm : ds.length ≤ 9223372036854775807 := hR.2.1
 have HT := zM (target_any s hs)
 have HNk := zM (fun W (hW : Below w.heap.size w W) => namesOk_any W g nx A c l (h.below hW) x0 x1 x2 x3 x4 p q s A6 c6 ds (Kd.C_below hR hW) hS)
 clear h hR hS
 cases r1 : rgB x2 0 2047 with
 | false =>
  have HF := zM (show inodeOkV l x1 x2 x3 x4 p q s ds = false from by unfold inodeOkV; simp [r1])
  clear HNk HT
  go_enter Tryz.func34, Tryz.ntmps34
  go_wp2_with (first | (go_at_call 33; refine (within_any _ _ _ _).mono ?_; rintro e w1 ⟨rfl, ⟨n, rfl⟩⟩))
  go_ret
  exact ⟨by rw [HF.out]; first | rfl | simp, by repeat (first | exact Below.refl _ _ | apply zA | apply zN | apply zD)⟩
 | true =>
 cases r2 : rgB x3 0 1000 with
 | false =>
  have HF := zM (show inodeOkV l x1 x2 x3 x4 p q s ds = false from by unfold inodeOkV; simp [r1, r2])
  clear HNk HT
  go_enter Tryz.func34, Tryz.ntmps34
  go_wp2_with (first | (go_at_call 33; refine (within_any _ _ _ _).mono ?_; rintro e w1 ⟨rfl, ⟨n, rfl⟩⟩))
  go_ret
  exact ⟨by rw [HF.out]; first | rfl | simp, by repeat (first | exact Below.refl _ _ | apply zA | apply zN | apply zD)⟩
 | true =>
 cases r3 : rgB x4 0 1000 with
 | false =>
  have HF := zM (show inodeOkV l x1 x2 x3 x4 p q s ds = false from by unfold inodeOkV; simp [r1, r2, r3])
  clear HNk HT
  go_enter Tryz.func34, Tryz.ntmps34
  go_wp2_with (first | (go_at_call 33; refine (within_any _ _ _ _).mono ?_; rintro e w1 ⟨rfl, ⟨n, rfl⟩⟩))
  go_ret
  exact ⟨by rw [HF.out]; first | rfl | simp, by repeat (first | exact Below.refl _ _ | apply zA | apply zN | apply zD)⟩
 | true =>
 by_cases k2 : x1 = 2
 ·subst k2
  by_cases e0 : s.size = 0
  ·have e1 := nil_forms s e0
   have e2 : (s.toList == ([] : List UInt8)) = true := by rw [e1]; rfl
   have e3 : s.toList.isEmpty = true := by rw [e1]; rfl
   cases n1 : namesOkB l ds with
   | false =>
    rw [n1] at HNk
    have HF := zM (show inodeOkV l 2 x2 x3 x4 p q s ds = false from by unfold inodeOkV; simp [r1, r2, r3, n1])
    clear HT e0 n1
    go_enter Tryz.func34, Tryz.ntmps34
    go_wp2_with (first | (go_at_call 33; refine (within_any _ _ _ _).mono ?_; rintro e w1 ⟨rfl, ⟨n, rfl⟩⟩) | (go_at_call 68; refine (HNk.out _ (by repeat (first | exact Below.refl _ _ | apply zA | apply zN | apply zD))).mono ?_; rintro e w1 ⟨rfl, hb⟩; have hq : Below (w.alloc (.cells #[.int .i64 x0, .int .i64 2, .int .i64 x2, .int .i64 x3, .int .i64 x4, .string s, .slice A6 ds.length c6, .int .i64 p, .int .i64 q] 37)).heap.size (w.alloc (.cells #[.int .i64 x0, .int .i64 2, .int .i64 x2, .int .i64 x3, .int .i64 x4, .string s, .slice A6 ds.length c6, .int .i64 p, .int .i64 q] 37)) w1 := zH (by repeat (first | exact Below.refl _ _ | apply zA | apply zN | apply zD)) (zZ (by repeat (first | exact Below.refl _ _ | apply zA | apply zN | apply zD))) hb; have hbx := (hq.block w.heap.size (by simp)).trans (heap_alloc_new w _); have h7 : w1.cell? ⟨w.heap.size, 7, none⟩ = some (.int .i64 p) := (zC hbx 7).trans rfl; have h8 : w1.cell? ⟨w.heap.size, 8, none⟩ = some (.int .i64 q) := (zC hbx 8).trans rfl; have HB1 := zM (zH (zA (Below.refl w.heap.size w) _) (by simp) hq); clear hb hbx hq))
    go_ret
    exact ⟨by rw [HF.out]; first | rfl | simp, by repeat (first | exact HB1.out | apply zA | apply zN | apply zD)⟩
   | true =>
   cases r4 : rgB p 0 400 with
   | false =>
    rw [n1] at HNk
    have HF := zM (show inodeOkV l 2 x2 x3 x4 p q s ds = false from by unfold inodeOkV; simp [r1, r2, r3, n1, r4])
    clear HT e0 n1
    go_enter Tryz.func34, Tryz.ntmps34
    go_wp2_with (first | (go_at_call 33; refine (within_any _ _ _ _).mono ?_; rintro e w1 ⟨rfl, ⟨n, rfl⟩⟩) | (go_at_call 68; refine (HNk.out _ (by repeat (first | exact Below.refl _ _ | apply zA | apply zN | apply zD))).mono ?_; rintro e w1 ⟨rfl, hb⟩; have hq : Below (w.alloc (.cells #[.int .i64 x0, .int .i64 2, .int .i64 x2, .int .i64 x3, .int .i64 x4, .string s, .slice A6 ds.length c6, .int .i64 p, .int .i64 q] 37)).heap.size (w.alloc (.cells #[.int .i64 x0, .int .i64 2, .int .i64 x2, .int .i64 x3, .int .i64 x4, .string s, .slice A6 ds.length c6, .int .i64 p, .int .i64 q] 37)) w1 := zH (by repeat (first | exact Below.refl _ _ | apply zA | apply zN | apply zD)) (zZ (by repeat (first | exact Below.refl _ _ | apply zA | apply zN | apply zD))) hb; have hbx := (hq.block w.heap.size (by simp)).trans (heap_alloc_new w _); have h7 : w1.cell? ⟨w.heap.size, 7, none⟩ = some (.int .i64 p) := (zC hbx 7).trans rfl; have h8 : w1.cell? ⟨w.heap.size, 8, none⟩ = some (.int .i64 q) := (zC hbx 8).trans rfl; have HB1 := zM (zH (zA (Below.refl w.heap.size w) _) (by simp) hq); clear hb hbx hq))
    go_ret
    exact ⟨by rw [HF.out]; first | rfl | simp, by repeat (first | exact HB1.out | apply zA | apply zN | apply zD)⟩
   | true =>
    rw [n1] at HNk
    have HF := zM (show inodeOkV l 2 x2 x3 x4 p q s ds = rgB q 0 24 from by unfold inodeOkV; simp [r1, r2, r3, n1, r4, e0])
    clear HT e0 n1
    go_enter Tryz.func34, Tryz.ntmps34
    go_wp2_with (first | (go_at_call 33; refine (within_any _ _ _ _).mono ?_; rintro e w1 ⟨rfl, ⟨n, rfl⟩⟩) | (go_at_call 68; refine (HNk.out _ (by repeat (first | exact Below.refl _ _ | apply zA | apply zN | apply zD))).mono ?_; rintro e w1 ⟨rfl, hb⟩; have hq : Below (w.alloc (.cells #[.int .i64 x0, .int .i64 2, .int .i64 x2, .int .i64 x3, .int .i64 x4, .string s, .slice A6 ds.length c6, .int .i64 p, .int .i64 q] 37)).heap.size (w.alloc (.cells #[.int .i64 x0, .int .i64 2, .int .i64 x2, .int .i64 x3, .int .i64 x4, .string s, .slice A6 ds.length c6, .int .i64 p, .int .i64 q] 37)) w1 := zH (by repeat (first | exact Below.refl _ _ | apply zA | apply zN | apply zD)) (zZ (by repeat (first | exact Below.refl _ _ | apply zA | apply zN | apply zD))) hb; have hbx := (hq.block w.heap.size (by simp)).trans (heap_alloc_new w _); have h7 : w1.cell? ⟨w.heap.size, 7, none⟩ = some (.int .i64 p) := (zC hbx 7).trans rfl; have h8 : w1.cell? ⟨w.heap.size, 8, none⟩ = some (.int .i64 q) := (zC hbx 8).trans rfl; have HB1 := zM (zH (zA (Below.refl w.heap.size w) _) (by simp) hq); clear hb hbx hq))
    go_ret
    exact ⟨by rw [HF.out]; first | rfl | simp, by repeat (first | exact HB1.out | apply zA | apply zN | apply zD)⟩
  ·have e1 := nil_not s e0
   have e2 : (s.toList == ([] : List UInt8)) = false := by rw [beq_eq_false_iff_ne]; exact e1
   have e3 : s.toList.isEmpty = false := by cases h : s.toList with
    | nil => exact absurd h e1
    | cons a b => rfl
   have HF := zM (show inodeOkV l 2 x2 x3 x4 p q s ds = false from by unfold inodeOkV; simp [r1, r2, r3, e0])
   clear HT HNk e0
   go_enter Tryz.func34, Tryz.ntmps34
   go_wp2_with (first | (go_at_call 33; refine (within_any _ _ _ _).mono ?_; rintro e w1 ⟨rfl, ⟨n, rfl⟩⟩) | (go_at_call 68; refine (HNk.out _ (by repeat (first | exact Below.refl _ _ | apply zA | apply zN | apply zD))).mono ?_; rintro e w1 ⟨rfl, hb⟩; have hq : Below (w.alloc (.cells #[.int .i64 x0, .int .i64 2, .int .i64 x2, .int .i64 x3, .int .i64 x4, .string s, .slice A6 ds.length c6, .int .i64 p, .int .i64 q] 37)).heap.size (w.alloc (.cells #[.int .i64 x0, .int .i64 2, .int .i64 x2, .int .i64 x3, .int .i64 x4, .string s, .slice A6 ds.length c6, .int .i64 p, .int .i64 q] 37)) w1 := zH (by repeat (first | exact Below.refl _ _ | apply zA | apply zN | apply zD)) (zZ (by repeat (first | exact Below.refl _ _ | apply zA | apply zN | apply zD))) hb; have hbx := (hq.block w.heap.size (by simp)).trans (heap_alloc_new w _); have h7 : w1.cell? ⟨w.heap.size, 7, none⟩ = some (.int .i64 p) := (zC hbx 7).trans rfl; have h8 : w1.cell? ⟨w.heap.size, 8, none⟩ = some (.int .i64 q) := (zC hbx 8).trans rfl; have HB1 := zM (zH (zA (Below.refl w.heap.size w) _) (by simp) hq); clear hb hbx hq))
   go_ret
   exact ⟨by rw [HF.out]; first | rfl | simp, by repeat (first | exact Below.refl _ _ | apply zA | apply zN | apply zD)⟩
 ·have k2b : (x1 == 2) = false := by simpa using k2
  have k2n : (x1 != 2) = true := by simpa using k2
  by_cases e6 : 0 < ds.length
  ·have e6b : decide (0 < ds.length) = true := zE e6
   have e6i : decide (0 < (ds.length : Int)) = true := zE (by omega)
   have HF := zM (show inodeOkV l x1 x2 x3 x4 p q s ds = false from by unfold inodeOkV; simp [r1, r2, r3, k2, e6])
   clear HNk HT k2
   go_enter Tryz.func34, Tryz.ntmps34
   go_wp2_with (first | (go_at_call 33; refine (within_any _ _ _ _).mono ?_; rintro e w1 ⟨rfl, ⟨n, rfl⟩⟩))
   go_ret
   exact ⟨by rw [HF.out]; first | rfl | simp, by repeat (first | exact Below.refl _ _ | apply zA | apply zN | apply zD)⟩
  ·have e6b : decide (0 < ds.length) = false := zG e6
   have e6i : decide (0 < (ds.length : Int)) = false := zG (by omega)
   by_cases m7 : p = 0
   ·subst m7
    by_cases m8 : q = 0
    ·subst m8
     by_cases k1 : x1 = 1
     ·subst k1
      have HF := zM (show inodeOkV l 1 x2 x3 x4 0 0 s ds = decide ((s.size : Int) ≤ 64) from by unfold inodeOkV; simp [r1, r2, r3, e6, show (decide ((s.size : Int) ≤ 64)) = decide (s.size ≤ 64) from decide_eq_decide.2 (by omega)])
      clear HNk HT k2
      go_enter Tryz.func34, Tryz.ntmps34
      go_wp2_with (first | (go_at_call 33; refine (within_any _ _ _ _).mono ?_; rintro e w1 ⟨rfl, ⟨n, rfl⟩⟩))
      go_ret
      exact ⟨by rw [HF.out]; first | rfl | simp, by repeat (first | exact Below.refl _ _ | apply zA | apply zN | apply zD)⟩
     ·have k1b : (x1 == 1) = false := by simpa using k1
      by_cases k3 : x1 = 3
      ·subst k3
       cases t1 : tgB s with
       | false =>
        rw [t1] at HT
        have HF := zM (show inodeOkV l 3 x2 x3 x4 0 0 s ds = false from by unfold inodeOkV; simp [r1, r2, r3, e6, t1])
        clear HNk k2 k1 t1
        go_enter Tryz.func34, Tryz.ntmps34
        go_wp2_with (first | (go_at_call 33; refine (within_any _ _ _ _).mono ?_; rintro e w1 ⟨rfl, ⟨n, rfl⟩⟩) | (go_at_call 43; refine (HT.out _).mono ?_; rintro e w1 ⟨rfl, ⟨n, rfl⟩⟩))
        go_ret
        exact ⟨by rw [HF.out]; first | rfl | simp, by repeat (first | exact Below.refl _ _ | apply zA | apply zN | apply zD)⟩
       | true =>
        rw [t1] at HT
        have HF := zM (show inodeOkV l 3 x2 x3 x4 0 0 s ds = (x2 == 511) from by unfold inodeOkV; simp [r1, r2, r3, e6, t1])
        clear HNk k2 k1 t1
        go_enter Tryz.func34, Tryz.ntmps34
        go_wp2_with (first | (go_at_call 33; refine (within_any _ _ _ _).mono ?_; rintro e w1 ⟨rfl, ⟨n, rfl⟩⟩) | (go_at_call 43; refine (HT.out _).mono ?_; rintro e w1 ⟨rfl, ⟨n, rfl⟩⟩))
        go_ret
        exact ⟨by rw [HF.out]; first | rfl | simp, by repeat (first | exact Below.refl _ _ | apply zA | apply zN | apply zD)⟩
      ·have k3b : (x1 == 3) = false := by simpa using k3
       have HF := zM (show inodeOkV l x1 x2 x3 x4 0 0 s ds = false from by unfold inodeOkV; simp [k1, k2, k3])
       clear HNk HT k2 k1 k3
       go_enter Tryz.func34, Tryz.ntmps34
       go_wp2_with (first | (go_at_call 33; refine (within_any _ _ _ _).mono ?_; rintro e w1 ⟨rfl, ⟨n, rfl⟩⟩))
       go_ret
       exact ⟨by rw [HF.out]; first | rfl | simp, by repeat (first | exact Below.refl _ _ | apply zA | apply zN | apply zD)⟩
    ·have m8b : (q == 0) = false := by simpa using m8
     have m8n : (q != 0) = true := by simpa using m8
     have HF := zM (show inodeOkV l x1 x2 x3 x4 0 q s ds = false from by unfold inodeOkV; simp [r1, r2, r3, k2, m8])
     clear HNk HT k2 m8
     go_enter Tryz.func34, Tryz.ntmps34
     go_wp2_with (first | (go_at_call 33; refine (within_any _ _ _ _).mono ?_; rintro e w1 ⟨rfl, ⟨n, rfl⟩⟩))
     go_ret
     exact ⟨by rw [HF.out]; first | rfl | simp, by repeat (first | exact Below.refl _ _ | apply zA | apply zN | apply zD)⟩
   ·have m7b : (p == 0) = false := by simpa using m7
    have m7n : (p != 0) = true := by simpa using m7
    have HF := zM (show inodeOkV l x1 x2 x3 x4 p q s ds = false from by unfold inodeOkV; simp [r1, r2, r3, k2, m7])
    clear HNk HT k2 m7
    go_enter Tryz.func34, Tryz.ntmps34
    go_wp2_with (first | (go_at_call 33; refine (within_any _ _ _ _).mono ?_; rintro e w1 ⟨rfl, ⟨n, rfl⟩⟩))
    go_ret
    exact ⟨by rw [HF.out]; first | rfl | simp, by repeat (first | exact Below.refl _ _ | apply zA | apply zN | apply zD)⟩
end
end Go.Proofs.YtiopcpkfjikfdaaGreatDoor.PFnClean
