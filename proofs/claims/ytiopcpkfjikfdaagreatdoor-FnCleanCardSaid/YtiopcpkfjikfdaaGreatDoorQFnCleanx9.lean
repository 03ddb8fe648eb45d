import Derived.Test.YtiopcpkfjikfdaaGreatDoorQFnCleanx0
set_option maxHeartbeats 8000000
set_option maxRecDepth 100000
namespace Go.Proofs.YtiopcpkfjikfdaaGreatDoor.PFnClean
open Go.RowKit Go.Proofs.YtiopcpkfjikfdaaGreatDoorW.PrintWords Go.Proofs.YtiopcpkfjikfdaaGreatDoorW.PrintLast Go.Proofs.YtiopcpkfjikfdaaGreatDoorW.PrintMore
attribute [local go_sem] max2_int min2_int max_two min_two max_three min_three max_four min_four   -- for this text's walks alone
set_option linter.unusedVariables false
set_option linter.unusedSimpArgs false
section
open Go.Proofs.YtiopcpkfjikfdaaGreatDoor.Mth Go.Proofs.YtiopcpkfjikfdaaGreatDoor.Str
/-- what the law's own bound says of a volume -/
def volSmall (l : List S37) : Prop := l.length ≤ 1048576 ∧ (∀ x ∈ l, x.f6.length ≤ 1048576) ∧ (∀ x ∈ l, x.f5.size ≤ 1048576) ∧ (∀ x ∈ l, ∀ d ∈ x.f6, d.f0.size ≤ 1048576)
/-- a volume behind a pointer -/
structure VolAt (W : World) (g : Nat) (nx : Int) (A : Option Addr) (c : Nat) (l : List S37) : Prop where
 blk : W.heap[g]? = some (.cells #[.int .i64 nx, .slice A l.length c] 26 (0, 0))
 row : Kd.C k37 W A l.length l
 cap : l.length ≤ c
 small : volSmall l
theorem VolAt.below {W W1 : World} {g : Nat} {nx : Int} {A : Option Addr} {c : Nat} {l : List S37} (h : VolAt W g nx A c l) (hb : Below W.heap.size W W1) : VolAt W1 g nx A c l :=
 ⟨(hb.block g (blk_lt h.blk)).trans h.blk, Kd.C_below h.row hb, h.cap, h.small⟩
theorem VolAt.len {W : World} {g : Nat} {nx : Int} {A : Option Addr} {c : Nat} {l : List S37} (h : VolAt W g nx A c l) : l.length ≤ 9223372036854775807 := h.row.2.1
theorem VolAt.c0 {W : World} {g : Nat} {nx : Int} {A : Option Addr} {c : Nat} {l : List S37} (h : VolAt W g nx A c l) : W.cell? ⟨g, 0, none⟩ = some (.int .i64 nx) := (zC h.blk 0).trans rfl
theorem VolAt.c1 {W : World} {g : Nat} {nx : Int} {A : Option Addr} {c : Nat} {l : List S37} (h : VolAt W g nx A c l) : W.cell? ⟨g, 1, none⟩ = some (.slice A l.length c) := (zC h.blk 1).trans rfl
/-- the place of an inode; the list's length where there is none -/
def inoI (l : List S37) (id : Int) : Nat := l.findIdx fun x => x.f0 == id
def inoP (A : Option Addr) (l : List S37) (id : Int) : Value := if inoI l id < l.length then .pointer (A.map fun ad => ad.add (inoI l id * 9)) else .pointer none
theorem rd45 (l : List S37) (i : Nat) (h : i < l.length) : rd_T37 l (i : Int) = l[i] := by
 unfold rd_T37
 rw [Int.toNat_natCast, List.getD_eq_getElem?_getD, List.getElem?_eq_getElem h]; rfl
theorem inoI_yes (l : List S37) (id : Int) (i : Nat) (h : i < l.length) (h1 : l[i].f0 = id) (h0 : ∀ j (hj : j < i), (l[j]'(by omega)).f0 ≠ id) : inoI l id = i := by
 unfold inoI
 rw [List.findIdx_eq h]
 exact ⟨by simpa using h1, fun j hj => by simpa using h0 j hj⟩
theorem inoI_no (l : List S37) (id : Int) (h0 : ∀ j (hj : j < l.length), (l[j]'(by omega)).f0 ≠ id) : inoI l id = l.length := by
 unfold inoI
 rw [List.findIdx_eq_length]
 intro x hx
 obtain ⟨j, hj, rfl⟩ := List.getElem_of_mem hx
 simpa using h0 j hj
theorem inode_any (W : World) (g : Nat) (nx : Int) (A : Option Addr) (c : Nat) (l : List S37) (id : Int) (h : VolAt W g nx A c l) :
  Calls Tryz.prog 44 #[.pointer (some ⟨g, 0, none⟩), .int .i64 id] W fun e w' => e = .returned (inoP A l id) ∧ Drawn0 W w' := by
 have hu29 := Tryz.underlying26
 have hm := h.len
 have hc0 := h.c0
 have hc1 := h.c1
 have HV := zM h
 clear h
 go_enter Tryz.func44, Tryz.ntmps44
 go_wp2
 go_loopg [11] l.length (fun kq v11 w' => ∃ (x : Nat), v11 = .int .i64 (x : Int) ∧ Aside0 (x + kq = l.length ∧ ∀ j (hj : j < l.length), j < x → l[j].f0 ≠ id) ∧ Drawn0 W w')
 case atStart => exact ⟨0, rfl, ⟨by omega, fun j _ hj => absurd hj (by omega)⟩, Drawn0.refl _⟩
 case round =>
  obtain ⟨x, rfl, HX, ⟨m1, rfl⟩⟩ := hrel
  have hl : gk ≤ l.length ∧ x ≤ l.length := by have := HX.out.1; omega
  by_cases hlt : x < l.length
  ·cases gk with
   | zero => have := HX.out.1; omega
   | succ k1 =>
   obtain ⟨ad, A6, c6, eA, hx0, _⟩ := at_T37 HV.out.row (x : Int) (by omega) (by omega)
   rw [Int.toNat_natCast] at hx0
   rw [rd45 l x hlt] at hx0
   subst eA
   by_cases hid : l[x].f0 = id
   ·have hb : (l[x].f0 == id) = true := by simpa using hid
    have hI := zM (inoI_yes l id x hlt hid (fun j hj => HX.out.2 j (by omega) hj))
    clear hid hl
    go_wp2
    go_ret
    exact ⟨by unfold inoP; rw [hI.out, if_pos hlt]; rfl, by repeat (first | exact Drawn0.refl _ | apply Drawn0.step)⟩
   ·have hb : (l[x].f0 == id) = false := by simpa using hid
    have HN := zM hid
    clear hid hl
    go_wp2
    go_roundg k1
    case measure => omega
    case rel => exact ⟨x + 1, by go_num, ⟨by have := HX.out.1; omega, fun j hj hjx => by
     by_cases e : j = x
     ·subst e; exact HN.out
     ·exact HX.out.2 j hj (by omega)⟩, by repeat (first | exact Drawn0.refl _ | apply Drawn0.step)⟩
  ·have hI := zM (inoI_no l id (fun j hj => HX.out.2 j hj (by omega)))
   have hlt' : ¬ (x : Int) < (l.length : Int) := by omega
   clear hl
   go_wp2
   go_ret
   exact ⟨by unfold inoP; rw [hI.out, if_neg (by omega)]; rfl, by repeat (first | exact Drawn0.refl _ | apply Drawn0.step)⟩
end
section
open Go.Proofs.YtiopcpkfjikfdaaGreatDoor.Mth Go.Proofs.YtiopcpkfjikfdaaGreatDoor.Str
def cntD (id : Int) (ds : List S59) : Nat := (ds.filter fun d => d.f1 == id).length
def namedN (l : List S37) (id : Int) : Nat := (l.map fun x => cntD id x.f6).sum
/-- an inode's cells, in a later world -/
theorem ino_at {w wr : World} {g : Nat} {nx : Int} {A : Option Addr} {c : Nat} {l : List S37} (h : VolAt w g nx A c l) (hb : Below w.heap.size w wr) (x : Nat) (hx : x < l.length) : ∃ ad A6 c6, A = some ad ∧
  wr.cell? (ad.add (x * 9)) = some (.int .i64 l[x].f0) ∧ wr.cell? ⟨(ad.add (x * 9)).block, (ad.add (x * 9)).off + 1, none⟩ = some (.int .i64 l[x].f1) ∧ wr.cell? ⟨(ad.add (x * 9)).block, (ad.add (x * 9)).off + 2, none⟩ = some (.int .i64 l[x].f2) ∧
  wr.cell? ⟨(ad.add (x * 9)).block, (ad.add (x * 9)).off + 3, none⟩ = some (.int .i64 l[x].f3) ∧ wr.cell? ⟨(ad.add (x * 9)).block, (ad.add (x * 9)).off + 4, none⟩ = some (.int .i64 l[x].f4) ∧ wr.cell? ⟨(ad.add (x * 9)).block, (ad.add (x * 9)).off + 5, none⟩ = some (.string l[x].f5) ∧
  wr.cell? ⟨(ad.add (x * 9)).block, (ad.add (x * 9)).off + 6, none⟩ = some (.slice A6 l[x].f6.length c6) ∧ wr.cell? ⟨(ad.add (x * 9)).block, (ad.add (x * 9)).off + 7, none⟩ = some (.int .i64 l[x].f7) ∧ wr.cell? ⟨(ad.add (x * 9)).block, (ad.add (x * 9)).off + 8, none⟩ = some (.int .i64 l[x].f8) ∧
  l[x].f6.length ≤ c6 ∧ Kd.C k59 w A6 l[x].f6.length l[x].f6 := by
 obtain ⟨ad, A6, c6, eA, hx0, hx1, hx2, hx3, hx4, hx5, hx6, hx7, hx8, hl6, hi6⟩ := at_T37 h.row (x : Int) (by omega) (by omega)
 rw [Int.toNat_natCast, rd45 l x hx] at hx0 hx1 hx2 hx3 hx4 hx5 hx6 hx7 hx8
 rw [rd45 l x hx] at hl6 hi6
 exact ⟨ad, A6, c6, eA, pw_cell_below hb hx0, pw_cell_below hb hx1, pw_cell_below hb hx2, pw_cell_below hb hx3, pw_cell_below hb hx4, pw_cell_below hb hx5, pw_cell_below hb hx6, pw_cell_below hb hx7, pw_cell_below hb hx8, hl6, hi6⟩
theorem rd68 (l : List S59) (i : Nat) (h : i < l.length) : rd_T59 l (i : Int) = l[i] := by
 unfold rd_T59
 rw [Int.toNat_natCast, List.getD_eq_getElem?_getD, List.getElem?_eq_getElem h]; rfl
/-- an entry's cells, in a later world -/
theorem dir_at {w wr : World} {A : Option Addr} {l : List S59} (h : Kd.C k59 w A l.length l) (hb : Below w.heap.size w wr) (x : Nat) (hx : x < l.length) : ∃ ad, A = some ad ∧
  wr.cell? (ad.add (x * 2)) = some (.string l[x].f0) ∧ wr.cell? ⟨(ad.add (x * 2)).block, (ad.add (x * 2)).off + 1, none⟩ = some (.int .i64 l[x].f1) := by
 obtain ⟨ad, eA, hx0, hx1⟩ := at_T59 h (x : Int) (by omega) (by omega)
 rw [Int.toNat_natCast, rd68 l x hx] at hx0 hx1
 exact ⟨ad, eA, pw_cell_below hb hx0, pw_cell_below hb hx1⟩
theorem cntD_snoc (id : Int) (ds : List S59) (y : Nat) (h : y < ds.length) : cntD id (ds.take (y + 1)) = cntD id (ds.take y) + if ds[y].f1 = id then 1 else 0 := by
 unfold cntD
 rw [List.take_succ_eq_append_getElem h, List.filter_append, List.length_append]
 by_cases e : ds[y].f1 = id <;> simp [e]
theorem namedN_snoc (l : List S37) (id : Int) (x : Nat) (h : x < l.length) : namedN (l.take (x + 1)) id = namedN (l.take x) id + cntD id l[x].f6 := by
 unfold namedN
 rw [List.take_succ_eq_append_getElem h, List.map_append, List.sum_append]
 simp
theorem cntD_le (id : Int) (ds : List S59) : cntD id ds ≤ ds.length := List.length_filter_le _ _
theorem namedN_le (id : Int) : ∀ (l : List S37), (∀ x ∈ l, x.f6.length ≤ 1048576) → namedN l id ≤ l.length * 1048576
 | [], _ => Nat.le_refl _
 | x :: l, h => by
  have h1 := cntD_le id x.f6
  have h2 := h x (by simp)
  have h3 := namedN_le id l (fun y hy => h y (by simp [hy]))
  unfold namedN at h3 ⊢
  rw [List.map_cons, List.sum_cons, List.length_cons]
  omega
theorem named_any (w : World) (g : Nat) (nx : Int) (A : Option Addr) (c : Nat) (l : List S37) (id : Int) (h : VolAt w g nx A c l) :
  Calls Tryz.prog 37 #[.pointer (some ⟨g, 0, none⟩), .int .i64 id] w fun e w' => e = .returned (.int .i64 (namedN l id : Int)) ∧ Below w.heap.size w w' := by
 have hu29 := Tryz.underlying26
 have hu45 := Tryz.underlying37
 have hu68 := Tryz.underlying59
 have hm := h.len
 have hc0 := h.c0
 have hc1 := h.c1
 have HV := zM h
 have HB := zM (Below.refl w.heap.size w)
 clear h
 go_enter Tryz.func37, Tryz.ntmps37
 go_wp2
 go_loopg [5, 15] l.length (fun kq v5 v15 w' => ∃ (x : Nat) (n : Nat), v5 = .int .i64 (n : Int) ∧ v15 = .int .i64 (x : Int) ∧ Aside0 (x + kq = l.length ∧ n = namedN (l.take x) id) ∧ Aside0 (Below w.heap.size w w'))
 case atStart => exact ⟨0, 0, rfl, rfl, ⟨by omega, rfl⟩, HB⟩
 case round =>
  clear hc0 hc1 HB
  obtain ⟨x, n, rfl, rfl, HX, HB⟩ := hrel
  have hl : gk ≤ l.length ∧ x ≤ l.length := by have := HX.out.1; omega
  by_cases hlt : x < l.length
  ·cases gk with
   | zero => have := HX.out.1; omega
   | succ k1 =>
   obtain ⟨ad, A6, c6, eA, hx0, hx1, hx2, hx3, hx4, hx5, hx6, hx7, hx8, hl6, hi6⟩ := ino_at HV.out HB.out x hlt
   have HR6 := zM hi6
   have hm6 := hi6.2.1
   subst eA
   clear hl hl6 hi6
   go_wp2
   go_loopg [5, 22] l[x].f6.length (fun kq v5 v22 w' => ∃ (y : Nat) (n2 : Nat), v5 = .int .i64 (n2 : Int) ∧ v22 = .int .i64 (y : Int) ∧ Aside0 (y + kq = l[x].f6.length ∧ n2 = n + cntD id (l[x].f6.take y)) ∧ Aside0 (Below w.heap.size w w'))
   case atStart => exact ⟨0, n, rfl, rfl, ⟨by omega, rfl⟩, ⟨zA HB.out _⟩⟩
   case round =>
    clear HB hx0 hx1 hx2 hx3 hx4 hx5 hx6 hx7 hx8
    obtain ⟨y, n2, rfl, rfl, HY, HB⟩ := hrel
    have hl : y ≤ l[x].f6.length := by have := HY.out.1; omega
    by_cases hyt : y < l[x].f6.length
    ·cases gk with
     | zero => have := HY.out.1; omega
     | succ k2 =>
     obtain ⟨ad6, eA, hy0, hy1⟩ := dir_at HR6.out HB.out y hyt
     subst eA
     clear hl
     have hn2 : n2 ≤ 2000000000000 := by
      have h1 := HX.out.2
      have h2 := HY.out.2
      have h3 := namedN_le id (l.take x) (fun z hz => HV.out.small.2.1 z (List.mem_of_mem_take hz))
      have h4 := cntD_le id (l[x].f6.take y)
      have h5 := HV.out.small.1
      have h6 := HV.out.small.2.1 _ (List.getElem_mem hlt)
      rw [List.length_take] at h3 h4
      omega
     by_cases hid : l[x].f6[y].f1 = id
     ·have hb : (l[x].f6[y].f1 == id) = true := by simpa using hid
      have HN := zM hid
      clear hid
      go_wp2
      go_roundg k2
      case measure => omega
      case rel => exact ⟨y + 1, n2 + 1, by go_num, by go_num, ⟨by have := HY.out.1; omega, by rw [cntD_snoc id _ y hyt, if_pos HN.out]; have := HY.out.2; omega⟩, ⟨by repeat (first | exact HB.out | apply zA | apply zN | apply zD)⟩⟩
     ·have hb : (l[x].f6[y].f1 == id) = false := by simpa using hid
      have HN := zM hid
      clear hid
      go_wp2
      go_roundg k2
      case measure => omega
      case rel => exact ⟨y + 1, n2, rfl, by go_num, ⟨by have := HY.out.1; omega, by rw [cntD_snoc id _ y hyt, if_neg HN.out]; have := HY.out.2; omega⟩, ⟨by repeat (first | exact HB.out | apply zA | apply zN | apply zD)⟩⟩
    ·clear hl
     go_wp2
     go_roundg k1
     case measure => omega
     case rel => exact ⟨x + 1, n2, rfl, by go_num, ⟨by have := HX.out.1; omega, by
      have hy : y = l[x].f6.length := by have := HY.out.1; omega
      have h2 := HY.out.2
      rw [hy, List.take_length] at h2
      rw [namedN_snoc l id x hlt]; have := HX.out.2; omega⟩, HB⟩
  ·have HN := zM (show n = namedN l id by have h1 := HX.out; have e : x = l.length := (by omega); rw [e, List.take_length] at h1; exact h1.2)
   clear hl
   go_wp2
   go_ret
   exact ⟨by rw [HN.out]; rfl, HB.out⟩
end
section
open Go.Proofs.YtiopcpkfjikfdaaGreatDoor.Mth Go.Proofs.YtiopcpkfjikfdaaGreatDoor.Str
def hasD (id : Int) (ds : List S59) : Bool := ds.any fun d => d.f1 == id
def parentI (l : List S37) (id : Int) : Int := match l.find? (fun x => hasD id x.f6) with
 | some x => x.f0
 | none => 1
theorem parentI_at (l : List S37) (id : Int) (x : Nat) (h : x < l.length) (h0 : ∀ j (hj : j < x), hasD id (l[j]'(by omega)).f6 = false) (h1 : hasD id l[x].f6 = true) : parentI l id = l[x].f0 := by
 unfold parentI
 rw [List.find?_eq_some_iff_getElem (p := fun x => hasD id x.f6) |>.2 ⟨h1, x, h, rfl, fun j hj => by simp [h0 j hj]⟩]
theorem parentI_no (l : List S37) (id : Int) (h0 : ∀ j (hj : j < l.length), hasD id (l[j]'(by omega)).f6 = false) : parentI l id = 1 := by
 unfold parentI
 rw [List.find?_eq_none.2]
 intro x hx
 obtain ⟨j, hj, rfl⟩ := List.getElem_of_mem hx
 simp [h0 j hj]
theorem hasD_yes (id : Int) (ds : List S59) (y : Nat) (h : y < ds.length) (h1 : ds[y].f1 = id) : hasD id ds = true := by
 unfold hasD
 rw [List.any_eq_true]
 exact ⟨ds[y], List.getElem_mem h, by simpa using h1⟩
theorem hasD_no (id : Int) (ds : List S59) (h0 : ∀ j (hj : j < ds.length), ds[j].f1 ≠ id) : hasD id ds = false := by
 unfold hasD
 rw [List.any_eq_false]
 intro d hd
 obtain ⟨j, hj, rfl⟩ := List.getElem_of_mem hd
 simpa using h0 j hj
theorem parent_any (w : World) (g : Nat) (nx : Int) (A : Option Addr) (c : Nat) (l : List S37) (id : Int) (h : VolAt w g nx A c l) :
  Calls Tryz.prog 46 #[.pointer (some ⟨g, 0, none⟩), .int .i64 id] w fun e w' => e = .returned (.int .i64 (parentI l id)) ∧ Below w.heap.size w w' := by
 have hu29 := Tryz.underlying26
 have hu45 := Tryz.underlying37
 have hu68 := Tryz.underlying59
 have hm := h.len
 have hc0 := h.c0
 have hc1 := h.c1
 have HV := zM h
 have HB := zM (Below.refl w.heap.size w)
 clear h
 go_enter Tryz.func46, Tryz.ntmps46
 go_wp2
 go_loopg [14] l.length (fun kq v14 w' => ∃ (x : Nat), v14 = .int .i64 (x : Int) ∧ Aside0 (x + kq = l.length ∧ ∀ j (hj : j < l.length), j < x → hasD id l[j].f6 = false) ∧ Aside0 (Below w.heap.size w w'))
 case atStart => exact ⟨0, rfl, ⟨by omega, fun j _ hj => absurd hj (by omega)⟩, HB⟩
 case round =>
  clear hc0 hc1 HB
  obtain ⟨x, rfl, HX, HB⟩ := hrel
  have hl : gk ≤ l.length ∧ x ≤ l.length := by have := HX.out.1; omega
  by_cases hlt : x < l.length
  ·cases gk with
   | zero => have := HX.out.1; omega
   | succ k1 =>
   obtain ⟨ad, A6, c6, eA, hx0, hx1, hx2, hx3, hx4, hx5, hx6, hx7, hx8, hl6, hi6⟩ := ino_at HV.out HB.out x hlt
   have HR6 := zM hi6
   have hm6 := hi6.2.1
   subst eA
   clear hl hl6 hi6
   go_wp2
   generalize hq : wr.alloc (.cells #[.int .i64 l[x].f0, .int .i64 l[x].f1, .int .i64 l[x].f2, .int .i64 l[x].f3, .int .i64 l[x].f4, .string l[x].f5, .slice A6 l[x].f6.length c6, .int .i64 l[x].f7, .int .i64 l[x].f8] 37) = wi
   have HBi := zM (show Below w.heap.size w wi from by rw [← hq]; exact zA HB.out _)
   have HK := zM (show wi.cell? ⟨wr.heap.size, 0, none⟩ = some (.int .i64 l[x].f0) from by rw [← hq]; exact (zC (heap_alloc_new wr _) 0).trans rfl)
   have HL := zM (show wr.heap.size < wi.heap.size from by rw [← hq]; simp)
   generalize wr.heap.size = gx at HK HL ⊢
   clear hq HB hx0 hx1 hx2 hx3 hx4 hx5 hx6 hx7 hx8
   go_loopg [21] l[x].f6.length (fun kq v21 w' => ∃ (y : Nat), v21 = .int .i64 (y : Int) ∧ Aside0 (y + kq = l[x].f6.length ∧ ∀ j (hj : j < l[x].f6.length), j < y → l[x].f6[j].f1 ≠ id) ∧ Aside0 (Below w.heap.size w w') ∧ Aside0 (Below wi.heap.size wi w'))
   case atStart => exact ⟨0, rfl, ⟨by omega, fun j _ hj => absurd hj (by omega)⟩, HBi, ⟨Below.refl _ _⟩⟩
   case round =>
    obtain ⟨y, rfl, HY, HB, HBy⟩ := hrel
    have hl : y ≤ l[x].f6.length := by have := HY.out.1; omega
    by_cases hyt : y < l[x].f6.length
    ·cases gk with
     | zero => have := HY.out.1; omega
     | succ k2 =>
     obtain ⟨ad6, eA, hy0, hy1⟩ := dir_at HR6.out HB.out y hyt
     subst eA
     clear hl
     have hgx := (HBy.out.cell (p := ⟨gx, 0, none⟩) HL.out).trans HK.out
     have hgl : gx < wr.heap.size := Nat.lt_of_lt_of_le HL.out HBy.out.size
     by_cases hid : l[x].f6[y].f1 = id
     ·have hb : (l[x].f6[y].f1 == id) = true := by simpa using hid
      have HN := zM (parentI_at l id x hlt (fun j hj => HX.out.2 j (by omega) hj) (hasD_yes id _ y hyt hid))
      clear hid
      go_wp2
      go_ret
      exact ⟨by rw [HN.out]; rfl, by repeat (first | exact HB.out | apply zA | apply zN | apply zD)⟩
     ·have hb : (l[x].f6[y].f1 == id) = false := by simpa using hid
      have HN := zM hid
      clear hid
      go_wp2
      go_roundg k2
      case measure => omega
      case rel => exact ⟨y + 1, by go_num, ⟨by have := HY.out.1; omega, fun j hj hjy => by
       by_cases e : j = y
       ·subst e; exact HN.out
       ·exact HY.out.2 j hj (by omega)⟩, ⟨by repeat (first | exact HB.out | apply zA | apply zN | apply zD)⟩, ⟨by repeat (first | exact HBy.out | apply zA | apply zN | apply zD)⟩⟩
    ·clear hl
     go_wp2
     go_roundg k1
     case measure => omega
     case rel => exact ⟨x + 1, by go_num, ⟨by have := HX.out.1; omega, fun j hj hjx => by
      by_cases e : j = x
      ·subst e; exact hasD_no id _ (fun q hq => HY.out.2 q hq (by have := HY.out.1; omega))
      ·exact HX.out.2 j hj (by omega)⟩, HB⟩
  ·have HN := zM (parentI_no l id (fun j hj => HX.out.2 j hj (by omega)))
   clear hl
   go_wp2
   go_ret
   exact ⟨by rw [HN.out]; rfl, HB.out⟩
def isDirB (l : List S37) (id : Int) : Bool := match l[inoI l id]? with
 | some x => x.f1 == 2
 | none => false
theorem inoP_yes (ad : Addr) (l : List S37) (id : Int) (h : inoI l id < l.length) : inoP (some ad) l id = .pointer (some (ad.add (inoI l id * 9))) := by unfold inoP; rw [if_pos h]; rfl
theorem inoP_no (A : Option Addr) (l : List S37) (id : Int) (h : ¬ inoI l id < l.length) : inoP A l id = .pointer none := by unfold inoP; rw [if_neg h]
end
section
open Go.Proofs.YtiopcpkfjikfdaaGreatDoor.Mth Go.Proofs.YtiopcpkfjikfdaaGreatDoor.Str
def idxI (x : Int) (l : List Int) : Int := if l.contains x then ((l.findIdx fun y => y == x : Nat) : Int) else -1
theorem idxI_yes (x : Int) (l : List Int) (i : Nat) (h : i < l.length) (h1 : l[i] = x) (h0 : ∀ j (hj : j < i), l[j]'(by omega) ≠ x) : idxI x l = i := by
 unfold idxI
 rw [if_pos (by rw [List.contains_iff_mem]; exact h1 ▸ List.getElem_mem h), (List.findIdx_eq h).2 ⟨by simpa using h1, fun j hj => by simpa using h0 j hj⟩]
theorem idxI_no (x : Int) (l : List Int) (h0 : ∀ j (hj : j < l.length), l[j] ≠ x) : idxI x l = -1 := by
 unfold idxI
 rw [if_neg]
 rw [List.contains_iff_mem]
 intro hx
 obtain ⟨j, hj, e⟩ := List.getElem_of_mem hx
 exact h0 j hj e
theorem rdI (l : List Int) (i : Nat) (h : i < l.length) : l.getD i 0 = l[i] := by
 rw [List.getD_eq_getElem?_getD, List.getElem?_eq_getElem h]; rfl
theorem index_any (W : World) (A : Option Addr) (c : Nat) (l : List Int) (v : Int) (h : ReadsInt W .i64 A l.length l) :
  Calls Tryz.prog 69 #[.slice A l.length c, .int .i64 v] W fun e w' => e = .returned (.int .i64 (idxI v l)) ∧ Drawn0 W w' := by
 have hm := h.2.1
 have HV := zM h
 clear h
 go_enter Tryz.func69, Tryz.ntmps69
 go_wp2
 go_loopg [8] l.length (fun kq v8 w' => ∃ (x : Nat), v8 = .int .i64 (x : Int) ∧ Aside0 (x + kq = l.length ∧ ∀ j (hj : j < l.length), j < x → l[j] ≠ v) ∧ Drawn0 W w')
 case atStart => exact ⟨0, rfl, ⟨by omega, fun j _ hj => absurd hj (by omega)⟩, Drawn0.refl _⟩
 case round =>
  obtain ⟨x, rfl, HX, ⟨m1, rfl⟩⟩ := hrel
  have hl : gk ≤ l.length ∧ x ≤ l.length := by have := HX.out.1; omega
  by_cases hlt : x < l.length
  ·cases gk with
   | zero => have := HX.out.1; omega
   | succ k1 =>
   obtain ⟨ad, eA, hc⟩ := HV.out.2.2 (by omega)
   have hx0 := hc x hlt
   rw [rdI l x hlt] at hx0
   subst eA
   clear hc
   by_cases hid : l[x] = v
   ·have hb : (v == l[x]) = true := by rw [hid]; simp
    have hI := zM (idxI_yes v l x hlt hid (fun j hj => HX.out.2 j (by omega) hj))
    clear hid hl
    go_wp2
    go_ret
    exact ⟨by rw [hI.out]; rfl, by repeat (first | exact Drawn0.refl _ | apply Drawn0.step)⟩
   ·have hb : (v == l[x]) = false := by rw [beq_eq_false_iff_ne]; exact fun e => hid e.symm
    have HN := zM hid
    clear hid hl
    go_wp2
    go_roundg k1
    case measure => omega
    case rel => exact ⟨x + 1, by go_num, ⟨by have := HX.out.1; omega, fun j hj hjx => by
     by_cases e : j = x
     ·subst e; exact HN.out
     ·exact HX.out.2 j hj (by omega)⟩, by repeat (first | exact Drawn0.refl _ | apply Drawn0.step)⟩
  ·have hI := zM (idxI_no v l (fun j hj => HX.out.2 j hj (by omega)))
   have hlt' : ¬ (x : Int) < (l.length : Int) := by omega
   clear hl
   go_wp2
   go_ret
   exact ⟨by rw [hI.out]; rfl, by repeat (first | exact Drawn0.refl _ | apply Drawn0.step)⟩
theorem idxI_ge (x : Int) (l : List Int) : decide (0 ≤ idxI x l) = l.contains x := by
 unfold idxI
 split
 ·rename_i h; rw [h]; simp
 ·rename_i h; rw [Bool.not_eq_true] at h; rw [h]; rfl
theorem contains_any (W : World) (A : Option Addr) (c : Nat) (l : List Int) (v : Int) (h : ReadsInt W .i64 A l.length l) :
  Calls Tryz.prog 36 #[.slice A l.length c, .int .i64 v] W fun e w' => e = .returned (.bool (l.contains v)) ∧ Drawn0 W w' := by
 have HC := zM (index_any W A c l v h)
 have HG := zM (idxI_ge v l)
 have hm := h.2.1
 clear h
 generalize idxI v l = q at HC HG
 go_enter Tryz.func36, Tryz.ntmps36
 go_wp2_with (go_at_call 69; refine HC.out.mono ?_; rintro e w1 ⟨rfl, ⟨n, rfl⟩⟩)
 go_ret
 exact ⟨by rw [← HG.out]; first | rfl | simp, by repeat (first | exact Drawn0.refl _ | apply Drawn0.step)⟩
end
section
open Go.Proofs.YtiopcpkfjikfdaaGreatDoor.Mth Go.Proofs.YtiopcpkfjikfdaaGreatDoor.Str
/-- a row of whole numbers of the call's own is handed back -/
def OwnInts (w : World) (xs : List Int) (e : Ending) (w' : World) : Prop := ∃ v, e = .returned v ∧ w'.ownsRow w.heap.size 3 1 v xs.length (nums .i64 xs) ∧ Below w.heap.size w w'
def addD (out : List Int) (d : S59) : List Int := if out.contains d.f1 then out else out ++ [d.f1]
def addAll (out : List Int) (ds : List S59) : List Int := ds.foldl addD out
def bfs (l : List S37) (id : Int) : Nat → Nat → List Int → List Int
 | 0, _, out => out
 | k + 1, i, out => if i < (id :: out).length then bfs l id k (i + 1) (match l[inoI l ((id :: out).getD i 0)]? with
  | some x => addAll out x.f6
  | none => out) else out
def allIds (l : List S37) : List Int := l.flatMap fun x => x.f6.map fun d => d.f1
def belowL (l : List S37) (id : Int) : List Int := bfs l id ((allIds l).length + 2) 0 []
theorem infoI3 : (Tryz.prog.info? 3).map (fun i => (i.zero, i.size, i.bytes)) = some (some (.int .i64 0), 1, 8) := by kernel_rfl
theorem nodup_len : ∀ (a b : List Int), a.Nodup → (∀ x ∈ a, x ∈ b) → a.length ≤ b.length
 | [], _, _, _ => Nat.zero_le _
 | x :: a, b, hn, hs => by
  have hx : x ∈ b := hs x (by simp)
  rw [List.nodup_cons] at hn
  have := nodup_len a (b.erase x) hn.2 (fun y hy => (List.mem_erase_of_ne (fun e => hn.1 (by rw [e] at hy; exact hy))).2 (hs y (by simp [hy])))
  rw [List.length_erase_of_mem hx] at this
  have : 0 < b.length := List.length_pos_of_mem hx
  rw [List.length_cons]
  omega
theorem allIds_mem (l : List S37) (x : Nat) (h : x < l.length) (y : Nat) (hy : y < l[x].f6.length) : l[x].f6[y].f1 ∈ allIds l := by
 unfold allIds
 rw [List.mem_flatMap]
 exact ⟨l[x], List.getElem_mem h, List.mem_map_of_mem (List.getElem_mem hy)⟩
theorem allIds_len : ∀ (l : List S37), (∀ x ∈ l, x.f6.length ≤ 1048576) → (allIds l).length ≤ l.length * 1048576
 | [], _ => Nat.le_refl _
 | x :: l, h => by
  have h2 := h x (by simp)
  have h3 := allIds_len l (fun y hy => h y (by simp [hy]))
  unfold allIds at h3 ⊢
  rw [List.flatMap_cons, List.length_append, List.length_map, List.length_cons]
  omega
theorem addAll_snoc (out : List Int) (ds : List S59) (y : Nat) (h : y < ds.length) : addAll out (ds.take (y + 1)) = addD (addAll out (ds.take y)) ds[y] := by
 unfold addAll
 rw [List.take_succ_eq_append_getElem h, List.foldl_append]; rfl
/-- what the loops carry: the ids met so far, each once -/
structure Met (l : List S37) (out : List Int) : Prop where
 nd : out.Nodup
 sub : ∀ x ∈ out, x ∈ allIds l
theorem Met.len {l : List S37} {out : List Int} (h : Met l out) : out.length ≤ (allIds l).length := nodup_len _ _ h.nd h.sub
theorem Met.add {l : List S37} {out : List Int} (h : Met l out) (v : Int) (hv : v ∈ allIds l) (hn : v ∉ out) : Met l (out ++ [v]) :=
 ⟨List.nodup_append.2 ⟨h.nd, by simp, fun a ha b hb e => by rw [List.mem_singleton.1 hb] at e; exact hn (e ▸ ha)⟩, fun x hx => by
  rcases List.mem_append.1 hx with hx | hx
  ·exact h.sub x hx
  ·rw [List.mem_singleton.1 hx]; exact hv⟩
theorem ownReads {w : World} {base : Nat} {v : Value} {xs : List Int} (h : w.ownsRow base 3 1 v xs.length (nums .i64 xs)) : ∃ A c, v = .slice A xs.length c ∧ ReadsInt w .i64 A xs.length xs := own_reads h
theorem box_kept {wr w1 : World} {cs : Array Value} {t : TypeId} {n : Nat} {row : Option Nat} (hg : ((wr.alloc (.cells cs t)).drewN n).grownBy w1 row) (hr : row ≠ some wr.heap.size) : w1.heap[wr.heap.size]? = some (.cells cs t (0, 0)) :=
 (hg.block wr.heap.size (by simp) (fun e => hr e.symm)).trans (zK (heap_alloc_new wr _) n)
theorem ownQ0 (w : World) (id : Int) : ((w.alloc (.cells #[] 3)).alloc (.cells #[.int .i64 id] 3)).ownsRow w.heap.size 3 1 (.slice (some ⟨w.heap.size + 1, 0, none⟩) 1 1) 1 (nums .i64 [id]) := by
 have h := own_lit (w.alloc (.cells #[] 3)) w.heap.size 3 .i64 [id] (by simp) (by simp)
 have e : (w.alloc (.cells #[] 3)).heap.size = w.heap.size + 1 := by simp
 rw [e] at h
 exact h
theorem below_any (w : World) (g : Nat) (nx : Int) (A : Option Addr) (c : Nat) (l : List S37) (id : Int) (h : VolAt w g nx A c l) :
  Calls Tryz.prog 35 #[.pointer (some ⟨g, 0, none⟩), .int .i64 id] w fun e w' => OwnInts w (belowL l id) e w' := by
 have hu29 := Tryz.underlying26
 have hu45 := Tryz.underlying37
 have hu68 := Tryz.underlying59
 have hm := h.len
 have HT := zM (show (allIds l).length ≤ 2000000000000 from by have h1 := allIds_len l h.small.2.1; have h2 := h.small.1; omega)
 have HV := zM h
 have HB := zM (Below.refl w.heap.size w)
 clear h
 go_enter Tryz.func35, Tryz.ntmps35
 go_wp2
 go_loopg [5, 6, 7] ((allIds l).length + 2) (fun kq v5 v6 v7 w' => ∃ (i : Nat) (out : List Int) (qn : Nat), v7 = .int .i64 (i : Int) ∧ Aside0 (qn = out.length + 1 ∧ i + kq = (allIds l).length + 2 ∧ bfs l id kq i out = belowL l id ∧ Met l out) ∧ Aside0 (w'.ownsRow w.heap.size 3 1 v5 out.length (nums .i64 out)) ∧ Aside0 (w'.ownsRow w.heap.size 3 1 v6 qn (nums .i64 (id :: out))) ∧ Aside0 (NeRow v5 v6) ∧ Aside0 (Below w.heap.size w w'))
 case atStart => exact ⟨0, [], 1, rfl, ⟨rfl, by omega, rfl, ⟨by simp, by simp⟩⟩, ⟨pw_own_below (own_lit w w.heap.size 3 .i64 [] (Nat.le_refl _) (by simp)) (zA (Below.refl _ _) _)⟩, ⟨ownQ0 w id⟩, ⟨by intro k hk hk'; simp [Value.ownBlock] at hk hk'; omega⟩, ⟨zA (zA HB.out _) _⟩⟩
 case round =>
  clear HB
  obtain ⟨i, out, qn, rfl, HX, HO5, HO6, HNE, HB⟩ := hrel
  have hlen := HX.out.2.2.2.len
  have hT := HT.out
  have hl : i ≤ 2000000000002 := by have := HX.out.2.1; omega
  have hqn : qn ≤ 2000000000001 := by have := HX.out.1; omega
  obtain ⟨A5, c5, e5, hr5⟩ := ownReads HO5.out
  obtain ⟨A6, c6, e6, hr6⟩ := own_reads HO6.out
  subst e5
  subst e6
  clear hlen hT hr5
  by_cases hlt : i < qn
  ·cases gk with
   | zero => have := HX.out; have := this.2.2.2.len; omega
   | succ k1 =>
   obtain ⟨ad6, eA, hc6⟩ := hr6.2.2 (by omega)
   have hx6 := hc6 i hlt
   subst eA
   obtain ⟨qi, hqi⟩ : ∃ q, q = (id :: out).getD i 0 := ⟨_, rfl⟩
   rw [← hqi] at hx6
   have HIn := zM (inode_any wr g nx A c l qi (HV.out.below HB.out))
   have HBF := zM (show bfs l id k1 (i + 1) (match l[inoI l qi]? with
     | some x => addAll out x.f6
     | none => out) = belowL l id from by
    have h1 := HX.out.2.2.1
    rw [bfs, if_pos (by rw [List.length_cons]; have := HX.out.1; omega), ← hqi] at h1; exact h1)
   clear hc6 hr6 hqi
   by_cases hi : inoI l qi < l.length
   ·obtain ⟨ad, AN, cN, eA, hx0, _, _, _, _, _, hxN, _, _, hlN, hiN⟩ := ino_at HV.out HB.out _ hi
    subst eA
    have HR := zM (inoP_yes ad l _ hi)
    obtain ⟨ds, hds⟩ : ∃ q, q = l[inoI l qi].f6 := ⟨_, rfl⟩
    have HS := zM (show ∀ y (hy : y < ds.length), ds[y].f1 ∈ allIds l from by subst hds; exact fun y hy => allIds_mem l _ hi y hy)
    have HN := zM (show bfs l id k1 (i + 1) (addAll out ds) = belowL l id from by
     have h1 := HBF.out
     rw [List.getElem?_eq_getElem hi] at h1; rw [hds]; exact h1)
    rw [← hds] at hiN hxN hlN
    have HRN := zM hiN
    have hmN := hiN.2.1
    have hmS := HV.out.small.2.1 _ (List.getElem_mem hi)
    rw [← hds] at hmS
    clear hx0 hlN hiN hds HBF
    go_wp2_with (go_at_call 44; refine HIn.out.mono ?_; rintro e w1 ⟨rfl, ⟨n, rfl⟩⟩; rw [HR.out])
    go_loopg [5, 6, 33] ds.length (fun kq v5 v6 v33 w' => ∃ (y : Nat) (out2 : List Int) (qn2 : Nat), v33 = .int .i64 (y : Int) ∧ Aside0 (qn2 = out2.length + 1 ∧ y + kq = ds.length ∧ out2 = addAll out (ds.take y) ∧ Met l out2) ∧ Aside0 (w'.ownsRow w.heap.size 3 1 v5 out2.length (nums .i64 out2)) ∧ Aside0 (w'.ownsRow w.heap.size 3 1 v6 qn2 (nums .i64 (id :: out2))) ∧ Aside0 (NeRow v5 v6) ∧ Aside0 (Below w.heap.size w w'))
    case atStart => exact ⟨0, out, qn, rfl, ⟨HX.out.1, by omega, rfl, HX.out.2.2.2⟩, ⟨pw_own_below HO5.out (by repeat (first | exact Below.refl _ _ | apply zA | apply zN | apply zD))⟩, ⟨pw_own_below HO6.out (by repeat (first | exact Below.refl _ _ | apply zA | apply zN | apply zD))⟩, HNE, ⟨by repeat (first | exact HB.out | apply zA | apply zN | apply zD)⟩⟩
    case round =>
     clear HB HO5 HO6 HNE hx6 hxN HIn HR
     obtain ⟨y, out2, qn2, rfl, HY, HO5, HO6, HNE, HB⟩ := hrel
     have hy2 : y ≤ ds.length := by have := HY.out.2.1; omega
     have hqn2 : qn2 ≤ 2000000000001 := by have h1 := HY.out.1; have h2 := HY.out.2.2.2.len; have h3 := HT.out; omega
     by_cases hyt : y < ds.length
     ·cases gk with
      | zero => have := HY.out.2.1; omega
      | succ k2 =>
      obtain ⟨adN, eA, hy0, hy1⟩ := dir_at HRN.out HB.out y hyt
      subst eA
      clear hy2
      obtain ⟨v, hv⟩ : ∃ q, q = ds[y].f1 := ⟨_, rfl⟩
      obtain ⟨sn, hsn⟩ : ∃ q, q = ds[y].f0 := ⟨_, rfl⟩
      rw [← hv] at hy1
      rw [← hsn] at hy0
      have HSv := zM (show v ∈ allIds l from by rw [hv]; exact HS.out y hyt)
      have HAd := zM (show addAll out (ds.take (y + 1)) = if out2.contains v then out2 else out2 ++ [v] from by
       rw [addAll_snoc out ds y hyt, ← HY.out.2.2.1, hv]; rfl)
      clear hv hsn
      obtain ⟨B5, d5, e5, hr5⟩ := ownReads HO5.out
      subst e5
      have HCt := zM (fun W (hW : Below wr.heap.size wr W) => contains_any W B5 d5 out2 v (ReadsInt.below hr5 hW))
      clear hr5
      cases hct : out2.contains v with
      | true =>
       rw [hct] at HAd HCt
       clear hct
       go_wp2_with (go_at_call 36; refine (HCt.out _ (by repeat (first | exact Below.refl _ _ | apply zA | apply zN | apply zD))).mono ?_; rintro e w1 ⟨rfl, ⟨n, rfl⟩⟩)
       go_roundg k2
       case measure => omega
       case rel => exact ⟨y + 1, out2, qn2, by go_num, ⟨HY.out.1, by have := HY.out.2.1; omega, by rw [HAd.out]; rfl, HY.out.2.2.2⟩, ⟨pw_own_below HO5.out (by repeat (first | exact Below.refl _ _ | apply zA | apply zN | apply zD))⟩, ⟨pw_own_below HO6.out (by repeat (first | exact Below.refl _ _ | apply zA | apply zN | apply zD))⟩, HNE, ⟨by repeat (first | exact HB.out | apply zA | apply zN | apply zD)⟩⟩
      | false =>
       have HNm := zM (show v ∉ out2 from fun hm => by rw [← List.contains_iff_mem] at hm; rw [hm] at hct; cases hct)
       rw [hct] at HAd HCt
       clear hct
       have HL := zM (own_lt HO5.out)
       have HL6 := zM (own_lt HO6.out)
       have HLn := zM (show out2.length ≤ 2000000000000 from by have h2 := HY.out.2.2.2.len; have h3 := HT.out; omega)
       go_wp2_with (first | (go_at_call 36; refine (HCt.out _ (by repeat (first | exact Below.refl _ _ | apply zA | apply zN | apply zD))).mono ?_; rintro e w1 ⟨rfl, ⟨n, rfl⟩⟩) | ((with_reducible refine gate_builtin (b := .append) (xs := #[.tmp 42, .tmp 45]) rfl ?_); at_builtin; refine print_append_num (w0 := w) w.heap.size rfl (.tmp 42) (.tmp 45) 27 3 .i64 8 rfl Tryz.underlying27 infoI3 (by omega) (.slice B5 out2.length d5) out2 v rfl ?aX ?aO ?aB ?aS ?aL ?_; (case aX => first | (go_simp; done) | (go_simp; rfl)); (case aO => exact pw_own_below HO5.out (by repeat (first | exact Below.refl _ _ | apply zA | apply zN | apply zD))); (case aB => exact (by repeat (first | exact HB.out | apply zA | apply zN | apply zD))); (case aS => exact zZ (by repeat (first | exact HB.out | apply zA | apply zN | apply zD))); (case aL => have := HLn.out; omega); intro v1 w1 ho hb hg hat; have Q1 := zM ho; have Q2 := zM hb; have Q3 := zM (own_other (pw_own_below HO6.out (by repeat (first | exact Below.refl _ _ | apply zA | apply zN | apply zD))) hg (ne_other HNE.out)); have Q4 := zM (ne_append HNE.out hat (pw_own_below HO6.out (by repeat (first | exact Below.refl _ _ | apply zA | apply zN | apply zD)))); have hbx := box_kept hg (fun e => by have := HL.out _ e; omega); have hbx1 := (zC hbx 1).trans rfl; clear ho hb hg hat hbx) | ((with_reducible refine gate_builtin (b := .append) (xs := #[.tmp 47, .tmp 50]) rfl ?_); at_builtin; refine print_append_num (w0 := w) w.heap.size rfl (.tmp 47) (.tmp 50) 27 3 .i64 8 rfl Tryz.underlying27 infoI3 (by omega) _ (id :: out2) v rfl ?aX ?aO ?aB ?aS ?aL ?_; (case aX => first | (go_simp; done) | (go_simp; rfl)); (case aO => have h_ := Q3.out; rw [HY.out.1] at h_; exact h_); (case aB => exact Q2.out); (case aS => exact zZ Q2.out); (case aL => have := HLn.out; rw [List.length_cons]; omega); intro v2 w2 ho hb hg hat; have R1 := zM ho; have R2 := zM hb; have R3 := zM (own_other Q1.out hg (ne_other (ne_symm Q4.out))); have R4 := zM (ne_append' Q4.out hat Q1.out); clear ho hb hg hat))
       go_roundg k2
       case measure => omega
       case rel => exact ⟨y + 1, out2 ++ [v], qn2 + 1, by go_num, ⟨by rw [List.length_append, List.length_singleton]; have := HY.out.1; omega, by have := HY.out.2.1; omega, by rw [HAd.out]; rfl, HY.out.2.2.2.add v HSv.out HNm.out⟩, R3, ⟨by have h_ := R1.out; rw [show (id :: out2 ++ [v]).length = qn2 + 1 from by have := HY.out.1; simp; omega] at h_; exact h_⟩, R4, R2⟩
     ·clear hy2
      go_wp2
      go_roundg k1
      case measure => omega
      case rel => exact ⟨i + 1, out2, qn2, by go_num, ⟨HY.out.1, by have := HX.out.2.1; omega, by
       have hy : y = ds.length := by have := HY.out.2.1; omega
       have h2 := HY.out.2.2.1
       rw [hy, List.take_length] at h2
       rw [h2]; exact HN.out, HY.out.2.2.2⟩, HO5, HO6, HNE, HB⟩
   ·have HR := zM (inoP_no A l qi hi)
    have HN := HBF
    rw [List.getElem?_eq_none (by omega)] at HN
    clear hi HBF
    go_wp2_with (go_at_call 44; refine HIn.out.mono ?_; rintro e w1 ⟨rfl, ⟨n, rfl⟩⟩; rw [HR.out])
    go_roundg k1
    case measure => omega
    case rel => exact ⟨i + 1, out, qn, by go_num, ⟨HX.out.1, by have := HX.out.2.1; omega, HN.out, HX.out.2.2.2⟩, ⟨pw_own_below HO5.out (by repeat (first | exact Below.refl _ _ | apply zA | apply zN | apply zD))⟩, ⟨pw_own_below HO6.out (by repeat (first | exact Below.refl _ _ | apply zA | apply zN | apply zD))⟩, HNE, ⟨by repeat (first | exact HB.out | apply zA | apply zN | apply zD)⟩⟩
  ·have HN := zM (show out = belowL l id from by
    have h1 := HX.out.2.2.1
    cases gk with
    | zero => exact h1
    | succ k1 => rw [bfs, if_neg (by rw [List.length_cons]; have := HX.out.1; omega)] at h1; exact h1)
   clear hr6
   go_wp2
   go_ret
   exact ⟨_, rfl, by rw [← HN.out]; exact HO5.out, HB.out⟩
end
section
open Go.Proofs.YtiopcpkfjikfdaaGreatDoor.Mth Go.Proofs.YtiopcpkfjikfdaaGreatDoor.Str
def sizeAt (l : List S37) (v : Int) : Nat := match l[inoI l v]? with
 | some x => x.f5.size
 | none => 0
def usageN (l : List S37) (ids : List Int) : Nat := (ids.map (sizeAt l)).sum
theorem sizeAt_le (l : List S37) (h : volSmall l) (v : Int) : sizeAt l v ≤ 1048576 := by
 unfold sizeAt
 split
 ·rename_i x hx; exact h.2.2.1 x (List.mem_of_getElem? hx)
 ·omega
theorem usageN_le (l : List S37) (h : volSmall l) : ∀ ids : List Int, usageN l ids ≤ ids.length * 1048576
 | [] => Nat.le_refl _
 | v :: ids => by
  have h1 := sizeAt_le l h v
  have h2 := usageN_le l h ids
  unfold usageN at h2 ⊢
  rw [List.map_cons, List.sum_cons, List.length_cons]
  omega
theorem usageN_snoc (l : List S37) (ids : List Int) (x : Nat) (h : x < ids.length) : usageN l (ids.take (x + 1)) = usageN l (ids.take x) + sizeAt l ids[x] := by
 unfold usageN
 rw [List.take_succ_eq_append_getElem h, List.map_append, List.sum_append]
 simp
theorem addAll_met (l : List S37) : ∀ (ds : List S59) (out : List Int), (∀ d ∈ ds, d.f1 ∈ allIds l) → Met l out → Met l (addAll out ds)
 | [], _, _, h => h
 | d :: ds, out, hs, h => by
  unfold addAll
  rw [List.foldl_cons]
  refine addAll_met l ds _ (fun d hd => hs d (by simp [hd])) ?_
  unfold addD
  split
  ·exact h
  ·rename_i hn
   exact h.add _ (hs d (by simp)) (fun hm => hn (by rw [List.contains_iff_mem]; exact hm))
theorem bfs_met (l : List S37) (id : Int) : ∀ (k i : Nat) (out : List Int), Met l out → Met l (bfs l id k i out)
 | 0, _, _, h => h
 | k + 1, i, out, h => by
  rw [bfs]
  split
  ·apply bfs_met l id k
   split
   ·rename_i x hx
    refine addAll_met l x.f6 out (fun d hd => ?_) h
    unfold allIds
    rw [List.mem_flatMap]
    exact ⟨x, List.mem_of_getElem? hx, List.mem_map_of_mem hd⟩
   ·exact h
  ·exact h
theorem belowL_len (l : List S37) (id : Int) (h : volSmall l) : (belowL l id).length ≤ 2000000000000 := by
 have h1 := (bfs_met l id ((allIds l).length + 2) 0 [] ⟨by simp, by simp⟩).len
 have h2 := allIds_len l h.2.1
 have h3 := h.1
 unfold belowL
 omega
theorem usage_any (w : World) (g : Nat) (nx : Int) (A : Option Addr) (c : Nat) (l : List S37) (id : Int) (h : VolAt w g nx A c l) :
  Calls Tryz.prog 71 #[.pointer (some ⟨g, 0, none⟩), .int .i64 id] w fun e w' => e = .returned (.tuple #[.int .i64 (usageN l (belowL l id) : Int), .int .i64 ((belowL l id).length : Int)]) ∧ Below w.heap.size w w' := by
 have hu29 := Tryz.underlying26
 have hu45 := Tryz.underlying37
 have HC := zM (below_any w g nx A c l id h)
 have HT := zM (belowL_len l id h.small)
 have HV := zM h
 have HI := zM (fun W (hW : Below w.heap.size w W) v => inode_any W g nx A c l v (h.below hW))
 generalize belowL l id = xs at HC HT ⊢
 clear h
 go_enter Tryz.func71, Tryz.ntmps71
 go_wp2_with (go_at_call 35; refine HC.out.mono ?_; rintro e w1 ⟨v, rfl, ho, hb⟩; obtain ⟨A5, c5, rfl, hr⟩ := ownReads ho; have HR := zM hr; have HB := zM hb; have hm := hr.2.1; clear ho hb hr)
 go_loopg [6, 16] xs.length (fun kq v6 v16 w' => ∃ (x n : Nat), v6 = .int .i64 (n : Int) ∧ v16 = .int .i64 (x : Int) ∧ Aside0 (x + kq = xs.length ∧ n = usageN l (xs.take x)) ∧ Aside0 (Below w1.heap.size w1 w') ∧ Aside0 (Below w.heap.size w w'))
 case atStart => exact ⟨0, 0, rfl, rfl, ⟨by omega, rfl⟩, ⟨Below.refl _ _⟩, HB⟩
 case round =>
  clear HB
  obtain ⟨x, n, rfl, rfl, HX, HB1, HB⟩ := hrel
  have hl : gk ≤ xs.length ∧ x ≤ xs.length := by have := HX.out.1; omega
  have hn : n ≤ 2100000000000000000 := by
   have h1 := usageN_le l HV.out.small (xs.take x)
   have h2 := HX.out.2
   have h3 := HT.out
   rw [List.length_take] at h1
   omega
  by_cases hlt : x < xs.length
  ·cases gk with
   | zero => have := HX.out.1; omega
   | succ k1 =>
   obtain ⟨ad5, eA, hc5⟩ := (ReadsInt.below HR.out HB1.out).2.2 (by omega)
   have hx5 := hc5 x hlt
   rw [rdI xs x hlt] at hx5
   subst eA
   obtain ⟨v, hv⟩ : ∃ q, q = xs[x] := ⟨_, rfl⟩
   rw [← hv] at hx5
   have HS := zM (show usageN l (xs.take (x + 1)) = n + sizeAt l v from by rw [usageN_snoc l xs x hlt, ← hv, HX.out.2])
   have HIn := zM (HI.out _ HB.out v)
   clear hc5 hl hv
   by_cases hi : inoI l v < l.length
   ·obtain ⟨ad, AN, cN, eA, -, -, -, -, -, hxD, -, -, -, -, -⟩ := ino_at HV.out HB.out _ hi
    subst eA
    have HR2 := zM (inoP_yes ad l _ hi)
    have HSz := zM (show sizeAt l v = l[inoI l v].f5.size from by unfold sizeAt; rw [List.getElem?_eq_getElem hi])
    have hz := HV.out.small.2.2.1 _ (List.getElem_mem hi)
    obtain ⟨dt, hdt⟩ : ∃ q, q = l[inoI l v].f5 := ⟨_, rfl⟩
    rw [← hdt] at hxD hz
    have HSd := zM (show sizeAt l v = dt.size from by rw [hdt]; exact HSz.out)
    clear hdt HSz hi
    go_wp2_with (go_at_call 44; refine HIn.out.mono ?_; rintro e w1 ⟨rfl, ⟨m, rfl⟩⟩; rw [HR2.out])
    go_roundg k1
    case measure => omega
    case rel => exact ⟨x + 1, n + dt.size, by go_num, by go_num, ⟨by have := HX.out.1; omega, by rw [HS.out, HSd.out]⟩, ⟨by repeat (first | exact HB1.out | apply zA | apply zN | apply zD)⟩, ⟨by repeat (first | exact HB.out | apply zA | apply zN | apply zD)⟩⟩
   ·have HR2 := zM (inoP_no A l v hi)
    have HSz := zM (show sizeAt l v = 0 from by unfold sizeAt; rw [List.getElem?_eq_none (by omega)])
    clear hi
    go_wp2_with (go_at_call 44; refine HIn.out.mono ?_; rintro e w1 ⟨rfl, ⟨m, rfl⟩⟩; rw [HR2.out])
    go_roundg k1
    case measure => omega
    case rel => exact ⟨x + 1, n, rfl, by go_num, ⟨by have := HX.out.1; omega, by rw [HS.out, HSz.out]; rfl⟩, ⟨by repeat (first | exact HB1.out | apply zA | apply zN | apply zD)⟩, ⟨by repeat (first | exact HB.out | apply zA | apply zN | apply zD)⟩⟩
  ·have HN := zM (show n = usageN l xs from by have h1 := HX.out; have e : x = xs.length := (by omega); rw [e, List.take_length] at h1; exact h1.2)
   clear hl
   go_wp2
   go_ret2
   exact ⟨by rw [HN.out]; rfl, HB.out⟩
end
section
open Go.Proofs.YtiopcpkfjikfdaaGreatDoor.Mth Go.Proofs.YtiopcpkfjikfdaaGreatDoor.Str
def overV (p q b m : Int) : Bool := decide (0 < p ∧ p < b ∨ 0 < q ∧ q < m)
def overB (l : List S37) (x : S37) : Bool := overV x.f7 x.f8 ((usageN l (belowL l x.f0) : Nat) : Int) (((belowL l x.f0).length : Nat) : Int)
def inoV (x : S37) (A6 : Option Addr) (c6 : Nat) : Value := .agg #[.int .i64 x.f0, .int .i64 x.f1, .int .i64 x.f2, .int .i64 x.f3, .int .i64 x.f4, .string x.f5, .slice A6 x.f6.length c6, .int .i64 x.f7, .int .i64 x.f8]
theorem isOver_any (w : World) (g : Nat) (nx : Int) (A : Option Addr) (c : Nat) (l : List S37) (h : VolAt w g nx A c l) (x0 x1 x2 x3 x4 p q : Int) (s : ByteArray) (v6 : Value) :
  Calls Tryz.prog 40 #[.pointer (some ⟨g, 0, none⟩), .agg #[.int .i64 x0, .int .i64 x1, .int .i64 x2, .int .i64 x3, .int .i64 x4, .string s, v6, .int .i64 p, .int .i64 q]] w fun e w' =>
   e = .returned (.bool (overV p q ((usageN l (belowL l x0) : Nat) : Int) (((belowL l x0).length : Nat) : Int))) ∧ Below w.heap.size w w' := by
 have hu29 := Tryz.underlying26
 have hu45 := Tryz.underlying37
 have HC := zM (fun W (hW : Below w.heap.size w W) => usage_any W g nx A c l x0 (h.below hW))
 have HB := zM (Below.refl w.heap.size w)
 clear h
 generalize ((usageN l (belowL l x0) : Nat) : Int) = b at HC ⊢
 generalize (((belowL l x0).length : Nat) : Int) = m at HC ⊢
 have HR : Aside0 (overV p q b m = (decide (0 < p) && decide (p < b) || decide (0 < q) && decide (q < m))) := ⟨by unfold overV; simp⟩
 rw [HR.out]
 clear HR
 cases d1 : decide (0 < p) <;> cases d2 : decide (p < b) <;> cases d3 : decide (0 < q) <;> cases d4 : decide (q < m)
 all_goals
  go_enter Tryz.func40, Tryz.ntmps40
  go_wp2_with (go_at_call 71; refine (HC.out _ (by repeat (first | exact Below.refl _ _ | apply zA | apply zN | apply zD))).mono ?_; rintro e w1 ⟨rfl, hb⟩; have hbx := (hb.block w.heap.size (by simp)).trans (heap_alloc_new w _); have h7 : w1.cell? ⟨w.heap.size, 7, none⟩ = some (.int .i64 p) := (zC hbx 7).trans rfl; have h8 : w1.cell? ⟨w.heap.size, 8, none⟩ = some (.int .i64 q) := (zC hbx 8).trans rfl; have HB1 := zM (zH (zA (Below.refl _ _) _) (by simp) hb); clear hb hbx HB)
  go_ret
  exact ⟨rfl, by repeat (first | exact HB1.out | apply zA | apply zN | apply zD)⟩
def overIdx (l : List S37) : Int := if l.any (overB l) then ((l.findIdx (overB l) : Nat) : Int) else -1
theorem overIdx_yes (l : List S37) (i : Nat) (h : i < l.length) (h1 : overB l l[i] = true) (h0 : ∀ j (hj : j < i), overB l (l[j]'(by omega)) = false) : overIdx l = i := by
 unfold overIdx
 rw [if_pos (List.any_eq_true.2 ⟨l[i], List.getElem_mem h, h1⟩), (List.findIdx_eq h).2 ⟨h1, fun j hj => h0 j hj⟩]
theorem overIdx_no (l : List S37) (h0 : ∀ j (hj : j < l.length), overB l l[j] = false) : overIdx l = -1 := by
 unfold overIdx
 rw [if_neg]
 rw [Bool.not_eq_true, List.any_eq_false]
 intro x hx
 obtain ⟨j, hj, rfl⟩ := List.getElem_of_mem hx
 simp [h0 j hj]
theorem overIdx_ge (l : List S37) : decide (0 ≤ overIdx l) = l.any (overB l) := by
 unfold overIdx
 split
 ·rename_i h; rw [h]; simp
 ·rename_i h; rw [Bool.not_eq_true] at h; rw [h]; rfl
theorem overIdx_any (w : World) (g : Nat) (nx : Int) (A : Option Addr) (c : Nat) (l : List S37) (h : VolAt w g nx A c l) :
  Calls Tryz.prog 70 #[.slice A l.length c, .func (.func 40) #[.pointer (some ⟨g, 0, none⟩)] #[]] w fun e w' => e = .returned (.int .i64 (overIdx l)) ∧ Below w.heap.size w w' := by
 have hu29 := Tryz.underlying26
 have hu45 := Tryz.underlying37
 have hm := h.len
 have HV := zM h
 have HB := zM (Below.refl w.heap.size w)
 clear h
 go_enter Tryz.func70, Tryz.ntmps70
 go_wp2
 go_loopg [8] l.length (fun kq v8 w' => ∃ (x : Nat), v8 = .int .i64 (x : Int) ∧ Aside0 (x + kq = l.length ∧ ∀ j (hj : j < l.length), j < x → overB l l[j] = false) ∧ Aside0 (Below w.heap.size w w'))
 case atStart => exact ⟨0, rfl, ⟨by omega, fun j _ hj => absurd hj (by omega)⟩, HB⟩
 case round =>
  clear HB
  obtain ⟨x, rfl, HX, HB⟩ := hrel
  have hl : gk ≤ l.length ∧ x ≤ l.length := by have := HX.out.1; omega
  by_cases hlt : x < l.length
  ·cases gk with
   | zero => have := HX.out.1; omega
   | succ k1 =>
   obtain ⟨ad, A6, c6, eA, hx0, hx1, hx2, hx3, hx4, hx5, hx6, hx7, hx8, -, -⟩ := ino_at HV.out HB.out x hlt
   have HC := isOver_any wr g nx A c l (HV.out.below HB.out) l[x].f0 l[x].f1 l[x].f2 l[x].f3 l[x].f4 l[x].f7 l[x].f8 l[x].f5 (.slice A6 l[x].f6.length c6)
   rw [show overV l[x].f7 l[x].f8 ((usageN l (belowL l l[x].f0) : Nat) : Int) (((belowL l l[x].f0).length : Nat) : Int) = overB l l[x] from rfl] at HC
   subst eA
   cases hid : overB l l[x] with
   | true =>
    rw [hid] at HC
    have HC2 := zM HC
    have hI := zM (overIdx_yes l x hlt hid (fun j hj => HX.out.2 j (by omega) hj))
    clear hid hl HC
    go_wp2_with (go_at_call 40; refine HC2.out.mono ?_; rintro e w1 ⟨rfl, hb⟩; have HB1 := zM (zH HB.out HB.out.size hb); clear hb)
    go_ret
    exact ⟨by rw [hI.out]; rfl, HB1.out⟩
   | false =>
    rw [hid] at HC
    have HC2 := zM HC
    have HN := zM hid
    clear hid hl HC
    go_wp2_with (go_at_call 40; refine HC2.out.mono ?_; rintro e w1 ⟨rfl, hb⟩; have HB1 := zM (zH HB.out HB.out.size hb); clear hb)
    go_roundg k1
    case measure => omega
    case rel => exact ⟨x + 1, by go_num, ⟨by have := HX.out.1; omega, fun j hj hjx => by
     by_cases e : j = x
     ·subst e; exact HN.out
     ·exact HX.out.2 j hj (by omega)⟩, HB1⟩
  ·have hI := zM (overIdx_no l (fun j hj => HX.out.2 j hj (by omega)))
   have hlt' : ¬ (x : Int) < (l.length : Int) := by omega
   clear hl
   go_wp2
   go_ret
   exact ⟨by rw [hI.out]; rfl, HB.out⟩
theorem anyOver_any (w : World) (g : Nat) (nx : Int) (A : Option Addr) (c : Nat) (l : List S37) (h : VolAt w g nx A c l) :
  Calls Tryz.prog 39 #[.slice A l.length c, .func (.func 40) #[.pointer (some ⟨g, 0, none⟩)] #[]] w fun e w' => e = .returned (.bool (l.any (overB l))) ∧ Below w.heap.size w w' := by
 have HC := zM (overIdx_any w g nx A c l h)
 have HG := zM (overIdx_ge l)
 have hm := h.len
 clear h
 generalize overIdx l = q at HC HG
 go_enter Tryz.func39, Tryz.ntmps39
 go_wp2_with (go_at_call 70; refine HC.out.mono ?_; rintro e w1 ⟨rfl, hb⟩; have HB1 := zM hb; clear hb)
 go_ret
 exact ⟨by rw [← HG.out]; first | rfl | simp, HB1.out⟩
end
end Go.Proofs.YtiopcpkfjikfdaaGreatDoor.PFnClean
