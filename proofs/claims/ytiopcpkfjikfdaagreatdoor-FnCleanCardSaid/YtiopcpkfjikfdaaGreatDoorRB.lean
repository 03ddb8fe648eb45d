import Derived.Test.YtiopcpkfjikfdaaGreatDoorMix
namespace Go.Proofs.YtiopcpkfjikfdaaGreatDoorW.Mix
open Go Go.RowKit Go.Proofs.YtiopcpkfjikfdaaGreatDoorW.PrintLast Go.Proofs.YtiopcpkfjikfdaaGreatDoorW.PrintWords
set_option linter.unusedVariables false
def RowB (w : World) (base : Nat) (v : Value) (xs : List Int) : Prop := ∃ g cap, v = .slice (some ⟨g, 0, none⟩) xs.length cap ∧ base ≤ g ∧ g < w.heap.size ∧ xs.length ≤ cap ∧ cap ≤ maxLen ∧ (∀ j, j < cap → (w.cell? ⟨g, j, none⟩).isSome = true ∧ w.frozen? ⟨g, j, none⟩ = false) ∧ ∀ j (h : j < xs.length), w.cell? ⟨g, j, none⟩ = some (.int .u8 xs[j])
section
variable {w w1 W : World} {base : Nat} {v : Value} {xs : List Int}
theorem RowB.keep (h : RowB w base v xs) {row : Option Nat} (k : w.grownBy w1 row) (hr : ∀ b, row = some b → b < base) : RowB w1 base v xs := by
 obtain ⟨g, cap, hv, hb, hg, hl, hm, hc, hx⟩ := h
 have e : w1.heap[g]? = w.heap[g]? := k.block g hg (fun e => by have := hr g e.symm; omega)
 refine ⟨g, cap, hv, hb, Nat.lt_of_lt_of_le hg k.size, hl, hm, fun j hj => ?_, fun j hj => ?_⟩
 ·rw [World.cell?_of_block (a := ⟨g, j, none⟩) e, World.frozen?_of_block (a := ⟨g, j, none⟩) e]
  exact hc j hj
 ·rw [World.cell?_of_block (a := ⟨g, j, none⟩) e]
  exact hx j hj
theorem bytesOf_get (s : ByteArray) (j : Nat) (h : j < (bytesOf s).length) : (bytesOf s)[j] = ((s.data.toList.getD j 0).toNat : Int) := by
 have h' : j < s.data.toList.length := by rw [bytesOf, List.length_map] at h; exact h
 simp [bytesOf, List.getD_eq_getElem?_getD, List.getElem?_eq_getElem h']
/-- A string's bytes. -/
theorem rowB_of (W : World) (base e : Nat) (hb : base ≤ W.heap.size) (s : ByteArray) (hs : s.size ≤ maxLen) : RowB (Lib.bytesWorld W e s) base (.slice (some ⟨W.heap.size, 0, none⟩) s.size (grownCap W s.size 0 e)) (bytesOf s) := by
 have hz : (Lib.bytesCells W e s).size = grownCap W s.size 0 e := by
  have := grownCap_ge W s.size 0 e
  have hd : s.data.size = s.size := rfl
  unfold Lib.bytesCells
  rw [Array.size_append, Array.size_map, Array.size_replicate, hd]
  omega
 refine ⟨W.heap.size, grownCap W s.size 0 e, by rw [bytesOf_length], hb, by rw [Lib.bytesWorld_size]; omega, by rw [bytesOf_length]; exact grownCap_ge W s.size 0 e, grownCap_le_maxLen W s.size 0 e hs, fun j hj => ⟨?_, ?_⟩, fun j hj => ?_⟩
 ·simp only [World.cell?, Lib.bytesWorld_at_new]
  rw [Array.getElem?_eq_getElem (by rw [hz]; exact hj)]
  rfl
 ·simp only [World.frozen?, Lib.bytesWorld_at_new]
  rw [hz]
  simp
  omega
 ·rw [Lib.bytesWorld_cell W e s j (by rw [bytesOf_length] at hj; exact hj), bytesOf_get]
theorem setCell_grown (w : World) (g j : Nat) (u : Value) : w.grownBy (w.setCell ⟨g, j, none⟩ u) (some g) := by
 have hs := setCells_same g [u] j w
 have e : w.setCells g j [u] = w.setCell ⟨g, j, none⟩ u := rfl
 rw [e] at hs
 exact ⟨hs.1, hs.2.1, hs.2.2.1, by rw [hs.2.2.2]; exact Nat.le_refl _, fun k hk hne => Below.heap_setCell w ⟨g, j, none⟩ u k (fun e => hne (by rw [e]))⟩
/-- A byte is put into it. -/
theorem RowB.put (h : RowB w base v xs) {g n cap : Nat} (hv : v = .slice (some ⟨g, 0, none⟩) n cap) (i : Nat) (hi : i < xs.length) (p : Int) : RowB (w.setCell ⟨g, i, none⟩ (.int .u8 p)) base v (xs.set i p) ∧ w.grownBy (w.setCell ⟨g, i, none⟩ (.int .u8 p)) (some g) ∧ base ≤ g := by
 obtain ⟨g', cap', hv', hb, hg, hl, hm, hc, hx⟩ := h
 obtain ⟨rfl, rfl, rfl⟩ : g' = g ∧ n = xs.length ∧ cap' = cap := by
  rw [hv'] at hv
  simp only [Value.slice.injEq, Option.some.injEq, Addr.mk.injEq] at hv
  exact ⟨hv.1.1, hv.2.1.symm, hv.2.2⟩
 have hk := setCell_grown w g' i (.int .u8 p)
 have hself : (w.setCell ⟨g', i, none⟩ (.int .u8 p)).cell? ⟨g', i, none⟩ = some (.int .u8 p) := by
  exact World.cell?_setCell_same' w _ _ (hc i (by omega)).1
 refine ⟨⟨g', cap', by rw [List.length_set]; exact hv', hb, Nat.lt_of_lt_of_le hg hk.size, by rw [List.length_set]; exact hl, hm, fun j hj => ?_, fun j hj => ?_⟩, hk, hb⟩
 ·rw [World.frozen?_setCell]
  refine ⟨?_, (hc j hj).2⟩
  by_cases e : j = i
  ·rw [e, hself]
   rfl
  ·rw [World.cell?_setCell_other _ _ _ _ (by intro hq; simp only [Addr.mk.injEq] at hq; omega)]
   exact (hc j hj).1
 ·by_cases e : j = i
  ·subst e
   rw [hself, List.getElem_set_self]
  ·rw [World.cell?_setCell_other _ _ _ _ (by intro hq; simp only [Addr.mk.injEq] at hq; omega), List.getElem_set_ne (by omega)]
   exact hx j (by rw [List.length_set] at hj; exact hj)
end
section
variable {P : Program} {ops : Array Oper} {rest : List Oper} {o : Oper} {a : Act} {Q : Exit → Act → World → Prop}
/-- append of one byte, behind 'at_builtin': the goal's world is 'W.alloc' of the literal. -/
theorem rowB_append {W : World} (base : Nat) (hgd : o.guard = none) (s x : Operand) (t e : TypeId) (ho : o.op = .call { callee := .builtin .append, args := #[s, x], argTypes := #[t, t] })
  (ht : P.underlying t = some (.slice e)) (i : TypeInfo) (hi : P.info? e = some i) (hz : i.zero = some (.int .u8 0)) (hz1 : i.size = 1) (hz2 : i.bytes = 1)
  (v : Value) (xs : List Int) (p : Int) (hs : a.eval s = v) (hx : a.eval x = .slice (some ⟨W.heap.size, 0, none⟩) 1 1) (HO : RowB W base v xs) (hbase : base ≤ W.heap.size) (hl : xs.length + 1 ≤ 1048576)
  (h : ∀ v1 w1, RowB w1 base v1 (xs ++ [p]) → W.grownBy w1 v.ownBlock → wpList P ops Q rest (a.put o.dst v1) w1) : wpList P ops Q (o :: rest) a (W.alloc (.cells #[.int .u8 p] e)) := by
 obtain ⟨g, cap, rfl, hb, hg, hlc, hm, hc, hxs⟩ := HO
 have hnew : ∀ j u, [Value.int .u8 p][j]? = some u → (W.alloc (.cells #[.int .u8 p] e)).cell? ((⟨W.heap.size, 0, none⟩ : Addr).add j) = some u := by
  intro j u hu
  rw [add_plain]
  have hj : j = 0 := by
   rcases Nat.eq_zero_or_pos j with h | h
   ·exact h
   ·rw [List.getElem?_eq_none (by simp; omega)] at hu
    cases hu
  subst hj
  have := blk_cell (heap_alloc_new W (.cells #[.int .u8 p] e)) 0
  rw [this]
  simpa using hu
 have hcellA : ∀ j, (W.alloc (.cells #[.int .u8 p] e)).cell? ⟨g, j, none⟩ = W.cell? ⟨g, j, none⟩ := fun j => World.cell?_of_block (a := ⟨g, j, none⟩) (heap_alloc_old W _ hg)
 have hfrA : ∀ j, (W.alloc (.cells #[.int .u8 p] e)).frozen? ⟨g, j, none⟩ = W.frozen? ⟨g, j, none⟩ := fun j => World.frozen?_of_block (a := ⟨g, j, none⟩) (heap_alloc_old W _ hg)
 by_cases hroom : xs.length + 1 ≤ cap
 ·have hf := run_firstCells_some (P := P) (W.alloc (.cells #[.int .u8 p] e)) i.size 1 ⟨W.heap.size, 0, none⟩ 1 1 [.int .u8 p] (by rw [hz1]; rfl) hnew
  have hst := run_storeCells_cells (P := P) g (xs.length * i.size) [.int .u8 p] 0 (W.alloc (.cells #[.int .u8 p] e)) (fun j hj => by
   simp only [List.length_singleton] at hj
   obtain rfl : j = 0 := by omega
   rw [hz1, hcellA]
   exact (hc _ (by omega)).1) (fun j hj => by
   simp only [List.length_singleton] at hj
   obtain rfl : j = 0 := by omega
   rw [hz1, hfrA]
   exact (hc _ (by omega)).2) (by simp [Value.oneCell'])
  simp only [Nat.add_zero, hz1, Nat.mul_one] at hst hf
  have hrun : (execOp a.eval o).run P (W.alloc (.cells #[.int .u8 p] e)) = .ok (.value (.slice (some ⟨g, 0, none⟩) (xs.length + 1) cap)) ((W.alloc (.cells #[.int .u8 p] e)).setCells g xs.length [.int .u8 p]) := by
   unfold execOp
   simp only [ho, resolve, invoke, builtin, Sem.run_bind, Sem.run_pure, Result.andThen_ok, List.map_toArray, List.map_cons, List.map_nil, hs, hx]
   simp [Builtin.append_, run_underlying ht, sizeOf, typeInfo, hi, Builtin.lenOf, hroom, hf, Addr.add_lit, hst, hz1]
  refine Kd.event_run hgd hrun (h _ _ ?_ ?_)
  ·have hk := setCell_grown (W.alloc (.cells #[.int .u8 p] e)) g xs.length (.int .u8 p)
   have e1 : (W.alloc (.cells #[.int .u8 p] e)).setCells g xs.length [.int .u8 p] = (W.alloc (.cells #[.int .u8 p] e)).setCell ⟨g, xs.length, none⟩ (.int .u8 p) := rfl
   rw [e1]
   have hself : ((W.alloc (.cells #[.int .u8 p] e)).setCell ⟨g, xs.length, none⟩ (.int .u8 p)).cell? ⟨g, xs.length, none⟩ = some (.int .u8 p) := by
    exact World.cell?_setCell_same' _ _ _ (by rw [hcellA]; exact (hc xs.length (by omega)).1)
   refine ⟨g, cap, by rw [List.length_append]; rfl, hb, Nat.lt_of_lt_of_le hg (Nat.le_trans (by simp) hk.size), by rw [List.length_append]; exact hroom, hm, fun j hj => ?_, fun j hj => ?_⟩
   ·rw [World.frozen?_setCell, hfrA]
    refine ⟨?_, (hc j hj).2⟩
    by_cases e : j = xs.length
    ·rw [e, hself]
     rfl
    ·rw [World.cell?_setCell_other _ _ _ _ (by intro hq; simp only [Addr.mk.injEq] at hq; omega), hcellA]
     exact (hc j hj).1
   ·rw [List.length_append, List.length_singleton] at hj
    by_cases e : j = xs.length
    ·subst e
     rw [hself, List.getElem_append_right (Nat.le_refl _)]
     simp
    ·rw [World.cell?_setCell_other _ _ _ _ (by intro hq; simp only [Addr.mk.injEq] at hq; omega), hcellA, List.getElem_append_left (by omega)]
     exact hxs j (by omega)
  ·have hk := setCell_grown (W.alloc (.cells #[.int .u8 p] e)) g xs.length (.int .u8 p)
   exact World.grownBy.trans (World.grownBy_alloc W _ _) hk
 ·have hcap : cap = xs.length := by omega
  have holds : ∀ j u, (nums .u8 xs)[j]? = some u → (W.alloc (.cells #[.int .u8 p] e)).cell? ((⟨g, 0, none⟩ : Addr).add j) = some u := by
   intro j u hu
   rw [add_plain, hcellA]
   obtain ⟨hj, rfl⟩ := List.getElem?_eq_some_iff.1 hu
   rw [nums_length] at hj
   rw [hxs j hj]
   simp [nums]
  have hr := run_append_grow (P := P) (W.alloc (.cells #[.int .u8 p] e)) t o.type e i (.int .u8 0) ht hi hz ⟨g, 0, none⟩ xs.length cap (nums .u8 xs) (by rw [hz1, nums_length, Nat.mul_one]) holds ⟨W.heap.size, 0, none⟩ 1 1 [.int .u8 p] (by rw [hz1]; rfl) hnew (by omega) (by omega)
   (by rw [hz2]; exact growslice_fits (by omega) (by omega))
  refine Kd.event_run hgd (v := .slice (some ⟨(W.alloc (.cells #[.int .u8 p] e)).heap.size, 0, none⟩) (xs.length + 1) (grownCap (W.alloc (.cells #[.int .u8 p] e)) (xs.length + 1) cap e))
   (w1 := (W.alloc (.cells #[.int .u8 p] e)).drew.alloc (.cells ((nums .u8 xs).toArray ++ [Value.int .u8 p].toArray ++ Builtin.zeroCells (Value.int .u8 0).cells (grownCap (W.alloc (.cells #[.int .u8 p] e)) (xs.length + 1) cap e - (xs.length + 1))) e)) ?_ (h _ _ ?_ ?_)
  ·unfold execOp
   simp only [ho, resolve, invoke, builtin, Sem.run_bind, Sem.run_pure, Result.andThen_ok, List.map_toArray, List.map_cons, List.map_nil, hs, hx, hr]
  ·generalize hA : W.alloc (.cells #[.int .u8 p] e) = A
   have hAs : A.heap.size = W.heap.size + 1 := by rw [← hA]; simp
   have hge := grownCap_ge A (xs.length + 1) cap e
   have hle := grownCap_le_maxLen A (xs.length + 1) cap e (by simp only [maxLen]; omega)
   generalize grownCap A (xs.length + 1) cap e = q at hge hle
   have hds : A.drew.heap.size = A.heap.size := rfl
   have hblk := heap_alloc_new A.drew (.cells ((nums .u8 xs).toArray ++ [Value.int .u8 p].toArray ++ Builtin.zeroCells (Value.int .u8 0).cells (q - (xs.length + 1))) e)
   rw [hds] at hblk
   have hz3 : (Builtin.zeroCells (Value.int .u8 0).cells (q - (xs.length + 1))).size = q - (xs.length + 1) := by rw [size_zeroCells]; exact Nat.mul_one _
   refine ⟨A.heap.size, q, by rw [List.length_append]; rfl, by omega, ?_, by rw [List.length_append]; exact hge, hle, fun j hj => ⟨?_, blk_frozen hblk j⟩, fun j hj => ?_⟩
   ·have : (A.drew.alloc (.cells ((nums .u8 xs).toArray ++ [Value.int .u8 p].toArray ++ Builtin.zeroCells (Value.int .u8 0).cells (q - (xs.length + 1))) e)).heap.size = A.drew.heap.size + 1 := by simp
    rw [this]
    omega
   ·rw [blk_cell hblk j, Array.getElem?_eq_getElem]
    ·rfl
    ·rw [Array.size_append, Array.size_append, hz3]
     simp [nums]
     omega
   ·rw [blk_cell hblk j]
    rw [List.length_append, List.length_singleton] at hj
    rw [Array.getElem?_append_left (by rw [Array.size_append]; simp [nums]; omega)]
    rw [List.append_toArray, List.getElem?_toArray]
    have e2 : nums .u8 xs ++ [Value.int .u8 p] = nums .u8 (xs ++ [p]) := by simp [nums]
    rw [e2, List.getElem?_eq_getElem (by rw [nums_length, List.length_append, List.length_singleton]; exact hj)]
    unfold nums
    rw [List.getElem_map]
  ·exact World.grownBy.trans (World.grownBy_alloc W _ _) (World.grownBy.trans (row := _) (grown_below (below_drew1 (Below.refl _ _)) _) (World.grownBy_alloc _ _ _))
/-- A byte is stored: arm of go_wp2_with. -/
theorem rowB_store {W : World} (base : Nat) (hgd : o.guard = none) (hN : o.dst = none) (t : TypeId) (q x : Operand) (ho : o.op = .store t q x) (ht : (P.info? t).map (·.size) = some 1) {g n cap i : Nat} (v : Value) (xs : List Int) (p : Int)
  (hq : a.eval q = .pointer (some ⟨g, i, none⟩)) (hx : a.eval x = .int .u8 p) (hv : v = .slice (some ⟨g, 0, none⟩) n cap) (HO : RowB W base v xs) (hi : i < xs.length)
  (h : ∀ w1, RowB w1 base v (xs.set i p) → W.grownBy w1 (some g) → base ≤ g → wpList P ops Q rest a w1) : wpList P ops Q (o :: rest) a W := by
 obtain ⟨h1, h2, h3⟩ := HO.put hv i hi p
 obtain ⟨g', cap', hv', hb, hg, hl, hm, hc, hxs⟩ := HO
 obtain ⟨rfl, rfl, rfl⟩ : g' = g ∧ n = xs.length ∧ cap' = cap := by
  rw [hv'] at hv
  simp only [Value.slice.injEq, Option.some.injEq, Addr.mk.injEq] at hv
  exact ⟨hv.1.1, hv.2.1.symm, hv.2.2⟩
 obtain ⟨inf, hinf, hsz⟩ := Option.map_eq_some_iff.1 ht
 have hst := run_storeCells_cells (P := P) g' i [.int .u8 p] 0 W (fun j hj => by
  simp only [List.length_singleton] at hj
  obtain rfl : j = 0 := by omega
  exact (hc _ (by omega)).1) (fun j hj => by
  simp only [List.length_singleton] at hj
  obtain rfl : j = 0 := by omega
  exact (hc _ (by omega)).2) (by simp [Value.oneCell'])
 simp only [Nat.add_zero] at hst
 have hrun : (Instr.storeAt t (.pointer (some ⟨g', i, none⟩)) (.int .u8 p)).run P W = .ok () (W.setCells g' i [.int .u8 p]) := by
  have hcs : (Value.int .u8 p).cells.toList = [.int .u8 p] := rfl
  have hcz : (Value.int .u8 p).cells.size = inf.size := by rw [hsz]; rfl
  simp [Instr.storeAt, Instr.sureAddr, storeVar, sizeOf, typeInfo, hinf, hcz, hcs, hst]
 refine wpList_plain hgd fun K hK => ?_
 unfold Oper.wp execOp
 simp only [ho, hq, hx, Sem.run_bind, Sem.run_pure, Result.andThen_ok, hrun]
 show K (a.put o.dst undef) _
 rw [hN]
 exact hK a _ (h _ h1 h2 h3)
end
/-- Back to a string. -/
theorem rowB_string {P : Program} {w : World} {base : Nat} {v : Value} {xs : List Int} {src dst e : TypeId} (hs : P.underlying src = some (.slice e)) (he : P.underlying e = some (.int .u8)) (hd : P.underlying dst = some .string) (h : RowB w base v xs) : (convert src dst v).run P w = .ok (.string (strOfNums xs)) w := by
 obtain ⟨g, cap, rfl, hb, hg, hl, hm, hc, hx⟩ := h
 refine run_convert_bytes_arg w src e hs he g 0 xs.length cap xs rfl (fun i hi => ?_) dst hd
 rw [Nat.zero_add, hx i hi, List.getD_eq_getElem?_getD, List.getElem?_eq_getElem hi]
 rfl
theorem RowB.slice {w : World} {base : Nat} {v : Value} {xs : List Int} (h : RowB w base v xs) : ∃ g cap, v = .slice (some ⟨g, 0, none⟩) xs.length cap ∧ base ≤ g := by
 obtain ⟨g, cap, hv, hb, _⟩ := h
 exact ⟨g, cap, hv, hb⟩
theorem RowB.grown {w w1 w2 : World} {v : Value} {xs : List Int} (h : RowB w1 w.heap.size v xs) (hg : w.grownBy w1 none) (k : w1.grownBy w2 v.ownBlock) : w.grownBy w2 none :=
 grown_trans hg k (fun b hb => by
  obtain ⟨g, cap, rfl, hbb, _⟩ := h
  simp only [Value.ownBlock, Option.some.injEq] at hb
  subst hb
  exact .inr hbb)
end Go.Proofs.YtiopcpkfjikfdaaGreatDoorW.Mix
