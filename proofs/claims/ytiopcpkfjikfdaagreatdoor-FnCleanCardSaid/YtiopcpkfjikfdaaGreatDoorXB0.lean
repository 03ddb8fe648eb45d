import Derived.Test.YtiopcpkfjikfdaaGreatDoorMix
import Derived.Test.YtiopcpkfjikfdaaGreatDoorQFnCleanx11
set_option maxHeartbeats 8000000
set_option maxRecDepth 100000
namespace Go.Proofs.YtiopcpkfjikfdaaGreatDoor.PFnClean
open Go.RowKit Go.Proofs.YtiopcpkfjikfdaaGreatDoorW.PrintWords Go.Proofs.YtiopcpkfjikfdaaGreatDoorW.PrintLast Go.Proofs.YtiopcpkfjikfdaaGreatDoorW.PrintMore
open Go.Proofs.YtiopcpkfjikfdaaGreatDoorW.Mix
open Go.Proofs.YtiopcpkfjikfdaaGreatDoor.Mth Go.Proofs.YtiopcpkfjikfdaaGreatDoor.Str
set_option linter.unusedVariables false
set_option linter.unusedSimpArgs false
def aggB : TypeDesc → Bool
 | .struct _ | .array _ _ => true
 | _ => false
section
variable {fn : Func} {R : Ending → World → Prop} {a : Act} {w0 w : World} {row : Option Nat} {bs : List (Nat × TypeId × Array Value)}
theorem rC (i : Nat) (hS : Aside0 (St w0 row w bs)) {p : Tmp} {g : Nat} {t : TypeId} {cs : Array Value} (hR : R (.returned (.agg cs)) w) (h : fn.results = #[.cell p t] := by rfl) (hp : a.tmps.getD p undef = .pointer (some ⟨g, 0, none⟩) := by rfl) (hi : bs[i]? = some (g, t, cs) := by rfl)
  (hu : ∃ d, Tryz.prog.underlying t = some d ∧ aggB d = true := by first | exact ⟨_, Tryz.underlying26, rfl⟩ | exact ⟨_, Tryz.underlying33, rfl⟩ | exact ⟨_, Tryz.underlying29, rfl⟩ | exact ⟨_, Tryz.underlying98, rfl⟩ | exact ⟨_, Tryz.underlying94, rfl⟩ | exact ⟨_, Tryz.underlying37, rfl⟩)
  (hz : (Tryz.prog.info? t).map (·.size) = some cs.size := by kernel_rfl) (hdf : a.defers = [] := by rfl) : bodyPost Tryz.prog fn R .ret a w := by
 obtain ⟨d, h1, h2⟩ := hu
 exact bodyPost_ret (results_cell_row h _ _ g t _ (0, 0) d hp (hS.out.get i hi) h1 (by cases d <;> first | rfl | (simp [aggB] at h2)) hz) hdf hR
theorem rVR (i j : Nat) (hS : Aside0 (St w0 row w bs)) {p q g g' : Nat} {cs cs' : Array Value} (hR : R (.returned (.tuple #[.agg cs, .agg cs'])) w) (h : fn.results = #[.cell p 26, .cell q 94] := by rfl) (hp : a.tmps.getD p undef = .pointer (some ⟨g, 0, none⟩) := by rfl) (hi : bs[i]? = some (g, 26, cs) := by rfl)
  (hq : a.tmps.getD q undef = .pointer (some ⟨g', 0, none⟩) := by rfl) (hj : bs[j]? = some (g', 94, cs') := by rfl) (hz : (Tryz.prog.info? 26).map (·.size) = some cs.size := by kernel_rfl) (hz' : (Tryz.prog.info? 94).map (·.size) = some cs'.size := by kernel_rfl) (hdf : a.defers = [] := by rfl) :
  bodyPost Tryz.prog fn R .ret a w := bodyPost_ret (results_cc h _ _ g g' 26 94 _ _ (0, 0) (0, 0) _ _ hp (hS.out.get i hi) Tryz.underlying26 rfl hz hq (hS.out.get j hj) Tryz.underlying94 rfl hz') hdf hR
end
def VolO (w : World) (v : Value) (l : List S37) : Prop := Kd.R k37 37 w 0 (fun _ => True) v l
def NamO (w : World) (v : Value) (l : List S59) : Prop := Kd.R k59 59 w 0 (fun _ => True) v l
theorem VolO.reads {w : World} {v : Value} {l : List S37} (h : VolO w v l) : ∃ A c, v = .slice A l.length c ∧ l.length ≤ c ∧ Kd.C k37 w A l.length l := Kd.R_reads h
theorem NamO.reads {w : World} {v : Value} {l : List S59} (h : NamO w v l) : ∃ A c, v = .slice A l.length c ∧ l.length ≤ c ∧ Kd.C k59 w A l.length l := Kd.R_reads h
theorem VolO.keep {w w1 : World} {v : Value} {l : List S37} (h : VolO w v l) (hg : w.grownBy w1 none) : VolO w1 v l := Kd.R_below h (below_grown hg)
theorem NamO.keep {w w1 : World} {v : Value} {l : List S59} (h : NamO w v l) (hg : w.grownBy w1 none) : NamO w1 v l := Kd.R_below h (below_grown hg)
theorem VolO.at_ {w : World} {v : Value} {l : List S37} (h : VolO w v l) (i : Nat) (hi : i < l.length) : ∃ ad c A6 c6, v = .slice (some ad) l.length c ∧ w.cell? (ad.add (i * 9)) = some (.int .i64 l[i].f0) ∧ w.cell? ⟨(ad.add (i * 9)).block, (ad.add (i * 9)).off + 1, none⟩ = some (.int .i64 l[i].f1) ∧ w.cell? ⟨(ad.add (i * 9)).block, (ad.add (i * 9)).off + 2, none⟩ = some (.int .i64 l[i].f2) ∧ w.cell? ⟨(ad.add (i * 9)).block, (ad.add (i * 9)).off + 3, none⟩ = some (.int .i64 l[i].f3) ∧ w.cell? ⟨(ad.add (i * 9)).block, (ad.add (i * 9)).off + 4, none⟩ = some (.int .i64 l[i].f4) ∧ w.cell? ⟨(ad.add (i * 9)).block, (ad.add (i * 9)).off + 5, none⟩ = some (.string l[i].f5) ∧ w.cell? ⟨(ad.add (i * 9)).block, (ad.add (i * 9)).off + 6, none⟩ = some (.slice A6 l[i].f6.length c6) ∧ w.cell? ⟨(ad.add (i * 9)).block, (ad.add (i * 9)).off + 7, none⟩ = some (.int .i64 l[i].f7) ∧ w.cell? ⟨(ad.add (i * 9)).block, (ad.add (i * 9)).off + 8, none⟩ = some (.int .i64 l[i].f8) ∧ NamO w (.slice A6 l[i].f6.length c6) l[i].f6 := by
 obtain ⟨A, c, rfl, hc, hC⟩ := h.reads
 obtain ⟨ad, _, _, rfl, _⟩ := at_T37 hC (i : Int) (by omega) (by omega)
 obtain ⟨cs, hcl, hM, hcc⟩ := Kd.R_getA h z37 (i : Int) (by omega) (by omega)
 rw [Int.toNat_natCast] at hM hcc
 rw [List.getD_eq_getElem?_getD, List.getElem?_eq_getElem hi, Option.getD_some] at hM
 obtain ⟨v6, rfl, h6⟩ := k37_openM hM
 obtain ⟨A6, c6, rfl⟩ := Kd.R_slice h6
 have hq : ∀ j u, _ → w.cell? (ad.add (i * 9 + j)) = some u := hcc
 exact ⟨ad, c, A6, c6, rfl, hq 0 _ rfl, by rw [← add_field _ _ 1 (by omega)]; exact hq 1 _ rfl, by rw [← add_field _ _ 2 (by omega)]; exact hq 2 _ rfl, by rw [← add_field _ _ 3 (by omega)]; exact hq 3 _ rfl, by rw [← add_field _ _ 4 (by omega)]; exact hq 4 _ rfl, by rw [← add_field _ _ 5 (by omega)]; exact hq 5 _ rfl, by rw [← add_field _ _ 6 (by omega)]; exact hq 6 _ rfl, by rw [← add_field _ _ 7 (by omega)]; exact hq 7 _ rfl, by rw [← add_field _ _ 8 (by omega)]; exact hq 8 _ rfl, Kd.R_mono h6 (fun _ _ => trivial)⟩
/-- The cells of an inode in a row. -/
def InoC (w : World) (ad : Addr) (i : Nat) (x : S37) (A6 : Option Addr) (c6 : Nat) : Prop := w.cell? (ad.add (i * 9)) = some (.int .i64 x.f0) ∧ w.cell? ⟨(ad.add (i * 9)).block, (ad.add (i * 9)).off + 1, none⟩ = some (.int .i64 x.f1) ∧ w.cell? ⟨(ad.add (i * 9)).block, (ad.add (i * 9)).off + 2, none⟩ = some (.int .i64 x.f2) ∧ w.cell? ⟨(ad.add (i * 9)).block, (ad.add (i * 9)).off + 3, none⟩ = some (.int .i64 x.f3) ∧ w.cell? ⟨(ad.add (i * 9)).block, (ad.add (i * 9)).off + 4, none⟩ = some (.int .i64 x.f4) ∧ w.cell? ⟨(ad.add (i * 9)).block, (ad.add (i * 9)).off + 5, none⟩ = some (.string x.f5) ∧ w.cell? ⟨(ad.add (i * 9)).block, (ad.add (i * 9)).off + 6, none⟩ = some (.slice A6 x.f6.length c6) ∧ w.cell? ⟨(ad.add (i * 9)).block, (ad.add (i * 9)).off + 7, none⟩ = some (.int .i64 x.f7) ∧ w.cell? ⟨(ad.add (i * 9)).block, (ad.add (i * 9)).off + 8, none⟩ = some (.int .i64 x.f8)
theorem InoC.keep {w w1 : World} {ad : Addr} {i : Nat} {x : S37} {A6 : Option Addr} {c6 : Nat} (h : InoC w ad i x A6 c6) (hg : w.grownBy w1 none) : InoC w1 ad i x A6 c6 := by
 obtain ⟨h0, h1, h2, h3, h4, h5, h6, h7, h8⟩ := h
 exact ⟨hg.cell h0 (by simp), hg.cell h1 (by simp), hg.cell h2 (by simp), hg.cell h3 (by simp), hg.cell h4 (by simp), hg.cell h5 (by simp), hg.cell h6 (by simp), hg.cell h7 (by simp), hg.cell h8 (by simp)⟩
theorem InoC.kx {w0 w : World} {row : Option Nat} {bs : List (Nat × TypeId × Array Value)} {X : List Nat} {ad : Addr} {i : Nat} {x : S37} {A6 : Option Addr} {c6 : Nat} (h : InoC w0 ad i x A6 c6) (hS : St w0 row w bs) (hX : ∀ g ∈ X, w0.heap.size ≤ g) (hr : some (ad.add (i * 9)).block ≠ row) (y : Kx X w) : InoC y.W ad i x A6 c6 := by
 obtain ⟨h0, h1, h2, h3, h4, h5, h6, h7, h8⟩ := h
 exact ⟨Kx.old hS hX h0 hr y, Kx.old hS hX h1 hr y, Kx.old hS hX h2 hr y, Kx.old hS hX h3 hr y, Kx.old hS hX h4 hr y, Kx.old hS hX h5 hr y, Kx.old hS hX h6 hr y, Kx.old hS hX h7 hr y, Kx.old hS hX h8 hr y⟩
theorem VolO.ino {w : World} {v : Value} {l : List S37} (h : VolO w v l) (i : Nat) (hi : i < l.length) : ∃ ad c A6 c6, v = .slice (some ad) l.length c ∧ InoC w ad i l[i] A6 c6 ∧ NamO w (.slice A6 l[i].f6.length c6) l[i].f6 := by
 obtain ⟨ad, c, A6, c6, e, h0, h1, h2, h3, h4, h5, h6, h7, h8, hN⟩ := h.at_ i hi
 exact ⟨ad, c, A6, c6, e, ⟨h0, h1, h2, h3, h4, h5, h6, h7, h8⟩, hN⟩
theorem atS_any (nx : Int) (A : Option Addr) (c : Nat) (l : List S37) (id : Int) (w : World) (hr : Kd.C k37 w A l.length l) (hc : l.length ≤ c) (hs : volSmall l) : Calls Tryz.prog 31 #[.agg #[.int .i64 nx, .slice A l.length c], .int .i64 id] w fun e w' => e = .returned (.int .i64 (atV l id)) ∧ Below w.heap.size w w' := by
 obtain ⟨K, hK⟩ := at_ev nx l hs.1 id
 exact spec_l4At.calls K nx A c l id _ w hr hc (hK K (Nat.le_refl _))
theorem bool_store {P : Program} {ops : Array Oper} {rest : List Oper} {o : Oper} {a : Act} {Q : Exit → Act → World → Prop} {W : World} (hN : o.dst = none) (hgd : o.guard = none) (p x : Operand) (ho : o.op = .store 4 p x) {g n cap b : Nat} {ok : Nat → Prop} (i : Nat) {xs : List Bool} (haddr : a.eval p = .pointer (some ⟨g, i, none⟩)) (hx : a.eval x = .bool true)
  (ht : (P.info? 4).map (·.size) = some 1) (HO : Kd.R Kd.bool 4 W b ok (.slice (some ⟨g, 0, none⟩) n cap) xs) (hi : i < n) (h : ∀ w1, Aside0 (Kd.R Kd.bool 4 w1 b ok (.slice (some ⟨g, 0, none⟩) n cap) (xs.set i true)) → Aside0 (W.grownBy w1 (some g)) → wpList P ops Q rest a w1) : wpList P ops Q (o :: rest) a W := by
 obtain ⟨ec, hcl, _, hcc, -⟩ := Kd.R_elem HO false (i : Int) (by omega) (by omega)
 refine Kd.R_store Kd.bool (w0 := W) b hN hgd 4 p x ho 4 (i : Int) 0 xs true (.bool true) [.bool true] ec ok (fun _ => False) haddr (by rw [Int.toNat_natCast]; show i = i * 1 + 0; omega) hx rfl ht (by simp [Value.oneCell']) HO (by omega) (by omega) hcl hcc (Nat.le_refl 1) ?_ (fun _ h => h.elim) (Below.refl _ _) ?_
 ·have e : ec.drop 1 = [] := List.drop_of_length_le (by rw [hcl]; exact Nat.le_refl 1)
  show Kd.M Kd.bool W b _ true ([] ++ [.bool true] ++ ec.drop 1)
  rw [e]
  rfl
 ·intro w1 hR _ hg
  rw [Int.toNat_natCast] at hR
  exact h w1 ⟨hR⟩ ⟨hg⟩
theorem bool_cell {W : World} {g n cap b : Nat} {ok : Nat → Prop} {xs : List Bool} (h : Kd.R Kd.bool 4 W b ok (.slice (some ⟨g, 0, none⟩) n cap) xs) (i : Nat) (hi : i < n) : W.cell? ⟨g, i, none⟩ = some (.bool (xs.getD i false)) := by
 obtain ⟨ad, e, hc⟩ := Kd.at_bool (Kd.R_reads' h).2.2 (i : Int) (by omega) (by have := (Kd.R_reads' h).1; omega)
 injection e with e
 subst e
 rw [rdB, Int.toNat_natCast, add_at, Nat.zero_add] at hc
 exact hc
theorem ino_C {w : World} {A : Option Addr} {l : List S37} (h : Kd.C k37 w A l.length l) (i : Nat) (hi : i < l.length) : ∃ ad A6 c6, A = some ad ∧ InoC w ad i l[i] A6 c6 ∧ Kd.C k59 w A6 l[i].f6.length l[i].f6 := by
 obtain ⟨ad, A6, c6, eA, hx0, hx1, hx2, hx3, hx4, hx5, hx6, hx7, hx8, hl6, hi6⟩ := at_T37 h (i : Int) (by omega) (by omega)
 rw [Int.toNat_natCast, rd45 l i hi] at hx0 hx1 hx2 hx3 hx4 hx5 hx6 hx7 hx8
 rw [rd45 l i hi] at hi6
 exact ⟨ad, A6, c6, eA, ⟨hx0, hx1, hx2, hx3, hx4, hx5, hx6, hx7, hx8⟩, hi6⟩
theorem belowS_any (nx : Int) (A : Option Addr) (c : Nat) (l : List S37) (id : Int) (w : World) (hr : Kd.C k37 w A l.length l) (hc : l.length ≤ c) (hs : volSmall l) :
  Calls Tryz.prog 50 #[.agg #[.int .i64 nx, .slice A l.length c], .int .i64 id] w fun e w' => ∃ v0_ : Value, e = .returned (v0_) ∧ Kd.R Kd.bool 4 w' w.heap.size (fun _ => True) v0_ (belowBits l id) ∧ Below w.heap.size w w' := by
 have hu26 := Tryz.underlying26
 have hu37 := Tryz.underlying37
 have hu59 := Tryz.underlying59
 have hm : l.length ≤ 1048576 := hs.1
 have hC := zM hr
 have HA := zM (fun (W : World) (q : Int) (hW : w.grownBy W none) => atS_any nx A c l q W (Kd.C_below hr (below_grown hW)) hc hs)
 have HSm := zM hs
 have HCc := zM hc
 have HS := zM (St.start w none)
 clear hr hc hs
 by_cases hi : inoI l id < l.length
 case neg =>
  have hat : atV l id = -1 := by unfold atV; rw [if_neg hi]
  have hB : belowBits l id = List.replicate l.length false := by unfold belowBits; rw [if_neg hi]
  rw [hB]
  clear hi hB
  go_enter Tryz.func50, Tryz.ntmps50
  go_wp2_with (first | ((with_reducible refine gD 2 rfl ?_); refine sB #[.int .i64 nx, .slice A l.length c] 26 HS ?_; clear HS; intro g2 w2 HS _; obtain ⟨z0, z1⟩ := HS.out.cells2 0 rfl) | ((with_reducible refine gD 15 rfl ?_); refine Kd.R_make Kd.bool (w0 := _) _ 4 rfl (N := 15) rfl 77 _ _ rfl (l.length : Int) rfl rfl Tryz.underlying77 (.bool false) 1 info4 rfl (by decide) (by decide) false (ok := fun _ => True) (okp := fun _ => True) rfl (fun _ hk => hk) trivial (by omega) (by omega) (Below.refl _ _) (Nat.le_refl _) ?_; intro v15 w3 hR _ hg _; rw [Int.toNat_natCast] at hR; have R5a := zM hR; have R5g := zM (And.intro hg HS.out.grown.size); clear hR; replace HS := zM (HS.out.calls hg); clear hg; (try clear z0 z1); obtain ⟨z0, z1⟩ := HS.out.cells2 0 rfl) | ((with_reducible refine gD 19 rfl ?_); refine Kd.R_make Kd.bool (w0 := _) _ 4 rfl (N := 19) rfl 77 _ _ rfl (l.length : Int) rfl rfl Tryz.underlying77 (.bool false) 1 info4 rfl (by decide) (by decide) false (ok := fun _ => True) (okp := fun _ => True) rfl (fun _ hk => hk) trivial (by omega) (by omega) (Below.refl _ _) (Nat.le_refl _) ?_; intro v19 w4 hR _ hg _; rw [Int.toNat_natCast] at hR; have R6a := zM hR; have R6g := zM (And.intro hg HS.out.grown.size); clear hR; replace HS := zM (HS.out.calls hg); clear hg; (try clear z0 z1); obtain ⟨z0, z1⟩ := HS.out.cells2 0 rfl) | (go_at_call 31; refine (HA.out _ id HS.out.grown).mono ?_; rintro e w5 ⟨rfl, hb⟩; rw [hat]; have R5 := zM (Kd.R_below (Kd.R_lower (Kd.R_below R5a.out (below_grown R6g.out.1)) R5g.out.2) hb); replace HS := zM (HS.out.call hb); clear hb; (try clear z0 z1); obtain ⟨z0, z1⟩ := HS.out.cells2 0 rfl))
  go_ret
  exact ⟨_, rfl, R5.out, below_grown HS.out.grown⟩
 obtain ⟨i0, hie⟩ : ∃ i, i = inoI l id := ⟨_, rfl⟩
 have hat : atV l id = (i0 : Int) := by unfold atV; rw [if_pos hi, hie]
 have hil : i0 < l.length := by omega
 have hili : (i0 : Int) < (l.length : Int) := by omega
 obtain ⟨BB, hBB⟩ : ∃ q, q = belowBits l id := ⟨_, rfl⟩
 have HBB := zM (show (passes l l.length (List.replicate l.length false, (List.replicate l.length false).set i0 true)).1 = BB from by rw [hBB, hie]; unfold belowBits; rw [if_pos hi])
 rw [← hBB]
 clear hi hie hBB
 go_enter Tryz.func50, Tryz.ntmps50
 go_upto_region 3 with (first | ((with_reducible refine gD 2 rfl ?_); refine sB #[.int .i64 nx, .slice A l.length c] 26 HS ?_; clear HS; intro g2 w2 HS _; obtain ⟨z0, z1⟩ := HS.out.cells2 0 rfl) | ((with_reducible refine gD 15 rfl ?_); refine Kd.R_make Kd.bool (w0 := _) _ 4 rfl (N := 15) rfl 77 _ _ rfl (l.length : Int) rfl rfl Tryz.underlying77 (.bool false) 1 info4 rfl (by decide) (by decide) false (ok := fun _ => True) (okp := fun _ => True) rfl (fun _ hk => hk) trivial (by omega) (by omega) (Below.refl _ _) (Nat.le_refl _) ?_; intro v15 w3 hR _ hg _; rw [Int.toNat_natCast] at hR; have R5a := zM hR; have R5g := zM (And.intro hg HS.out.grown.size); clear hR; replace HS := zM (HS.out.calls hg); clear hg; (try clear z0 z1); obtain ⟨z0, z1⟩ := HS.out.cells2 0 rfl) | ((with_reducible refine gD 19 rfl ?_); refine Kd.R_make Kd.bool (w0 := _) _ 4 rfl (N := 19) rfl 77 _ _ rfl (l.length : Int) rfl rfl Tryz.underlying77 (.bool false) 1 info4 rfl (by decide) (by decide) false (ok := fun _ => True) (okp := fun _ => True) rfl (fun _ hk => hk) trivial (by omega) (by omega) (Below.refl _ _) (Nat.le_refl _) ?_; intro v19 w4 hR _ hg _; rw [Int.toNat_natCast] at hR; have R6a := zM hR; have R6g := zM (And.intro hg HS.out.grown.size); clear hR; replace HS := zM (HS.out.calls hg); clear hg; (try clear z0 z1); obtain ⟨z0, z1⟩ := HS.out.cells2 0 rfl))
 have R5 := zM (Kd.R_below (Kd.R_lower (Kd.R_mono (Kd.R_bound R5a.out) (ok' := fun k => k < w3.heap.size) (fun k hk => hk.2.2.1)) R5g.out.2) (below_grown R6g.out.1))
 have R6 := zM (Kd.R_lower (Kd.R_mono (Kd.R_bound R6a.out) (ok' := fun k => w3.heap.size ≤ k) (fun k hk => hk.2.1)) R6g.out.2)
 obtain ⟨g5, c5, e5, -, -, -⟩ := Kd.R_form R5.out (by rw [List.length_replicate]; omega)
 obtain ⟨g6, c6, e6, -, -, -⟩ := Kd.R_form R6.out (by rw [List.length_replicate]; omega)
 rw [List.length_replicate] at e5 e6
 subst e5 e6
 have HG5 := zM (R5.out.1 g5 (by simp [Value.ownBlock]))
 have HG6 := zM (R6.out.1 g6 (by simp [Value.ownBlock]))
 clear R5a R6a R5g R6g
 generalize w3.heap.size = N at R5 R6 HG5 HG6
 go_wp2_with (first | (go_at_call 31; refine (HA.out _ id HS.out.grown).mono ?_; rintro e w5 ⟨rfl, hb⟩; rw [hat]; replace R5 := zM (Kd.R_below R5.out hb); replace R6 := zM (Kd.R_below R6.out hb); replace HS := zM (HS.out.call hb); clear hb; (try clear z0 z1); obtain ⟨z0, z1⟩ := HS.out.cells2 0 rfl) | ((with_reducible refine gS 4 28 rfl ?_); refine bool_store rfl rfl (.tmp 28) _ rfl i0 rfl rfl (by kernel_rfl) R6.out hil ?_; intro w6 n0_ n1_; have n2_ := zM (Kd.R_grown R5.out n1_.out (fun k (hk : k < N) e => by injection e with e; have := HG6.out; omega)); have n3_ := zM (HS.out.growT n1_.out (fun b hb => .inr (Kd.R_base R6.out b (by injection hb with hb; rw [← hb]; simp [Value.ownBlock]))) (fun b hb => Kd.R_typed R6.out b (by injection hb with hb; rw [← hb]; simp [Value.ownBlock])) rfl); clear HS R6 R5 n1_; have HS := n3_; have R6 := n0_; have R5 := n2_; clear n0_ n2_ n3_; (try clear z0 z1); obtain ⟨z0, z1⟩ := HS.out.cells2 0 rfl))
 go_loopg [8] l.length (fun kq v8 w' => ∃ (x8 : Nat) (st : List Bool × List Bool), v8 = .int .i64 (x8 : Int) ∧ Aside0 (x8 + kq = l.length ∧ Len2 l st ∧ (passes l kq st).1 = BB) ∧ Aside0 (Kd.R Kd.bool 4 w' w.heap.size (fun k => k < N) (.slice (some ⟨g5, 0, none⟩) l.length c5) st.1) ∧ Aside0 (Kd.R Kd.bool 4 w' w.heap.size (fun k => N ≤ k) (.slice (some ⟨g6, 0, none⟩) l.length c6) st.2) ∧ Aside0 (St w none w' [(g2, 26, #[.int .i64 nx, .slice A l.length c])]))
 case atStart => exact ⟨0, (List.replicate l.length false, (List.replicate l.length false).set i0 true), rfl, ⟨by simp, ⟨by simp, by simp⟩, HBB.out⟩, R5, R6, HS⟩
 case round =>
  clear HS R5 R6 HBB hil hili hat
  obtain ⟨x8, st, rfl, HX, R5, R6, HS⟩ := hrel
  obtain ⟨w7, hw_⟩ : ∃ q, q = wr := ⟨_, rfl⟩
  subst hw_
  obtain ⟨z0, z1⟩ := HS.out.cells2 0 rfl
  by_cases hx8 : x8 < l.length
  case neg =>
   cases gk with
   | succ k1 => have := HX.out.1; omega
   | zero =>
   go_wp2
   go_ret
   exact ⟨_, rfl, by have := HX.out.2.2; rw [← this]; exact Kd.R_mono R5.out (fun _ _ => trivial), below_grown HS.out.grown⟩
  cases gk with
  | zero => have := HX.out.1; omega
  | succ k1 =>
  have hx8i : (x8 : Int) < (l.length : Int) := by omega
  have hw8 : wrap64 ((x8 : Int) + 1) = ((x8 + 1 : Nat) : Int) := by rw [w64 (by omega) (by omega)]; omega
  go_wp2
  go_loopg [9] l.length (fun kq v9 w' => ∃ (i : Nat) (st : List Bool × List Bool), v9 = .int .i64 (i : Int) ∧ Aside0 (i + kq = l.length ∧ Len2 l st ∧ (passes l k1 (passFrom l kq i st)).1 = BB) ∧ Aside0 (Kd.R Kd.bool 4 w' w.heap.size (fun k => k < N) (.slice (some ⟨g5, 0, none⟩) l.length c5) st.1) ∧ Aside0 (Kd.R Kd.bool 4 w' w.heap.size (fun k => N ≤ k) (.slice (some ⟨g6, 0, none⟩) l.length c6) st.2) ∧ Aside0 (St w none w' [(g2, 26, #[.int .i64 nx, .slice A l.length c])]))
  case atStart => exact ⟨0, st, rfl, ⟨by simp, HX.out.2.1, HX.out.2.2⟩, R5, R6, HS⟩
  case round =>
   clear HS R5 R6 z0 z1
   have HX8 := zM HX.out.1
   clear HX
   obtain ⟨i, st, rfl, HX, R5, R6, HS⟩ := hrel
   obtain ⟨w8, hw_⟩ : ∃ q, q = wr := ⟨_, rfl⟩
   subst hw_
   obtain ⟨z0, z1⟩ := HS.out.cells2 0 rfl
   by_cases hil : i < l.length
   case neg =>
    cases gk with
    | succ k2 => have := HX.out.1; omega
    | zero =>
    go_wp2
    go_roundg k1
    case measure => have := HX8.out; omega
    case rel => exact ⟨x8 + 1, st, by first | rfl | rw [hw8], ⟨by have := HX8.out; omega, HX.out.2.1, HX.out.2.2⟩, R5, R6, HS⟩
   cases gk with
   | zero => have := HX.out.1; omega
   | succ k2 =>
   have hili : (i : Int) < (l.length : Int) := by omega
   have hw9 : wrap64 ((i : Int) + 1) = ((i + 1 : Nat) : Int) := by rw [w64 (by omega) (by omega)]; omega
   have ho6 := bool_cell R6.out i hil
   cases hob : st.2.getD i false
   case false =>
    rw [hob] at ho6
    have hrow : rowS l st i = st := by unfold rowS; rw [hob, if_neg (by simp)]
    go_wp2
    go_roundg k2
    case measure => have := HX.out.1; omega
    case rel => exact ⟨i + 1, st, by first | rfl | rw [hw9], ⟨by have := HX.out.1; omega, HX.out.2.1, by have := HX.out.2.2; rw [passFrom, hrow] at this; exact this⟩, R5, R6, HS⟩
   rw [hob] at ho6
   have hrow : rowS l st i = markDs l st l[i].f6 := by unfold rowS; rw [hob, if_pos rfl, iAt_eq l i hil]
   have HRow := zM hrow
   clear hrow hob
   obtain ⟨ad, A6, c6', rfl, hx, hD⟩ := ino_C hC.out i hil
   have h6 : l[i].f6.length ≤ 1048576 := HSm.out.2.1 _ (List.getElem_mem hil)
   generalize l[i] = x at hx hD h6 HRow
   have HXc := zM hx
   have HD := zM hD
   obtain ⟨tg, htg⟩ : ∃ q, q = markDs l st x.f6 := ⟨_, rfl⟩
   rw [← htg] at HRow
   have HTg := zM htg
   clear hx hD htg
   go_wp2
   go_loopg [10] x.f6.length (fun kq v10 w' => ∃ (j : Nat) (st : List Bool × List Bool), v10 = .int .i64 (j : Int) ∧ Aside0 (j + kq = x.f6.length ∧ Len2 l st ∧ markDs l st (x.f6.drop j) = tg) ∧ Aside0 (Kd.R Kd.bool 4 w' w.heap.size (fun k => k < N) (.slice (some ⟨g5, 0, none⟩) l.length c5) st.1) ∧ Aside0 (Kd.R Kd.bool 4 w' w.heap.size (fun k => N ≤ k) (.slice (some ⟨g6, 0, none⟩) l.length c6) st.2) ∧ Aside0 (St w none w' [(g2, 26, #[.int .i64 nx, .slice (some ad) l.length c])]))
   case atStart => exact ⟨0, st, rfl, ⟨by simp, HX.out.2.1, by rw [HTg.out]; rfl⟩, R5, R6, HS⟩
   case round =>
    clear HS R5 R6 z0 z1 ho6 HTg
    have HX9 := zM (And.intro HX.out.1 HX.out.2.2)
    clear HX
    obtain ⟨j, st', rfl, HX, R5, R6, HS⟩ := hrel
    obtain ⟨w9, hw_⟩ : ∃ q, q = wr := ⟨_, rfl⟩
    subst hw_
    obtain ⟨z0, z1⟩ := HS.out.cells2 0 rfl
    obtain ⟨hx0, hx1, hx2, hx3, hx4, hx5, hx6, hx7, hx8⟩ := HXc.out.keep HS.out.grown
    by_cases hj : j < x.f6.length
    case neg =>
     cases gk with
     | succ k3 => have := HX.out.1; omega
     | zero =>
     have he : st' = tg := by have := HX.out.2.2; rw [List.drop_of_length_le (by omega)] at this; exact this
     go_wp2
     go_roundg k2
     case measure => have := HX9.out.1; omega
     case rel => exact ⟨i + 1, st', by first | rfl | rw [hw9], ⟨by have := HX9.out.1; omega, HX.out.2.1, by have := HX9.out.2; rw [passFrom, HRow.out, ← he] at this; exact this⟩, R5, R6, HS⟩
    cases gk with
    | zero => have := HX.out.1; omega
    | succ k3 =>
    have hji : (j : Int) < (x.f6.length : Int) := by omega
    have HW10 := zM (show wrap64 ((j : Int) + 1) = ((j + 1 : Nat) : Int) from by rw [w64 (by omega) (by omega)]; omega)
    obtain ⟨bd, rfl, hd0, hd1⟩ := dir_at HD.out (below_grown HS.out.grown) j hj
    have HM := zM (show markDs l st' (x.f6.drop j) = markDs l (markD l st' x.f6[j]) (x.f6.drop (j + 1)) from by rw [List.drop_eq_getElem_cons hj]; rfl)
    generalize x.f6[j] = dd at hd0 hd1 HM
    have hx_ : ∀ y : Kx [] w9, y.W.cell? ⟨(ad.add (i * 9)).block, (ad.add (i * 9)).off + 6, none⟩ = some (.slice (some bd) x.f6.length c6') := fun y => y.cell hx6 List.not_mem_nil
    have hd_ : ∀ y : Kx [] w9, y.W.cell? ⟨(bd.add (j * 2)).block, (bd.add (j * 2)).off + 1, none⟩ = some (.int .i64 dd.f1) := fun y => y.cell hd1 List.not_mem_nil
    go_upto_region 17 with (fail)
    clear z0 z1 hx0 hx1 hx2 hx3 hx4 hx5 hx6 hx7 hx8 hd0 hd1
    replace R5 := zM (Kd.R_below R5.out (below_drew1 (Below.refl _ _)))
    replace R6 := zM (Kd.R_below R6.out (below_drew1 (Below.refl _ _)))
    have hz0 := Kx.box HS.out 0 rfl List.not_mem_nil 0 rfl
    have hz1 := Kx.box HS.out 0 rfl List.not_mem_nil 1 rfl
    try simp only [Act.put, List.setIfInBounds_toArray, List.set_cons_zero, List.set_cons_succ]
    refine wp_region_mix (KxS [] w9) [([0, 1, 2, 3, 4, 5, 6, 7, 8, 9, 10], 11)] [12] (by kernel_rfl) (by kernel_rfl) (fun _ _ _ _ h => h) (KxS.drew _ _) ?_
    have hK := KxS.drew [] w9
    replace HS := zM (HS.out.drew)
    refine mix_seg ?_
    simp only [pickO, List.map]
    repeat (go_big_quiet_step (fail))
    refine wpQuiet_nil ?_
    go_wp2_with (go_at_call 31; refine (HA.out _ dd.f1 HS.out.grown).mono ?_; rintro e w10 ⟨rfl, hb⟩; have HG := zM (grown_below hb none); replace R5 := zM (Kd.R_below R5.out hb); replace R6 := zM (Kd.R_below R6.out hb); replace HS := zM (HS.out.call hb); clear hb)
    refine ⟨hK.grow HG.out (by simp), fun hK => mix_end ?_⟩
    clear HG
    simp only [pickO, List.map]
    repeat (go_big_quiet_step (fail))
    refine wpQuiet_nil ?_
    by_cases hdi : inoI l dd.f1 < l.length
    case neg =>
     have hm2 : markD l st' dd = st' := by unfold markD; rw [if_neg hdi]
     obtain ⟨aa, haa, hdec⟩ : ∃ q, q = atV l dd.f1 ∧ decide ((0 : Int) ≤ q) = false := ⟨_, rfl, by rw [show atV l dd.f1 = -1 from by unfold atV; rw [if_neg hdi]]; rfl⟩
     rw [← haa]
     clear haa
     have HM2 := zM hm2
     clear hm2 hdi hz0 hz1 hx_ hd_
     go_wp2
     go_roundg k3
     case measure => have := HX.out.1; omega
     case rel => exact ⟨j + 1, st', by first | rfl | rw [HW10.out], ⟨by have := HX.out.1; omega, HX.out.2.1, by have := HX.out.2.2; rw [HM.out, HM2.out] at this; exact this⟩, R5, R6, HS⟩
    have hm2 : markD l st' dd = (st'.1.set (inoI l dd.f1) true, st'.2.set (inoI l dd.f1) true) := by unfold markD; rw [if_pos hdi]
    rw [show atV l dd.f1 = (inoI l dd.f1 : Int) from by unfold atV; rw [if_pos hdi]]
    have HL2 := zM (markD_len HX.out.2.1 dd)
    rw [hm2] at HL2 HM
    generalize inoI l dd.f1 = pp at hdi HL2 HM hm2 ⊢
    have hppi : (pp : Int) < (l.length : Int) := by omega
    clear hm2 hz0 hz1 hx_ hd_
    obtain ⟨z0, z1⟩ := HS.out.cells2 0 rfl
    go_wp2_with (first | ((with_reducible refine gS 4 75 rfl ?_); refine bool_store rfl rfl (.tmp 75) _ rfl pp rfl rfl (by kernel_rfl) R5.out hdi ?_; intro w11 n0_ n1_; have n2_ := zM (Kd.R_grown R6.out n1_.out (fun k (hk : N ≤ k) e => by injection e with e; have := HG5.out; omega)); have n3_ := zM (HS.out.growT n1_.out (fun b hb => .inr (Kd.R_base R5.out b (by injection hb with hb; rw [← hb]; simp [Value.ownBlock]))) (fun b hb => Kd.R_typed R5.out b (by injection hb with hb; rw [← hb]; simp [Value.ownBlock])) rfl); clear HS R5 R6 n1_; have HS := n3_; have R5 := n0_; have R6 := n2_; clear n0_ n2_ n3_; (try clear z0 z1); obtain ⟨z0, z1⟩ := HS.out.cells2 0 rfl) | ((with_reducible refine gS 4 78 rfl ?_); refine bool_store rfl rfl (.tmp 78) _ rfl pp rfl rfl (by kernel_rfl) R6.out hdi ?_; intro w12 n0_ n1_; have n2_ := zM (Kd.R_grown R5.out n1_.out (fun k (hk : k < N) e => by injection e with e; have := HG6.out; omega)); have n3_ := zM (HS.out.growT n1_.out (fun b hb => .inr (Kd.R_base R6.out b (by injection hb with hb; rw [← hb]; simp [Value.ownBlock]))) (fun b hb => Kd.R_typed R6.out b (by injection hb with hb; rw [← hb]; simp [Value.ownBlock])) rfl); clear HS R6 R5 n1_; have HS := n3_; have R6 := n0_; have R5 := n2_; clear n0_ n2_ n3_; (try clear z0 z1); obtain ⟨z0, z1⟩ := HS.out.cells2 0 rfl))
    go_roundg k3
    case measure => have := HX.out.1; omega
    case rel => exact ⟨j + 1, _, by first | rfl | rw [HW10.out], ⟨by have := HX.out.1; omega, HL2.out, by have := HX.out.2.2; rw [HM.out] at this; exact this⟩, R5, R6, HS⟩
theorem useFrom_step (l : List S37) (bs : List Bool) (d i : Nat) (p : Nat × Nat) (hi : i < l.length) : useFrom l bs (d + 1) i p = useFrom l bs d (i + 1) (if bs.getD i false = true then (p.1 + l[i].f5.size, p.2 + 1) else p) := by rw [useFrom, iAt_eq l i hi]
theorem usageS_any (nx : Int) (A : Option Addr) (c : Nat) (l : List S37) (id : Int) (w : World) (hr : Kd.C k37 w A l.length l) (hc : l.length ≤ c) (hs : volSmall l) :
  Calls Tryz.prog 77 #[.agg #[.int .i64 nx, .slice A l.length c], .int .i64 id] w fun e w' => e = .returned (.tuple #[.int .i64 (((useS l id).1 : Nat) : Int), .int .i64 (((useS l id).2 : Nat) : Int)]) ∧ Below w.heap.size w w' := by
 have hu26 := Tryz.underlying26
 have hu37 := Tryz.underlying37
 have hm : l.length ≤ 1048576 := hs.1
 have hC := zM hr
 have HBl := zM (fun (W : World) (hW : w.grownBy W none) => belowS_any nx A c l id W (Kd.C_below hr (below_grown hW)) hc hs)
 have HSm := zM hs
 have HS := zM (St.start w none)
 have HU := zM (show useFrom l (belowBits l id) l.length 0 (0, 0) = useS l id from rfl)
 have HBL := zM (belowBits_len l id)
 generalize useS l id = U at HU ⊢
 generalize belowBits l id = bs at HU HBl HBL
 clear hr hc hs
 go_enter Tryz.func77, Tryz.ntmps77
 go_wp2_with (first | ((with_reducible refine gD 2 rfl ?_); refine sB #[.int .i64 nx, .slice A l.length c] 26 HS ?_; clear HS; intro g2 w2 HS _; obtain ⟨z0, z1⟩ := HS.out.cells2 0 rfl) | (go_at_call 50; refine (HBl.out _ HS.out.grown).mono ?_; rintro e w4 ⟨v6, rfl, hR, hb⟩; obtain ⟨A7, c7, rfl⟩ := Kd.R_slice hR; rw [HBL.out] at hR ⊢; have R6 := zM hR; replace HS := zM (HS.out.call hb); clear hR hb z0 z1; obtain ⟨z0, z1⟩ := HS.out.cells2 0 rfl))
 go_loopg [7, 8, 9] l.length (fun kq v7 v8 v9 w' => ∃ (i a b : Nat), v7 = .int .i64 (a : Int) ∧ v8 = .int .i64 (b : Int) ∧ v9 = .int .i64 (i : Int) ∧ Aside0 (i + kq = l.length ∧ useFrom l bs kq i (a, b) = U ∧ a ≤ i * 1048576 ∧ b ≤ i) ∧ Aside0 (w' = w4))
 case atStart => exact ⟨0, 0, 0, rfl, rfl, rfl, ⟨by simp, HU.out, by omega, by omega⟩, ⟨rfl⟩⟩
 case round =>
  obtain ⟨i, a, b, rfl, rfl, rfl, HX, HW⟩ := hrel
  obtain ⟨w7, hw_⟩ : ∃ q, q = wr := ⟨_, rfl⟩
  subst hw_
  have e4 := HW.out
  subst e4
  have ha : a ≤ 2000000000000 := by have h1 := HX.out.2.2.1; have h2 := HX.out.1; omega
  by_cases hil : i < l.length
  case neg =>
   cases gk with
   | succ k1 => have := HX.out.1; omega
   | zero =>
   go_wp2
   go_ret2
   exact ⟨by rw [← HX.out.2.1]; rfl, below_grown HS.out.grown⟩
  cases gk with
  | zero => have := HX.out.1; omega
  | succ k1 =>
  have hili : (i : Int) < (l.length : Int) := by omega
  have HW1 := zM (show wrap64 ((i : Int) + 1) = ((i + 1 : Nat) : Int) from by rw [w64 (by omega) (by omega)]; omega)
  have HW2 := zM (show wrap64 ((b : Int) + 1) = ((b + 1 : Nat) : Int) from by have := HX.out.2.2.2; rw [w64 (by omega) (by omega)]; omega)
  have HX2 := zM (show useFrom l bs k1 (i + 1) (if bs.getD i false = true then (a + l[i].f5.size, b + 1) else (a, b)) = U from by rw [← useFrom_step l bs k1 i (a, b) hil]; exact HX.out.2.1)
  obtain ⟨ad6, eA6, ho⟩ := Kd.at_bool (Kd.R_reads' R6.out).2.2 (i : Int) (by omega) (by have := HBL.out; omega)
  subst eA6
  rw [rdB, Int.toNat_natCast] at ho
  cases hob : bs.getD i false
  case false =>
   have ha2 : a ≤ (i + 1) * 1048576 := Nat.le_trans HX.out.2.2.1 (Nat.mul_le_mul_right _ (Nat.le_succ i))
   have hb2 : b ≤ i + 1 := by have := HX.out.2.2.2; omega
   have HA2 := zM (And.intro ha2 hb2)
   clear ha2 hb2
   rw [hob] at ho
   rw [hob, if_neg (by simp)] at HX2
   go_wp2
   go_roundg k1
   case measure => have := HX.out.1; omega
   case rel => exact ⟨i + 1, a, b, rfl, rfl, by first | rw [HW1.out] | rfl | (congr 1; omega), ⟨by have := HX.out.1; omega, HX2.out, HA2.out.1, HA2.out.2⟩, ⟨rfl⟩⟩
  rw [hob] at ho
  rw [hob, if_pos rfl] at HX2
  obtain ⟨ad, A6, c6', rfl, hx, -⟩ := ino_C hC.out i hil
  have h5 : l[i].f5.size ≤ 1048576 := HSm.out.2.2.1 _ (List.getElem_mem hil)
  generalize l[i] = x at hx h5 HX2
  have ha2 : a + x.f5.size ≤ (i + 1) * 1048576 := by have := HX.out.2.2.1; omega
  have hb2 : b + 1 ≤ i + 1 := by have := HX.out.2.2.2; omega
  have HA2 := zM (And.intro ha2 hb2)
  clear ha2 hb2
  have HW3 := zM (show wrap64 ((a : Int) + (x.f5.size : Int)) = ((a + x.f5.size : Nat) : Int) from by rw [w64 (by omega) (by omega)]; omega)
  obtain ⟨hx0, hx1, hx2, hx3, hx4, hx5, hx6, hx7, hx8⟩ := hx.keep HS.out.grown
  clear hx
  go_wp2
  go_roundg k1
  case measure => have := HX.out.1; omega
  case rel => exact ⟨i + 1, a + x.f5.size, b + 1, by first | rw [HW3.out] | rfl | (congr 1; omega), by first | rw [HW2.out] | rfl | (congr 1; omega), by first | rw [HW1.out] | rfl | (congr 1; omega), ⟨by have := HX.out.1; omega, HX2.out, HA2.out.1, HA2.out.2⟩, ⟨rfl⟩⟩
theorem overS_any (nx : Int) (A : Option Addr) (c : Nat) (l : List S37) (w : World) (hr : Kd.C k37 w A l.length l) (hc : l.length ≤ c) (hs : volSmall l) :
  Calls Tryz.prog 53 #[.agg #[.int .i64 nx, .slice A l.length c]] w fun e w' => e = .returned (.bool (overFrom l l.length 0)) ∧ Below w.heap.size w w' := by
 have hu26 := Tryz.underlying26
 have hu37 := Tryz.underlying37
 have hm : l.length ≤ 1048576 := hs.1
 have hC := zM hr
 have HUs := zM (fun (W : World) (q : Int) (hW : w.grownBy W none) => usageS_any nx A c l q W (Kd.C_below hr (below_grown hW)) hc hs)
 have HSm := zM hs
 have HS := zM (St.start w none)
 clear hr hc hs
 obtain ⟨OV, hOV⟩ : ∃ q, q = overFrom l l.length 0 := ⟨_, rfl⟩
 rw [← hOV]
 have HOV := zM hOV
 clear hOV
 go_enter Tryz.func53, Tryz.ntmps53
 go_wp2_with (first | ((with_reducible refine gD 1 rfl ?_); refine sB #[.int .i64 nx, .slice A l.length c] 26 HS ?_; clear HS; intro g1 w1 HS _; obtain ⟨z0, z1⟩ := HS.out.cells2 0 rfl))
 go_loopg [3] l.length (fun kq v3 w' => ∃ i : Nat, v3 = .int .i64 (i : Int) ∧ Aside0 (i + kq = l.length ∧ overFrom l kq i = OV) ∧ Aside0 (St w none w' [(g1, 26, #[.int .i64 nx, .slice A l.length c])]))
 case atStart => exact ⟨0, rfl, ⟨by simp, HOV.out.symm⟩, HS⟩
 case round =>
  clear HS z0 z1 HOV
  obtain ⟨i, rfl, HX, HS⟩ := hrel
  obtain ⟨w3, hw_⟩ : ∃ q, q = wr := ⟨_, rfl⟩
  subst hw_
  obtain ⟨z0, z1⟩ := HS.out.cells2 0 rfl
  by_cases hil : i < l.length
  case neg =>
   cases gk with
   | succ k1 => have := HX.out.1; omega
   | zero =>
   go_wp2
   go_ret
   exact ⟨by rw [← HX.out.2]; rfl, below_grown HS.out.grown⟩
  cases gk with
  | zero => have := HX.out.1; omega
  | succ k1 =>
  have hili : (i : Int) < (l.length : Int) := by omega
  have HW1 := zM (show wrap64 ((i : Int) + 1) = ((i + 1 : Nat) : Int) from by rw [w64 (by omega) (by omega)]; omega)
  have HX2 := zM (show (overAtS l l[i] || overFrom l k1 (i + 1)) = OV from by rw [← HX.out.2, overFrom, iAt_eq l i hil])
  obtain ⟨ad, A6, c6', rfl, hx, -⟩ := ino_C hC.out i hil
  generalize l[i] = x at hx HX2
  obtain ⟨hx0, hx1, hx2, hx3, hx4, hx5, hx6, hx7, hx8⟩ := hx.keep HS.out.grown
  have HXi := zM HX.out.1
  clear hx HX
  go_upto_region 5 with (first | ((with_reducible refine gD 4 rfl ?_); refine sB #[.int .i64 0, .int .i64 0, .int .i64 0, .int .i64 0, .int .i64 0, .string ⟨#[]⟩, .slice none 0 0, .int .i64 0, .int .i64 0] 37 HS ?_; clear HS; intro g4 w4 HS _; obtain ⟨y0, y1, y2, y3, y4, y5, y6, y7, y8⟩ := HS.out.cells9 0 rfl) | ((with_reducible refine gS 37 4 rfl ?_); refine sS 0 [.int .i64 x.f0, .int .i64 x.f1, .int .i64 x.f2, .int .i64 x.f3, .int .i64 x.f4, .string x.f5, .slice A6 x.f6.length c6', .int .i64 x.f7, .int .i64 x.f8] HS ?_; clear HS; intro w5 HS _))
  (try clear z0 z1 y0 y1 y2 y3 y4 y5 y6 y7 y8)
  clear hx0 hx1 hx2 hx3 hx4 hx5 hx6 hx7 hx8
  obtain ⟨w6, hw_⟩ : ∃ q, q = w5 := ⟨_, rfl⟩
  subst hw_
  obtain ⟨y0, y1, y2, y3, y4, y5, y6, y7, y8⟩ := HS.out.cells9 0 rfl; obtain ⟨z0, z1⟩ := HS.out.cells2 1 rfl
  cases c1 : (x.f1 != 2)
  case true =>
   have ho : overAtS l x = false := by unfold overAtS; rw [show (x.f1 == 2) = false from by simpa using c1]; rfl
   rw [ho, Bool.false_or] at HX2
   go_wp2
   go_roundg k1
   case measure => have := HXi.out; omega
   case rel => exact ⟨i + 1, by first | rfl | rw [HW1.out], ⟨by have := HXi.out; omega, HX2.out⟩, ⟨HS.out.tail⟩⟩
  have hk2 : (x.f1 == 2) = true := by simpa using c1
  cases c7 : (x.f7 == 0) <;> cases c8 : (x.f8 == 0)
  case true.true =>
   have ho : overAtS l x = false := by unfold overAtS; rw [c7, c8]; simp
   rw [ho, Bool.false_or] at HX2
   go_wp2
   go_roundg k1
   case measure => have := HXi.out; omega
   case rel => exact ⟨i + 1, by first | rfl | rw [HW1.out], ⟨by have := HXi.out; omega, HX2.out⟩, ⟨HS.out.tail⟩⟩
  all_goals
   obtain ⟨⟨ub, un⟩, hU⟩ : ∃ q, q = useS l x.f0 := ⟨_, rfl⟩
   have ho : overAtS l x = overV x.f7 x.f8 (ub : Int) (un : Int) := by unfold overAtS; rw [hk2, c7, c8, ← hU]; simp
   rw [ho] at HX2
   have HU := zM hU
   clear ho hU
   obtain ⟨ov, hov⟩ : ∃ q, q = overV x.f7 x.f8 (ub : Int) (un : Int) := ⟨_, rfl⟩
   rw [← hov] at HX2
   have HOv := zM hov
   clear hov
   go_upto_region 7 with (first | (go_at_call 77; refine (HUs.out _ x.f0 HS.out.grown).mono ?_; rintro e w8 ⟨rfl, hb⟩; rw [← HU.out]; replace HS := zM (HS.out.call hb); clear hb; clear z0 z1 y0 y1 y2 y3 y4 y5 y6 y7 y8))
   try simp only [Act.put, List.setIfInBounds_toArray, List.set_cons_zero, List.set_cons_succ]
   go_cut [58] (fun v_ w' => v_ = .bool ov ∧ w8 = w')
   case first =>
    obtain ⟨y0, y1, y2, y3, y4, y5, y6, y7, y8⟩ := HS.out.cells9 0 rfl
    by_cases p1 : (0 : Int) < x.f7 <;> by_cases p2 : x.f7 < (ub : Int) <;> by_cases p3 : (0 : Int) < x.f8 <;> by_cases p4 : x.f8 < (un : Int)
    all_goals
     go_wp2
     go_meet
     case rel => exact ⟨by rw [HOv.out]; unfold overV; simp [p1, p2, p3, p4], rfl⟩
   case rest =>
    obtain ⟨rfl, e8⟩ := hcut
    subst e8
    cases ov
    case true =>
     go_wp2
     go_ret
     exact ⟨by rw [← HX2.out]; rfl, below_grown HS.out.grown⟩
    rw [Bool.false_or] at HX2
    go_wp2
    go_roundg k1
    case measure => have := HXi.out; omega
    case rel => exact ⟨i + 1, by first | rfl | rw [HW1.out], ⟨by have := HXi.out; omega, HX2.out⟩, ⟨HS.out.tail⟩⟩
end Go.Proofs.YtiopcpkfjikfdaaGreatDoor.PFnClean
