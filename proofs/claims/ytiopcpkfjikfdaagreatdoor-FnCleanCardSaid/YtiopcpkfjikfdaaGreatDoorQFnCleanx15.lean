import Derived.Test.YtiopcpkfjikfdaaGreatDoorQFnCleanx14
set_option maxHeartbeats 8000000
set_option maxRecDepth 100000
namespace Go.Proofs.YtiopcpkfjikfdaaGreatDoor.PFnClean
open Go.RowKit Go.Proofs.YtiopcpkfjikfdaaGreatDoorW.PrintWords Go.Proofs.YtiopcpkfjikfdaaGreatDoorW.PrintLast Go.Proofs.YtiopcpkfjikfdaaGreatDoorW.PrintMore
attribute [local go_sem] max2_int min2_int max_two min_two max_three min_three max_four min_four   -- for this text's walks alone
set_option linter.unusedVariables false
set_option linter.unusedSimpArgs false
section
open Go.Proofs.YtiopcpkfjikfdaaGreatDoor.Mth Go.Proofs.YtiopcpkfjikfdaaGreatDoor.Str
def spotV (s : Spot4) : Value := .agg #[.int .i64 s.1, .string s.2.1, .int .i64 s.2.2.1, .int .i64 s.2.2.2]
def walkS_T20 : Bool × List (List Nat × List Nat) := (true, [([], []), ([0], [0]), ([], []), ([], []), ([2, 3], [2, 3]), ([1, 4], [1, 4]), ([5], [5]), ([], []), ([7, 6, 4, 0, 1, 2, 3, 4, 5, 6, 7], [6, 7])])
def walkS_B20 : List Nat := [0, 1, 0, 0, 12, 31, 63, 0, 255]
theorem walkS_tab20 : rtab .any (opsOf Tryz.f22 20) = walkS_T20 := by kernel_rfl
theorem walkS_bits20 : waitsOk walkS_T20.2 walkS_B20 = true := by kernel_rfl
theorem walkS_any (nx : Int) (A : Option Addr) (c : Nat) (l : List S37) (u g : Int) (Ag : Option Addr) (cg : Nat) (gs : List Int) (path : ByteArray) (fol : Bool) (w : World) (hr : Kd.C k37 w A l.length l) (hc : l.length ≤ c) (hs : volSmall l) (hw : WfV l)
  (hg : Kd.C (Kd.int .i64) w Ag gs.length gs) (hcg : gs.length ≤ cg) (hp : path.size ≤ 1048576) :
  Calls Tryz.prog 22 #[.agg #[.int .i64 nx, .slice A l.length c], .agg #[.int .i64 u, .int .i64 g, .slice Ag gs.length cg], .string path, .bool fol] w fun e w' => e = .returned (spotV (walkV l (mayX u g gs 1) path fol)) ∧ Below w.heap.size w w' := by
 have hu41 := Tryz.underlying33
 have hu29 := Tryz.underlying26
 have hu45 := Tryz.underlying37
 have hu47 := Tryz.underlying29
 have hm := hr.2.1
 have HL := zM (And.intro hr (And.intro hc (And.intro hs hw)))
 have HG := zM (And.intro hg hcg)
 have HB := zM (Below.refl w.heap.size w)
 have HE := zM (show walkV l (mayX u g gs 1) path fol = walkF l (mayX u g gs 1) fol (mW 0 (piecesB path)) 1 0 (piecesB path) from rfl)
 generalize walkV l (mayX u g gs 1) path fol = R at HE ⊢
 generalize hmay : mayX u g gs 1 = may at HE
 have HMS := zM (fun (x : S37) (A6 : Option Addr) (c6 : Nat) (W : World) (hW : Below w.heap.size w W) (h6 : Kd.C k59 W A6 x.f6.length x.f6) (hc6 : x.f6.length ≤ c6) => mayS_any u g Ag cg gs 1 x A6 c6 W (Kd.C_below hg hW) hcg h6 hc6)
 rw [hmay] at HMS
 have HPC := zM (fun W => cutS_any path hp W)
 have HTS := zM (pieces_le path hp)
 generalize piecesB path = ts at HE HPC HTS
 obtain ⟨M, hM⟩ : ∃ M, M = mW 0 ts := ⟨_, rfl⟩
 have HM := zM hM
 clear hr hc hs hw hg hcg hp hmay hM
 go_enter Tryz.func22, Tryz.ntmps22
 go_wp2_with (first | ((with_reducible refine gate_dst (N := 4) rfl ?_); refine box_event ?h4g (N := 4) ?h4d (cs := #[.int .i64 nx, .slice A l.length c]) (t := 26) ?h4r ?_; (case h4d => rfl); (case h4g => rfl); (case h4r => first | (go_simp; done) | (go_simp; rfl)); intro g4 hg w4 hbox hb; have B4 := zM hbox; have n0_ := zM (zP HB.out hb); clear HB; have HB := n0_; clear n0_; clear hg hb hbox) | ((with_reducible refine gate_dst (N := 5) rfl ?_); refine box_event ?h5g (N := 5) ?h5d (cs := #[.int .i64 u, .int .i64 g, .slice Ag gs.length cg]) (t := 29) ?h5r ?_; (case h5d => rfl); (case h5g => rfl); (case h5r => first | (go_simp; done) | (go_simp; rfl)); intro g5 hg w5 hbox hb; have B5 := zM hbox; have n1_ := zM (zL B4.out hb); have n0_ := zM (zP HB.out hb); clear HB B4; have HB := n0_; have B4 := n1_; clear n0_ n1_; clear hg hb hbox) | ((with_reducible refine gate_dst (N := 8) rfl ?_); refine box_event ?h8g (N := 8) ?h8d (cs := #[.int .i64 0, .string ⟨#[]⟩, .int .i64 0, .int .i64 0]) (t := 33) ?h8r ?_; (case h8d => rfl); (case h8g => rfl); (case h8r => first | (go_simp; done) | (go_simp; rfl)); intro g8 hg w8 hbox hb; have B8w := zM hbox; have HB8 := zM (zP HB.out hb); have G8 := zM (show w.heap.size ≤ g8 by rw [hg]; exact HB.out.size); have n1_ := zM (zL B4.out hb); have n2_ := zM (zL B5.out hb); have n0_ := zM (zP HB.out hb); clear HB B4 B5; have HB := n0_; have B4w := n1_; have B5w := n2_; clear n0_ n1_ n2_; clear hg hb hbox) | (go_at_call 55; refine (HPC.out _).mono ?_; rintro e w9 ⟨v9, rfl, hR, hb⟩; obtain ⟨A9, c9, rfl, hc9, hC9⟩ := Kd.R_reads hR; have HW := zM hb; have HT := zM (And.intro hc9 hC9); have n0_ := zM (zH HB.out HB.out.size hb); clear HB hR hb hc9 hC9; have HB := n0_; clear n0_))
 rw [← HM.out] at HE
 go_loopg [9, 10, 11] M (fun kq v9 v10 v11 w' => ∃ (t : List ByteArray) (v : Int) (n : Nat) (A9 : Option Addr) (c9 : Nat), v9 = .slice A9 t.length c9 ∧ v10 = .int .i64 v ∧ v11 = .int .i64 (n : Int) ∧ Aside0 (R = walkF l may fol kq v n t ∧ mW n t ≤ kq ∧ n ≤ 8 ∧ inoI l v < l.length) ∧ Aside0 (t.length ≤ c9 ∧ Kd.C Kd.string w' A9 t.length t) ∧ Aside0 (Below w.heap.size w w') ∧ Aside0 (Below w8.heap.size w8 w') ∧ Aside0 (t.length ≤ 1048577))
 case atStart => exact ⟨ts, 1, 0, A9, c9, rfl, rfl, rfl, ⟨HE.out, by rw [HM.out]; exact Nat.le_refl _, by omega, HL.out.2.2.2.root⟩, HT, HB, HW, HTS⟩
 case round =>
  clear HB HW HE HT HPC HM HTS
  obtain ⟨t, v, n, A9, c9, rfl, rfl, rfl, HX, HT, HB, HW, HQ⟩ := hrel
  have hm9 := HT.out.2.2.1
  cases t with
  | nil =>
   have HRv := zM (show R = (0, ⟨#[]⟩, v, 0) from by rw [HX.out.1]; cases gk <;> rfl)
   have hl0 : ([] : List ByteArray).length = 0 := rfl
   have B8 := zM (zL B8w.out HW.out)
   have z0 : World.cell? wr ⟨g8, 0, none⟩ = some (.int .i64 0) := (zC B8.out 0).trans rfl
   have z1 : World.cell? wr ⟨g8, 1, none⟩ = some (.string ⟨#[]⟩) := (zC B8.out 1).trans rfl
   have z2 : World.cell? wr ⟨g8, 2, none⟩ = some (.int .i64 0) := (zC B8.out 2).trans rfl
   have z3 : World.cell? wr ⟨g8, 3, none⟩ = some (.int .i64 0) := (zC B8.out 3).trans rfl
   have f0 := zF B8.out 0
   have f1 := zF B8.out 1
   have f2 := zF B8.out 2
   have f3 := zF B8.out 3
   go_wp2_with ((with_reducible refine gate_store (t := 33) (p := 8) rfl ?_); refine store_event (t := 33) (p := 8) (v := ?vo1) (w1 := World.setCell (World.setCell (World.setCell (World.setCell wr ⟨g8, 0, none⟩ (.int .i64 (0))) ⟨g8, 1, none⟩ (.string (⟨#[]⟩ : ByteArray))) ⟨g8, 2, none⟩ (.int .i64 (v))) ⟨g8, 3, none⟩ (.int .i64 (0))) ?sg1 ?so1 ?sn1 ?sr1 ?_; (case so1 => rfl); (case sg1 => rfl); (case sn1 => rfl); (case sr1 => first | (go_simp; done) | (go_simp; rfl)); intro W2 hw; have F := zM hw; clear hw)
   have h2 := spot_put (0) (v) (0) (⟨#[]⟩ : ByteArray) HB.out G8.out B8.out
   rw [← F.out] at h2
   refine bodyPost_ret (results_cell_row rfl _ _ g8 33 #[.int .i64 (0), .string (⟨#[]⟩ : ByteArray), .int .i64 (v), .int .i64 (0)] (0, 0) _ rfl h2.1 Tryz.underlying33 rfl (by kernel_rfl)) rfl ?_
   exact ⟨by rw [HRv.out]; rfl, h2.2⟩
  | cons p t =>
   cases gk with
   | zero => have := HX.out.2.1; unfold mW at this; omega
   | succ k1 =>
   obtain ⟨A1, c1, ls, els, hc1, hrun, hC1⟩ := cutT A9 c9 (p :: t) (by simp) HT.out.1
   obtain rfl : ls = t := els
   have HT1 := zM (And.intro hc1 (hC1 wr HT.out.2))
   obtain ⟨ad9, e9, hp0⟩ := Kd.at_string HT.out.2 0 (by omega) (by first | (simp; done) | (simp; omega))
   subst e9
   replace hp0 : wr.cell? ad9 = some (.string p) := hp0
   clear HT hC1 hc1
   generalize hm : (p :: ls).length = m at hrun hm9 ⊢
   have hm0 : 0 < m := by rw [← hm]; simp
   have hm0i : (0 : Int) < (m : Int) := by omega
   clear hm
   obtain ⟨i, hi⟩ : ∃ i, i = inoI l v := ⟨_, rfl⟩
   have hil : i < l.length := by have := HX.out.2.2.2; omega
   have hili : (i : Int) < (l.length : Int) := by omega
   have e : atV l v = (i : Int) := by unfold atV; rw [if_pos HX.out.2.2.2, hi]
   obtain ⟨ad, A6, c6, eA, hx0, hx1, hx2, hx3, hx4, hx5, hx6, hx7, hx8, hc6, hR6⟩ := at_T37 (Kd.C_below HL.out.1 HB.out) (i : Int) (by omega) hili
   rw [Int.toNat_natCast, rd45 l i hil] at hx0 hx1 hx2 hx3 hx4 hx5 hx6 hx7 hx8
   rw [rd45 l i hil] at hc6 hR6
   subst eA
   have HIx := zM (show iAt l (inoI l v) = l[i] from by rw [← hi, iAt_eq l i hil])
   have HA7 := zM (fun y : Grow wr => by have q := atS_any nx (some ad) c l v y.W (Kd.C_below HL.out.1 (zH HB.out HB.out.size y.hb)) HL.out.2.1 HL.out.2.2.1; rw [e] at q; exact q)
   have HM7 := zM (fun y : Grow wr => HMS.out l[i] A6 c6 y.W (zH HB.out HB.out.size y.hb) (Kd.C_below hR6 y.hb) hc6)
   generalize l[i] = x at HIx HM7 hx0 hx1 hx2 hx3 hx4 hx5 hx6 hx7 hx8
   generalize hb : may x = b at HM7
   have Hb := zM hb
   clear hb hR6 hc6 e hi
   have B4 := zM (zL B4w.out HW.out)
   have B5 := zM (zL B5w.out HW.out)
   have hy0 := fun y : Grow wr => y.cell hx0
   have hy1 := fun y : Grow wr => y.cell hx1
   have hy2 := fun y : Grow wr => y.cell hx2
   have hy3 := fun y : Grow wr => y.cell hx3
   have hy4 := fun y : Grow wr => y.cell hx4
   have hy5 := fun y : Grow wr => y.cell hx5
   have hy6 := fun y : Grow wr => y.cell hx6
   have hy7 := fun y : Grow wr => y.cell hx7
   have hy8 := fun y : Grow wr => y.cell hx8
   have hv0 : ∀ y : Grow wr, y.W.cell? ⟨g4, 0, none⟩ = some (.int .i64 nx) := fun y => y.cell ((zC B4.out 0).trans rfl)
   have hv1 : ∀ y : Grow wr, y.W.cell? ⟨g4, 1, none⟩ = some (.slice (some ad) l.length c) := fun y => y.cell ((zC B4.out 1).trans rfl)
   have hu0 : ∀ y : Grow wr, y.W.cell? ⟨g5, 0, none⟩ = some (.int .i64 u) := fun y => y.cell ((zC B5.out 0).trans rfl)
   have hu1 : ∀ y : Grow wr, y.W.cell? ⟨g5, 1, none⟩ = some (.int .i64 g) := fun y => y.cell ((zC B5.out 1).trans rfl)
   have hu2 : ∀ y : Grow wr, y.W.cell? ⟨g5, 2, none⟩ = some (.slice Ag gs.length cg) := fun y => y.cell ((zC B5.out 2).trans rfl)
   clear hx0 hx1 hx2 hx3 hx4 hx5 hx6 hx7 hx8
   go_wp2
   refine wp_region_grow (by kernel_rfl) (by kernel_rfl) ?_
   repeat (go_big_quiet_step (first | (go_at_call 31; exact grow_call (HA7.out _)) | (go_at_call 56; exact grow_call (HM7.out _))))
   refine wpQuiet_nil ?_
   rintro _ ⟨yw, rfl⟩
   have n0_ := zM (zH HB.out HB.out.size yw.hb)
   have n1_ := zM (zH HW.out HW.out.size yw.hb)
   have n2_ := zM (And.intro HT1.out.1 (Kd.C_below HT1.out.2 yw.hb))
   generalize yw.W = wy at n0_ n1_ n2_ ⊢
   clear HB HW HT1 hp0 hy0 hy1 hy2 hy3 hy4 hy5 hy6 hy7 hy8 hv0 hv1 hu0 hu1 hu2 HA7 HM7 hrun B4 B5
   have HB := n0_
   have HW := n1_
   have HT := n2_
   clear n0_ n1_ n2_
   cases b with
   | false =>
    have HRv := zM (show R = (0, ⟨#[]⟩, 0, 13) from by rw [HX.out.1, wf_acc (by rw [HIx.out]; exact Hb.out)]; rfl)
    have B8 := zM (zL B8w.out HW.out)
    have z0 : World.cell? wy ⟨g8, 0, none⟩ = some (.int .i64 0) := (zC B8.out 0).trans rfl
    have z1 : World.cell? wy ⟨g8, 1, none⟩ = some (.string ⟨#[]⟩) := (zC B8.out 1).trans rfl
    have z2 : World.cell? wy ⟨g8, 2, none⟩ = some (.int .i64 0) := (zC B8.out 2).trans rfl
    have z3 : World.cell? wy ⟨g8, 3, none⟩ = some (.int .i64 0) := (zC B8.out 3).trans rfl
    have f0 := zF B8.out 0
    have f1 := zF B8.out 1
    have f2 := zF B8.out 2
    have f3 := zF B8.out 3
    go_wp2_with ((with_reducible refine gate_store (t := 33) (p := 8) rfl ?_); refine store_event (t := 33) (p := 8) (v := ?vo2) (w1 := World.setCell (World.setCell (World.setCell (World.setCell wy ⟨g8, 0, none⟩ (.int .i64 (0))) ⟨g8, 1, none⟩ (.string (⟨#[]⟩ : ByteArray))) ⟨g8, 2, none⟩ (.int .i64 (0))) ⟨g8, 3, none⟩ (.int .i64 (13))) ?sg2 ?so2 ?sn2 ?sr2 ?_; (case so2 => rfl); (case sg2 => rfl); (case sn2 => rfl); (case sr2 => first | (go_simp; done) | (go_simp; rfl)); intro W2 hw; have F := zM hw; clear hw)
    have h2 := spot_put (0) (0) (13) (⟨#[]⟩ : ByteArray) HB.out G8.out B8.out
    rw [← F.out] at h2
    refine bodyPost_ret (results_cell_row rfl _ _ g8 33 #[.int .i64 (0), .string (⟨#[]⟩ : ByteArray), .int .i64 (0), .int .i64 (13)] (0, 0) _ rfl h2.1 Tryz.underlying33 rfl (by kernel_rfl)) rfl ?_
    exact ⟨by rw [HRv.out]; rfl, h2.2⟩
   | true =>
    have hmt : ¬ may (iAt l (inoI l v)) = false := by rw [HIx.out, Hb.out]; simp
    have HP1 := zM (dot_iff p)
    have HP2 := zM (dots_iff p)
    clear HIx Hb
    by_cases h1 : p = ⟨#[46]⟩
    ·have hp1 := HP1.out.trans (zE h1)
     have HN := zM (HX.out.1.trans (wf_dot hmt h1))
     clear h1 HP1 HP2 hmt
     go_wp2
     go_roundg k1
     case measure => omega
     case rel => exact ⟨ls, v, n, A1, c1, rfl, rfl, rfl, ⟨HN.out, by have := HX.out.2.1; unfold mW at this ⊢; rw [List.length_cons] at this; omega, HX.out.2.2.1, HX.out.2.2.2⟩, HT, HB, HW, ⟨by have := HQ.out; rw [List.length_cons] at this; omega⟩⟩
    have hp1 := HP1.out.trans (zG h1)
    by_cases h2 : p = ⟨#[46, 46]⟩
    ·have hp2 := HP2.out.trans (zE h2)
     have HN := zM (HX.out.1.trans (wf_up hmt h1 h2))
     have B4 := zM (zL B4w.out HW.out)
     have hz0 : wy.cell? ⟨g4, 0, none⟩ = some (.int .i64 nx) := (zC B4.out 0).trans rfl
     have hz1 : wy.cell? ⟨g4, 1, none⟩ = some (.slice (some ad) l.length c) := (zC B4.out 1).trans rfl
     have HPA := zM (parS_any nx (some ad) c l v wy (Kd.C_below HL.out.1 HB.out) HL.out.2.1 HL.out.2.2.1)
     clear h1 h2 HP1 HP2 hmt
     go_wp2_with (go_at_call 57; refine HPA.out.mono ?_; rintro e w10 ⟨rfl, hb⟩; have n0_ := zM (zH HB.out HB.out.size hb); have n1_ := zM (zH HW.out HW.out.size hb); have n2_ := zM (And.intro HT.out.1 (Kd.C_below HT.out.2 hb)); clear HB HW HT B4 hz0 hz1 hb; have HB := n0_; have HW := n1_; have HT := n2_; clear n0_ n1_ n2_)
     go_roundg k1
     case measure => omega
     case rel => exact ⟨ls, _, n, A1, c1, rfl, rfl, rfl, ⟨HN.out, by have := HX.out.2.1; unfold mW at this ⊢; rw [List.length_cons] at this; omega, HX.out.2.2.1, HL.out.2.2.2.par v⟩, HT, HB, HW, ⟨by have := HQ.out; rw [List.length_cons] at this; omega⟩⟩
    have hp2 := HP2.out.trans (zG h2)
    by_cases h3 : 8 < p.size
    ·have h3i : (8 : Int) < (p.size : Int) := by omega
     have HRv := zM (show R = (0, ⟨#[]⟩, 0, 36) from by rw [HX.out.1, wf_long hmt h1 h2 h3]; rfl)
     clear h1 h2 HP1 HP2 hmt
     have B8 := zM (zL B8w.out HW.out)
     have z0 : World.cell? wy ⟨g8, 0, none⟩ = some (.int .i64 0) := (zC B8.out 0).trans rfl
     have z1 : World.cell? wy ⟨g8, 1, none⟩ = some (.string ⟨#[]⟩) := (zC B8.out 1).trans rfl
     have z2 : World.cell? wy ⟨g8, 2, none⟩ = some (.int .i64 0) := (zC B8.out 2).trans rfl
     have z3 : World.cell? wy ⟨g8, 3, none⟩ = some (.int .i64 0) := (zC B8.out 3).trans rfl
     have f0 := zF B8.out 0
     have f1 := zF B8.out 1
     have f2 := zF B8.out 2
     have f3 := zF B8.out 3
     go_wp2_with ((with_reducible refine gate_store (t := 33) (p := 8) rfl ?_); refine store_event (t := 33) (p := 8) (v := ?vo3) (w1 := World.setCell (World.setCell (World.setCell (World.setCell wy ⟨g8, 0, none⟩ (.int .i64 (0))) ⟨g8, 1, none⟩ (.string (⟨#[]⟩ : ByteArray))) ⟨g8, 2, none⟩ (.int .i64 (0))) ⟨g8, 3, none⟩ (.int .i64 (36))) ?sg3 ?so3 ?sn3 ?sr3 ?_; (case so3 => rfl); (case sg3 => rfl); (case sn3 => rfl); (case sr3 => first | (go_simp; done) | (go_simp; rfl)); intro W2 hw; have F := zM hw; clear hw)
     have h2 := spot_put (0) (0) (36) (⟨#[]⟩ : ByteArray) HB.out G8.out B8.out
     rw [← F.out] at h2
     refine bodyPost_ret (results_cell_row rfl _ _ g8 33 #[.int .i64 (0), .string (⟨#[]⟩ : ByteArray), .int .i64 (0), .int .i64 (36)] (0, 0) _ rfl h2.1 Tryz.underlying33 rfl (by kernel_rfl)) rfl ?_
     exact ⟨by rw [HRv.out]; rfl, h2.2⟩
    have h3i : ¬ (8 : Int) < (p.size : Int) := by omega
    have HN := zM (HX.out.1.trans (wf_rest hmt h1 h2 h3))
    have hv := HX.out.2.2.2
    have HS := zM (fun h0 => HL.out.2.2.2.step v p hv h0)
    have HPA := zM (lookS_any nx (some ad) c l v p wy (Kd.C_below HL.out.1 HB.out) HL.out.2.1 HL.out.2.2.1 hv)
    obtain ⟨id, hid⟩ : ∃ q, q = stepI l v p := ⟨_, rfl⟩
    have HI := zM hid
    rw [← hid] at HN HPA HS
    have B4 := zM (zL B4w.out HW.out)
    have hz0 : wy.cell? ⟨g4, 0, none⟩ = some (.int .i64 nx) := (zC B4.out 0).trans rfl
    have hz1 : wy.cell? ⟨g4, 1, none⟩ = some (.slice (some ad) l.length c) := (zC B4.out 1).trans rfl
    obtain ⟨lb, hlb⟩ : ∃ b, b = decide (ls = []) := ⟨_, rfl⟩
    have HLB := zM hlb
    have hq1 : ((ls.length : Int) == 0) = lb := by rw [hlb]; apply Bool.eq_iff_iff.2; cases ls <;> simp <;> omega
    have hq2 : decide ((ls.length : Int) = 0) = lb := by rw [hlb, decide_eq_decide]; cases ls <;> simp <;> omega
    clear h1 h2 h3 HP1 HP2 hmt hid hv hlb
    go_upto_region 16 with (go_at_call 58; refine HPA.out.mono ?_; rintro e w10 ⟨rfl, hb⟩; have n0_ := zM (zH HB.out HB.out.size hb); have n1_ := zM (zH HW.out HW.out.size hb); have n2_ := zM (And.intro HT.out.1 (Kd.C_below HT.out.2 hb)); clear HB HW HT B4 hz0 hz1 hb; have HB := n0_; have HW := n1_; have HT := n2_; clear n0_ n1_ n2_)
    by_cases h0 : id = 0
    ·have h0b : (id == 0) = true := by simpa using h0
     rw [if_pos h0] at HN
     clear h0
     cases lb with
     | true =>
      have HRv := zM (show R = (v, p, 0, 2) from by rw [HN.out, if_pos (zO HLB.out.symm)])
      have B8 := zM (zL B8w.out HW.out)
      have z0 : World.cell? w10 ⟨g8, 0, none⟩ = some (.int .i64 0) := (zC B8.out 0).trans rfl
      have z1 : World.cell? w10 ⟨g8, 1, none⟩ = some (.string ⟨#[]⟩) := (zC B8.out 1).trans rfl
      have z2 : World.cell? w10 ⟨g8, 2, none⟩ = some (.int .i64 0) := (zC B8.out 2).trans rfl
      have z3 : World.cell? w10 ⟨g8, 3, none⟩ = some (.int .i64 0) := (zC B8.out 3).trans rfl
      have f0 := zF B8.out 0
      have f1 := zF B8.out 1
      have f2 := zF B8.out 2
      have f3 := zF B8.out 3
      go_wp2_with ((with_reducible refine gate_store (t := 33) (p := 8) rfl ?_); refine store_event (t := 33) (p := 8) (v := ?vo4) (w1 := World.setCell (World.setCell (World.setCell (World.setCell w10 ⟨g8, 0, none⟩ (.int .i64 (v))) ⟨g8, 1, none⟩ (.string p)) ⟨g8, 2, none⟩ (.int .i64 (0))) ⟨g8, 3, none⟩ (.int .i64 (2))) ?sg4 ?so4 ?sn4 ?sr4 ?_; (case so4 => rfl); (case sg4 => rfl); (case sn4 => rfl); (case sr4 => first | (go_simp; done) | (go_simp; rfl)); intro W2 hw; have F := zM hw; clear hw)
      have h2 := spot_put (v) (0) (2) p HB.out G8.out B8.out
      rw [← F.out] at h2
      refine bodyPost_ret (results_cell_row rfl _ _ g8 33 #[.int .i64 (v), .string p, .int .i64 (0), .int .i64 (2)] (0, 0) _ rfl h2.1 Tryz.underlying33 rfl (by kernel_rfl)) rfl ?_
      exact ⟨by rw [HRv.out]; rfl, h2.2⟩
     | false =>
      have HRv := zM (show R = (0, ⟨#[]⟩, 0, 2) from by rw [HN.out, if_neg (of_decide_eq_false HLB.out.symm)]; rfl)
      have B8 := zM (zL B8w.out HW.out)
      have z0 : World.cell? w10 ⟨g8, 0, none⟩ = some (.int .i64 0) := (zC B8.out 0).trans rfl
      have z1 : World.cell? w10 ⟨g8, 1, none⟩ = some (.string ⟨#[]⟩) := (zC B8.out 1).trans rfl
      have z2 : World.cell? w10 ⟨g8, 2, none⟩ = some (.int .i64 0) := (zC B8.out 2).trans rfl
      have z3 : World.cell? w10 ⟨g8, 3, none⟩ = some (.int .i64 0) := (zC B8.out 3).trans rfl
      have f0 := zF B8.out 0
      have f1 := zF B8.out 1
      have f2 := zF B8.out 2
      have f3 := zF B8.out 3
      go_wp2_with ((with_reducible refine gate_store (t := 33) (p := 8) rfl ?_); refine store_event (t := 33) (p := 8) (v := ?vo5) (w1 := World.setCell (World.setCell (World.setCell (World.setCell w10 ⟨g8, 0, none⟩ (.int .i64 (0))) ⟨g8, 1, none⟩ (.string (⟨#[]⟩ : ByteArray))) ⟨g8, 2, none⟩ (.int .i64 (0))) ⟨g8, 3, none⟩ (.int .i64 (2))) ?sg5 ?so5 ?sn5 ?sr5 ?_; (case so5 => rfl); (case sg5 => rfl); (case sn5 => rfl); (case sr5 => first | (go_simp; done) | (go_simp; rfl)); intro W2 hw; have F := zM hw; clear hw)
      have h2 := spot_put (0) (0) (2) (⟨#[]⟩ : ByteArray) HB.out G8.out B8.out
      rw [← F.out] at h2
      refine bodyPost_ret (results_cell_row rfl _ _ g8 33 #[.int .i64 (0), .string (⟨#[]⟩ : ByteArray), .int .i64 (0), .int .i64 (2)] (0, 0) _ rfl h2.1 Tryz.underlying33 rfl (by kernel_rfl)) rfl ?_
      exact ⟨by rw [HRv.out]; rfl, h2.2⟩
    have h0b : (id == 0) = false := by simpa using h0
    rw [if_neg h0] at HN
    have hj := HS.out h0
    obtain ⟨j, hjj⟩ : ∃ j, j = inoI l id := ⟨_, rfl⟩
    have hjl : j < l.length := by omega
    have hjli : (j : Int) < (l.length : Int) := by omega
    have e : atV l id = (j : Int) := by unfold atV; rw [if_pos hj, hjj]
    obtain ⟨ad', A6x, c6x, eA, hx0, hx1, hx2, hx3, hx4, hx5, hx6, hx7, hx8, -, -⟩ := at_T37 (Kd.C_below HL.out.1 HB.out) (j : Int) (by omega) hjli
    obtain rfl : ad = ad' := by injection eA
    rw [Int.toNat_natCast, rd45 l j hjl] at hx0 hx1 hx2 hx3 hx4 hx5 hx6 hx7 hx8
    have HNd : nodeW l v p = l[j] := by unfold nodeW; rw [← HI.out, ← hjj, iAt_eq l j hjl]
    rw [HNd] at HN
    have HLk := zM (show l[j].f1 = 3 → 1 ≤ l[j].f5.size from HL.out.2.2.2.link _ (List.getElem_mem hjl))
    have HSz := zM (show l[j].f5.size ≤ 1048576 from HL.out.2.2.1.2.2.1 _ (List.getElem_mem hjl))
    have HA20 := zM (fun (W : World) (hW : Below w10.heap.size w10 W) => by have q := atS_any nx (some ad) c l id W (Kd.C_below HL.out.1 (zH HB.out HB.out.size hW)) HL.out.2.1 HL.out.2.2.1; rw [e] at q; exact q)
    have HJ := zM hj
    generalize l[j] = x2 at HN HLk HSz hx0 hx1 hx2 hx3 hx4 hx5 hx6 hx7 hx8
    clear HNd e hjj h0 HS eA hj
    have B4 := zM (zL B4w.out HW.out)
    have hz0 : w10.cell? ⟨g4, 0, none⟩ = some (.int .i64 nx) := (zC B4.out 0).trans rfl
    have hz1 : w10.cell? ⟨g4, 1, none⟩ = some (.slice (some ad) l.length c) := (zC B4.out 1).trans rfl
    go_wp2
    refine start_ (n := 9) (S := fun w' => Below w10.heap.size w10 w') (ds := []) #[false, false, false, false, false, false, false, false, false] (by kernel_rfl) rfl rfl (zD (Below.refl _ _)) (fun hHeld => ?_)
    refine with_tabW walkS_tab20 walkS_bits20 (fun HT_ HW_ => ?_)
    generalize w10.drew = wd at hHeld ⊢
    refine pure_ (i := 0) (N := some 62) (v := ?_) (a' := ?_) #[true, false, false, false, false, false, false, false, false] rfl rfl (any_of HT_.out (by kernel_rfl)) (fun _ _ _ h => h) (Or.inl ⟨by rfl, ?_⟩) ?_ ?_
    rotate_left
    ·intro w'
     go_simp
     with_reducible rfl
    rotate_left
    ·simp only [Act.put, List.setIfInBounds_toArray, List.set_cons_zero, List.set_cons_succ, i64_w, i32_w]
     rfl
    refine pure_ (i := 3) (N := some 65) (v := ?_) (a' := ?_) #[true, false, false, true, false, false, false, false, false] rfl rfl (any_of HT_.out (by kernel_rfl)) (fun _ _ _ h => h) (Or.inl ⟨by rfl, ?_⟩) ?_ ?_
    rotate_left
    ·intro w'
     go_simp
     with_reducible rfl
    rotate_left
    ·simp only [Act.put, List.setIfInBounds_toArray, List.set_cons_zero, List.set_cons_succ, i64_w, i32_w]
     rfl
    refine take_ (i := 1) (N := some 63) (v := ?_) (a' := ?_) #[true, true, false, true, false, false, false, false, false] rfl rfl (take_ofW HT_.out HW_.out (by kernel_rfl)) (fun _ _ _ h => h) (Or.inl ⟨by rfl, ?_⟩) hHeld ?_ ?_
    rotate_left
    ·intro w' hs'
     have s0 := pw_cell_below hs' hz1
     go_simp
     with_reducible rfl
    rotate_left
    ·simp only [Act.put, List.setIfInBounds_toArray, List.set_cons_zero, List.set_cons_succ, i64_w, i32_w]
     rfl
    refine take_ (i := 2) (N := some 64) (v := ?_) (a' := ?_) #[true, true, true, true, false, false, false, false, false] rfl rfl (take_ofW HT_.out HW_.out (by kernel_rfl)) (fun _ _ _ h => h) (Or.inl ⟨by rfl, ?_⟩) hHeld ?_ ?_
    rotate_left
    ·intro w' hs'
     have s0 := pw_cell_below hs' hz0
     have s1 := pw_cell_below hs' hz1
     go_simp
     with_reducible rfl
    rotate_left
    ·simp only [Act.put, List.setIfInBounds_toArray, List.set_cons_zero, List.set_cons_succ, i64_w, i32_w]
     rfl
    refine join_ (σ := Nat) 1 #[true, true, true, true, true, true, true, true, false] (fun s_ => [(66, .int .i64 (j : Int)), (15, .pointer (some ⟨s_, 0, none⟩)), (67, .pointer (some (ad.add (j * 9)))), (68, .agg #[.int .i64 x2.f0, .int .i64 x2.f1, .int .i64 x2.f2, .int .i64 x2.f3, .int .i64 x2.f4, .string x2.f5, .slice A6x x2.f6.length c6x, .int .i64 x2.f7, .int .i64 x2.f8])]) (fun s_ w' => Below w10.heap.size w10 w' ∧ w'.heap[s_]? = some (.cells #[.int .i64 0, .int .i64 0, .int .i64 0, .int .i64 0, .int .i64 0, .string (⟨#[]⟩ : ByteArray), .slice none 0 0, .int .i64 0, .int .i64 0] 37 (0, 0)) ∧ w10.heap.size ≤ s_) ?_ ?_
    rotate_left
    ·intro hCont
     refine two_ (i := 4) (j := 7) (Ni := some 66) (Nj := some 15) #[true, true, true, true, true, false, false, false, false] #[true, true, true, true, false, false, false, true, false] rfl rfl rfl rfl (two_of HT_.out (by kernel_rfl)) (by decide) (by decide) (fun K hK => ?_) (fun K hK => ?_)
     ·skip
      refine goes_ Tryz.func31 (by kernel_rfl) rfl #[.agg #[.int .i64 nx, .slice (some ad) l.length c], .int .i64 id] (by rfl) rfl rfl (by (try simp only [List.map_toArray, List.map_cons, List.map_nil]); first | done | rfl) ?_
      refine (HA20.out _ hHeld).mono ?_
      rintro e w83 ⟨rfl, hb⟩
      refine ⟨_, rfl, ?_⟩
      refine hK.out _ _ (zH hHeld hHeld.size hb) (fun hHeld => ?_)
      clear hK K
      refine norm_ (a' := ?_) ?_ ?_
      rotate_left
      ·show Act.put _ (some 66) _ = _
       simp only [Act.put, List.setIfInBounds_toArray, List.set_cons_zero, List.set_cons_succ, i64_w, i32_w]
       rfl
      refine pure_ (i := 5) (N := some 67) (v := ?_) (a' := ?_) #[true, true, true, true, true, true, false, false, false] rfl rfl (any_of HT_.out (by kernel_rfl)) (fun _ _ _ h => h) (Or.inl ⟨by rfl, ?_⟩) ?_ ?_
      rotate_left
      ·intro w'
       go_simp
       with_reducible rfl
      rotate_left
      ·simp only [Act.put, List.setIfInBounds_toArray, List.set_cons_zero, List.set_cons_succ, i64_w, i32_w]
       rfl
      refine take_ (i := 6) (N := some 68) (v := ?_) (a' := ?_) #[true, true, true, true, true, true, true, false, false] rfl rfl (take_ofW HT_.out HW_.out (by kernel_rfl)) (fun _ _ _ h => h) (Or.inl ⟨by rfl, ?_⟩) hHeld ?_ ?_
      rotate_left
      ·intro w' hs'
       have s0 := pw_cell_below hs' hx0
       have s1 := pw_cell_below hs' hx1
       have s2 := pw_cell_below hs' hx2
       have s3 := pw_cell_below hs' hx3
       have s4 := pw_cell_below hs' hx4
       have s5 := pw_cell_below hs' hx5
       have s6 := pw_cell_below hs' hx6
       have s7 := pw_cell_below hs' hx7
       have s8 := pw_cell_below hs' hx8
       go_simp
       with_reducible rfl
      rotate_left
      ·simp only [Act.put, List.setIfInBounds_toArray, List.set_cons_zero, List.set_cons_succ, i64_w, i32_w]
       rfl
      refine one_ (i := 7) (N := some 15) #[true, true, true, true, true, true, true, true, false] rfl rfl (one_of HT_.out (by kernel_rfl)) (by decide) (fun K hK => ?_)
      refine box_step ?bgw84 (N := 15) ?bdw84 (cs := #[.int .i64 0, .int .i64 0, .int .i64 0, .int .i64 0, .int .i64 0, .string (⟨#[]⟩ : ByteArray), .slice none 0 0, .int .i64 0, .int .i64 0]) (t := 37) ?brw84 ?_; (case bdw84 => rfl); (case bgw84 => rfl); (case brw84 => first | (go_simp; done) | (go_simp; rfl))
      intro gs hg w84 hbox hb
      have h84 := hHeld.size
      refine hK.out _ _ (zH hHeld hHeld.size hb) (fun hHeld => ?_)
      clear hK K
      refine norm_ (a' := ?_) ?_ ?_
      rotate_left
      ·show Act.put _ (some 15) _ = _
       simp only [Act.put, List.setIfInBounds_toArray, List.set_cons_zero, List.set_cons_succ, i64_w, i32_w]
       rfl
      exact norm_ (by simp only [putAll, Act.put, List.setIfInBounds_toArray, List.set_cons_zero, List.set_cons_succ]) (hCont gs _ ⟨hHeld, hbox, by rw [hg]; exact h84⟩)
     ·skip
      refine box_step ?bgw85 (N := 15) ?bdw85 (cs := #[.int .i64 0, .int .i64 0, .int .i64 0, .int .i64 0, .int .i64 0, .string (⟨#[]⟩ : ByteArray), .slice none 0 0, .int .i64 0, .int .i64 0]) (t := 37) ?brw85 ?_; (case bdw85 => rfl); (case bgw85 => rfl); (case brw85 => first | (go_simp; done) | (go_simp; rfl))
      intro gs hg w85 hbox hb
      have h84 := hHeld.size
      refine hK.out _ _ (zH hHeld hHeld.size hb) (fun hHeld => ?_)
      clear hK K
      refine norm_ (a' := ?_) ?_ ?_
      rotate_left
      ·show Act.put _ (some 15) _ = _
       simp only [Act.put, List.setIfInBounds_toArray, List.set_cons_zero, List.set_cons_succ, i64_w, i32_w]
       rfl
      refine one_ (i := 4) (N := some 66) #[true, true, true, true, true, false, false, true, false] rfl rfl (one_of HT_.out (by kernel_rfl)) (by decide) (fun K hK => ?_)
      refine goes_ Tryz.func31 (by kernel_rfl) rfl #[.agg #[.int .i64 nx, .slice (some ad) l.length c], .int .i64 id] (by rfl) rfl rfl (by (try simp only [List.map_toArray, List.map_cons, List.map_nil]); first | done | rfl) ?_
      refine (HA20.out _ hHeld).mono ?_
      rintro e w83 ⟨rfl, hb2⟩
      refine ⟨_, rfl, ?_⟩
      refine hK.out _ _ (zH hHeld hHeld.size hb2) (fun hHeld => ?_)
      clear hK K
      refine norm_ (a' := ?_) ?_ ?_
      rotate_left
      ·show Act.put _ (some 66) _ = _
       simp only [Act.put, List.setIfInBounds_toArray, List.set_cons_zero, List.set_cons_succ, i64_w, i32_w]
       rfl
      refine pure_ (i := 5) (N := some 67) (v := ?_) (a' := ?_) #[true, true, true, true, true, true, false, true, false] rfl rfl (any_of HT_.out (by kernel_rfl)) (fun _ _ _ h => h) (Or.inl ⟨by rfl, ?_⟩) ?_ ?_
      rotate_left
      ·intro w'
       go_simp
       with_reducible rfl
      rotate_left
      ·simp only [Act.put, List.setIfInBounds_toArray, List.set_cons_zero, List.set_cons_succ, i64_w, i32_w]
       rfl
      refine take_ (i := 6) (N := some 68) (v := ?_) (a' := ?_) #[true, true, true, true, true, true, true, true, false] rfl rfl (take_ofW HT_.out HW_.out (by kernel_rfl)) (fun _ _ _ h => h) (Or.inl ⟨by rfl, ?_⟩) hHeld ?_ ?_
      rotate_left
      ·intro w' hs'
       have s0 := pw_cell_below hs' hx0
       have s1 := pw_cell_below hs' hx1
       have s2 := pw_cell_below hs' hx2
       have s3 := pw_cell_below hs' hx3
       have s4 := pw_cell_below hs' hx4
       have s5 := pw_cell_below hs' hx5
       have s6 := pw_cell_below hs' hx6
       have s7 := pw_cell_below hs' hx7
       have s8 := pw_cell_below hs' hx8
       go_simp
       with_reducible rfl
      rotate_left
      ·simp only [Act.put, List.setIfInBounds_toArray, List.set_cons_zero, List.set_cons_succ, i64_w, i32_w]
       rfl
      exact norm_ (by simp only [putAll, Act.put, List.setIfInBounds_toArray, List.set_cons_zero, List.set_cons_succ]) (hCont gs _ ⟨hHeld, zL hbox hb2, by rw [hg]; exact h84⟩)
    rintro gs w11 ⟨hHeld, hbk, hge⟩
    refine norm_ (a' := ?_) ?_ ?_
    rotate_left
    ·simp only [putAll, Act.put, List.setIfInBounds_toArray, List.set_cons_zero, List.set_cons_succ]
     rfl
    refine one_ (i := 8) (N := none) #[true, true, true, true, true, true, true, true, true] rfl rfl (one_of HT_.out (by kernel_rfl)) (by decide) (fun K hK => ?_)
    have q := ino_put (.int .i64 x2.f0) (.int .i64 x2.f1) (.int .i64 x2.f2) (.int .i64 x2.f3) (.int .i64 x2.f4) (.string x2.f5) (.slice A6x x2.f6.length c6x) (.int .i64 x2.f7) (.int .i64 x2.f8) hHeld hge hbk
    have cc0 : w11.cell? ⟨gs, 0, none⟩ = some (.int .i64 0) := (zC hbk 0).trans rfl
    have cf0 := zF hbk 0
    have cc1 : w11.cell? ⟨gs, 1, none⟩ = some (.int .i64 0) := (zC hbk 1).trans rfl
    have cf1 := zF hbk 1
    have cc2 : w11.cell? ⟨gs, 2, none⟩ = some (.int .i64 0) := (zC hbk 2).trans rfl
    have cf2 := zF hbk 2
    have cc3 : w11.cell? ⟨gs, 3, none⟩ = some (.int .i64 0) := (zC hbk 3).trans rfl
    have cf3 := zF hbk 3
    have cc4 : w11.cell? ⟨gs, 4, none⟩ = some (.int .i64 0) := (zC hbk 4).trans rfl
    have cf4 := zF hbk 4
    have cc5 : w11.cell? ⟨gs, 5, none⟩ = some (.string (⟨#[]⟩ : ByteArray)) := (zC hbk 5).trans rfl
    have cf5 := zF hbk 5
    have cc6 : w11.cell? ⟨gs, 6, none⟩ = some (.slice none 0 0) := (zC hbk 6).trans rfl
    have cf6 := zF hbk 6
    have cc7 : w11.cell? ⟨gs, 7, none⟩ = some (.int .i64 0) := (zC hbk 7).trans rfl
    have cf7 := zF hbk 7
    have cc8 : w11.cell? ⟨gs, 8, none⟩ = some (.int .i64 0) := (zC hbk 8).trans rfl
    have cf8 := zF hbk 8
    refine skip_ (w1 := (World.setCell (World.setCell (World.setCell (World.setCell (World.setCell (World.setCell (World.setCell (World.setCell (World.setCell w11 ⟨gs, 0, none⟩ (.int .i64 x2.f0)) ⟨gs, 1, none⟩ (.int .i64 x2.f1)) ⟨gs, 2, none⟩ (.int .i64 x2.f2)) ⟨gs, 3, none⟩ (.int .i64 x2.f3)) ⟨gs, 4, none⟩ (.int .i64 x2.f4)) ⟨gs, 5, none⟩ (.string x2.f5)) ⟨gs, 6, none⟩ (.slice A6x x2.f6.length c6x)) ⟨gs, 7, none⟩ (.int .i64 x2.f7)) ⟨gs, 8, none⟩ (.int .i64 x2.f8))) (by rfl) rfl (by first | (go_simp; done) | (go_simp; rfl)) ?_
    refine hK.out _ _ q.2 (fun hHeld => ?_)
    clear hK K hHeld
    generalize (World.setCell (World.setCell (World.setCell (World.setCell (World.setCell (World.setCell (World.setCell (World.setCell (World.setCell w11 ⟨gs, 0, none⟩ (.int .i64 x2.f0)) ⟨gs, 1, none⟩ (.int .i64 x2.f1)) ⟨gs, 2, none⟩ (.int .i64 x2.f2)) ⟨gs, 3, none⟩ (.int .i64 x2.f3)) ⟨gs, 4, none⟩ (.int .i64 x2.f4)) ⟨gs, 5, none⟩ (.string x2.f5)) ⟨gs, 6, none⟩ (.slice A6x x2.f6.length c6x)) ⟨gs, 7, none⟩ (.int .i64 x2.f7)) ⟨gs, 8, none⟩ (.int .i64 x2.f8)) = w12 at q ⊢
    refine done_ (done_of HT_.out (by kernel_rfl)) ?_
    clear cc0 cf0 cc1 cf1 cc2 cf2 cc3 cf3 cc4 cf4 cc5 cf5 cc6 cf6 cc7 cf7 cc8 cf8 hbk hge hz0 hz1 HT_ HW_ HA20 hHeld B4 h0b hx0 hx1 hx2 hx3 hx4 hx5 hx6 hx7 hx8
    have B15 := zM q.1
    have n0_ := zM (zH HB.out HB.out.size q.2)
    have n1_ := zM (zH HW.out HW.out.size q.2)
    have n2_ := zM (And.intro HT.out.1 (Kd.C_below HT.out.2 q.2))
    clear HB HW HT q
    have HB := n0_
    have HW := n1_
    have HT := n2_
    clear n0_ n1_ n2_
    have k1_ : w12.cell? ⟨gs, 1, none⟩ = some (.int .i64 x2.f1) := (zC B15.out 1).trans rfl
    go_upto_region 21 with (fail)
    go_cut [78] (fun v78 w' => v78 = .bool ((x2.f1 == 3) && (!lb || fol)) ∧ Aside0 (w'.heap[gs]? = some (.cells #[.int .i64 x2.f0, .int .i64 x2.f1, .int .i64 x2.f2, .int .i64 x2.f3, .int .i64 x2.f4, .string x2.f5, .slice A6x x2.f6.length c6x, .int .i64 x2.f7, .int .i64 x2.f8] 37 (0, 0))) ∧ Aside0 (Below w.heap.size w w') ∧ Aside0 (Below w8.heap.size w8 w') ∧ Aside0 (ls.length ≤ c1 ∧ Kd.C Kd.string w' A1 ls.length ls))
    case first =>
     by_cases c3 : x2.f1 = 3
     ·have c3b : (x2.f1 == 3) = true := by simpa using c3
      clear HLB
      cases lb <;> cases fol
      all_goals
       go_wp2
       go_meet
       case rel => exact ⟨by rw [c3b]; rfl, B15, HB, HW, HT⟩
     ·have c3b : (x2.f1 == 3) = false := by simpa using c3
      go_wp2
      go_meet
      case rel => exact ⟨by rw [c3b]; rfl, B15, HB, HW, HT⟩
    case rest =>
    clear B15 HB HW HT k1_
    obtain ⟨rfl, B15, HB, HW, HT⟩ := hcut
    obtain ⟨w13, hw13⟩ : ∃ w13, w13 = wc := ⟨_, rfl⟩
    subst hw13
    have HKL := zM (show ((x2.f1 == 3) && (!lb || fol)) = true ↔ x2.f1 = 3 ∧ (ls ≠ [] ∨ fol = true) from by rw [HLB.out]; simp)
    cases hcd : ((x2.f1 == 3) && (!lb || fol)) with
    | true =>
     have hk := HKL.out.1 hcd
     have hsz := HLk.out hk.1
     rw [if_pos hk] at HN
     clear hk hcd HKL
     obtain ⟨n1, hn1⟩ : ∃ n1, n1 = n + 1 := ⟨_, rfl⟩
     have hw1 : wrap64 ((n : Int) + 1) = (n1 : Int) := by have := HX.out.2.2.1; rw [w64 (by omega) (by omega)]; omega
     rw [← hn1] at HN
     go_upto_region 22 with (fail)
     go_cut [11] (fun v11 w' => v11 = .int .i64 (n1 : Int) ∧ w13 = w')
     case first =>
      go_wp2
      go_meet
      case rel => exact ⟨by first | rfl | rw [hw1] | (simp [hw1]; done), rfl⟩
     case rest =>
     obtain ⟨rfl, e13⟩ := hcut
     subst e13
     by_cases h8 : n = 8
     ·have h8i : (8 : Int) < (n1 : Int) := by omega
      have HRv := zM (show R = (0, ⟨#[]⟩, 0, 40) from by rw [HN.out, if_pos h8]; rfl)
      clear hw1 h8 hn1
      have B8 := zM (zL B8w.out HW.out)
      have z0 : World.cell? w13 ⟨g8, 0, none⟩ = some (.int .i64 0) := (zC B8.out 0).trans rfl
      have z1 : World.cell? w13 ⟨g8, 1, none⟩ = some (.string ⟨#[]⟩) := (zC B8.out 1).trans rfl
      have z2 : World.cell? w13 ⟨g8, 2, none⟩ = some (.int .i64 0) := (zC B8.out 2).trans rfl
      have z3 : World.cell? w13 ⟨g8, 3, none⟩ = some (.int .i64 0) := (zC B8.out 3).trans rfl
      have f0 := zF B8.out 0
      have f1 := zF B8.out 1
      have f2 := zF B8.out 2
      have f3 := zF B8.out 3
      go_wp2_with ((with_reducible refine gate_store (t := 33) (p := 8) rfl ?_); refine store_event (t := 33) (p := 8) (v := ?vo6) (w1 := World.setCell (World.setCell (World.setCell (World.setCell w13 ⟨g8, 0, none⟩ (.int .i64 (0))) ⟨g8, 1, none⟩ (.string (⟨#[]⟩ : ByteArray))) ⟨g8, 2, none⟩ (.int .i64 (0))) ⟨g8, 3, none⟩ (.int .i64 (40))) ?sg6 ?so6 ?sn6 ?sr6 ?_; (case so6 => rfl); (case sg6 => rfl); (case sn6 => rfl); (case sr6 => first | (go_simp; done) | (go_simp; rfl)); intro W2 hw; have F := zM hw; clear hw)
      have h2 := spot_put (0) (0) (40) (⟨#[]⟩ : ByteArray) HB.out G8.out B8.out
      rw [← F.out] at h2
      refine bodyPost_ret (results_cell_row rfl _ _ g8 33 #[.int .i64 (0), .string (⟨#[]⟩ : ByteArray), .int .i64 (0), .int .i64 (40)] (0, 0) _ rfl h2.1 Tryz.underlying33 rfl (by kernel_rfl)) rfl ?_
      exact ⟨by rw [HRv.out]; rfl, h2.2⟩
     rw [if_neg h8] at HN
     have h8i : ¬ (8 : Int) < (n1 : Int) := by have := HX.out.2.2.1; omega
     have HN1 := zM (show n1 ≤ 8 ∧ n1 = n + 1 from by have := HX.out.2.2.1; omega)
     clear hw1 h8 hn1
     have k5_ : w13.cell? ⟨gs, 5, none⟩ = some (.string x2.f5) := (zC B15.out 5).trans rfl
     go_upto_region 25 with (fail)
     obtain ⟨cu, hcu⟩ : ∃ q : Int, q = if bt x2.f5 0 = 47 then 1 else v := ⟨_, rfl⟩
     rw [← hcu] at HN
     have hcul : inoI l cu < l.length := by
      rw [hcu]
      split
      ·exact HL.out.2.2.2.root
      ·exact HX.out.2.2.2
     have HCU := zM hcul
     clear hcul
     have hs0 : 0 < x2.f5.size := by omega
     have hs0i : (0 : Int) < (x2.f5.size : Int) := by omega
     have hx5_ : ∀ h : 0 < x2.f5.size, ((x2.f5[0]'h).toNat : Int) = bt x2.f5 0 := bt_at x2.f5 0
     go_cut [87] (fun v87 w' => v87 = .bool (bt x2.f5 0 == 47) ∧ w13 = w')
     case first =>
      go_wp2
      go_meet
      case rel => exact ⟨by first | rfl | (simp; done), rfl⟩
     case rest =>
     obtain ⟨rfl, e13⟩ := hcut
     subst e13
     go_upto_if 87 with (fail)
     go_cut [10] (fun v10 w' => v10 = .int .i64 cu ∧ w13 = w')
     case first =>
      by_cases h47 : bt x2.f5 0 = 47
      ·have hb47 : (bt x2.f5 0 == 47) = true := by simpa using h47
       go_wp2
       go_meet
       case rel => exact ⟨by rw [hcu, if_pos h47], rfl⟩
      ·have hb47 : (bt x2.f5 0 == 47) = false := by simpa using h47
       go_wp2
       go_meet
       case rel => exact ⟨by rw [hcu, if_neg h47], rfl⟩
     case rest =>
     obtain ⟨rfl, e13⟩ := hcut
     subst e13
     clear hx5_ hs0 hs0i hcu hsz
     have HTT := zM (pieces_le x2.f5 HSz.out)
     have HPC2 := zM (fun W => cutS_any x2.f5 HSz.out W)
     generalize piecesB x2.f5 = tt at HN HPC2 HTT
     obtain ⟨q, hq⟩ : ∃ q, q = tt ++ ls := ⟨_, rfl⟩
     rw [← hq] at HN
     have HQ2 := zM hq
     clear hq
     have HQl := zM (show ls.length ≤ 1048577 from by have := HQ.out; rw [List.length_cons] at this; omega)
     go_upto_region 28 with (first | (go_at_call 55; refine (HPC2.out _).mono ?_; rintro e w14 ⟨v20, rfl, hR, hb⟩; have HR20 := zM (Kd.R_lower hR HW.out.size); have n1_ := zM (zH HW.out HW.out.size hb); have n2_ := zM (And.intro HT.out.1 (Kd.C_below HT.out.2 hb)); clear HB HW HT k5_ B15 hR hb; have HW := n1_; have HT := n2_; clear n1_ n2_) | ((with_reducible refine gate_builtin (b := .append) (xs := #[.tmp 90, .tmp 91]) rfl ?_); at_builtin; refine Kd.R_append_row Value.string ByteArray.empty (w0 := w8) w8.heap.size rfl (.tmp 90) (.tmp 91) 50 9 (.string ⟨#[]⟩) 16 rfl Tryz.underlying50 info9 rfl (by decide) v20 tt ls A1 ls.length c1 (fun _ => True) rfl rfl (fun _ _ => trivial) HR20.out HT.out.2 HW.out HW.out.size ?aL ?_; (case aL => have := HTT.out; have := HQl.out; omega); intro v21 w15 ho hb hg hat; rw [← HQ2.out] at ho; obtain ⟨A21, c21, rfl, hc21, hC21⟩ := Kd.R_reads ho; clear HT HW hg hat ho; have HT := zM (And.intro hc21 (show Kd.C Kd.string w15 A21 q.length q from hC21)); have HW := zM hb; have HB := zM (zH HB8.out HB8.out.size hb); clear hc21 hC21 hb))
     by_cases h40 : 40 < q.length
     ·have h40i : (40 : Int) < (q.length : Int) := by omega
      have HRv := zM (show R = (0, ⟨#[]⟩, 0, 36) from by rw [HN.out, if_pos h40]; rfl)
      clear h40
      have B8 := zM (zL B8w.out HW.out)
      have z0 : World.cell? w15 ⟨g8, 0, none⟩ = some (.int .i64 0) := (zC B8.out 0).trans rfl
      have z1 : World.cell? w15 ⟨g8, 1, none⟩ = some (.string ⟨#[]⟩) := (zC B8.out 1).trans rfl
      have z2 : World.cell? w15 ⟨g8, 2, none⟩ = some (.int .i64 0) := (zC B8.out 2).trans rfl
      have z3 : World.cell? w15 ⟨g8, 3, none⟩ = some (.int .i64 0) := (zC B8.out 3).trans rfl
      have f0 := zF B8.out 0
      have f1 := zF B8.out 1
      have f2 := zF B8.out 2
      have f3 := zF B8.out 3
      go_wp2_with ((with_reducible refine gate_store (t := 33) (p := 8) rfl ?_); refine store_event (t := 33) (p := 8) (v := ?vo7) (w1 := World.setCell (World.setCell (World.setCell (World.setCell w15 ⟨g8, 0, none⟩ (.int .i64 (0))) ⟨g8, 1, none⟩ (.string (⟨#[]⟩ : ByteArray))) ⟨g8, 2, none⟩ (.int .i64 (0))) ⟨g8, 3, none⟩ (.int .i64 (36))) ?sg7 ?so7 ?sn7 ?sr7 ?_; (case so7 => rfl); (case sg7 => rfl); (case sn7 => rfl); (case sr7 => first | (go_simp; done) | (go_simp; rfl)); intro W2 hw; have F := zM hw; clear hw)
      have h2 := spot_put (0) (0) (36) (⟨#[]⟩ : ByteArray) HB.out G8.out B8.out
      rw [← F.out] at h2
      refine bodyPost_ret (results_cell_row rfl _ _ g8 33 #[.int .i64 (0), .string (⟨#[]⟩ : ByteArray), .int .i64 (0), .int .i64 (36)] (0, 0) _ rfl h2.1 Tryz.underlying33 rfl (by kernel_rfl)) rfl ?_
      exact ⟨by rw [HRv.out]; rfl, h2.2⟩
     have h40i : ¬ (40 : Int) < (q.length : Int) := by omega
     rw [if_neg h40] at HN
     have H40 := zM h40
     clear h40
     go_wp2
     go_roundg k1
     case measure => omega
     case rel => exact ⟨q, cu, n1, A21, c21, rfl, rfl, rfl, ⟨HN.out, by have := HX.out.2.1; have := H40.out; have := HN1.out; unfold mW at *; omega, HN1.out.1, HCU.out⟩, HT, HB, HW, ⟨by have := H40.out; omega⟩⟩
    | false =>
     have hk : ¬ (x2.f1 = 3 ∧ (ls ≠ [] ∨ fol = true)) := fun h => by rw [HKL.out.2 h] at hcd; cases hcd
     rw [if_neg hk] at HN
     clear hk hcd HKL
     cases lb with
     | true =>
      have HRv := zM (show R = (v, p, id, 0) from by rw [HN.out, if_pos (zO HLB.out.symm)])
      have B8 := zM (zL B8w.out HW.out)
      have z0 : World.cell? w13 ⟨g8, 0, none⟩ = some (.int .i64 0) := (zC B8.out 0).trans rfl
      have z1 : World.cell? w13 ⟨g8, 1, none⟩ = some (.string ⟨#[]⟩) := (zC B8.out 1).trans rfl
      have z2 : World.cell? w13 ⟨g8, 2, none⟩ = some (.int .i64 0) := (zC B8.out 2).trans rfl
      have z3 : World.cell? w13 ⟨g8, 3, none⟩ = some (.int .i64 0) := (zC B8.out 3).trans rfl
      have f0 := zF B8.out 0
      have f1 := zF B8.out 1
      have f2 := zF B8.out 2
      have f3 := zF B8.out 3
      go_wp2_with ((with_reducible refine gate_store (t := 33) (p := 8) rfl ?_); refine store_event (t := 33) (p := 8) (v := ?vo8) (w1 := World.setCell (World.setCell (World.setCell (World.setCell w13 ⟨g8, 0, none⟩ (.int .i64 (v))) ⟨g8, 1, none⟩ (.string p)) ⟨g8, 2, none⟩ (.int .i64 (id))) ⟨g8, 3, none⟩ (.int .i64 (0))) ?sg8 ?so8 ?sn8 ?sr8 ?_; (case so8 => rfl); (case sg8 => rfl); (case sn8 => rfl); (case sr8 => first | (go_simp; done) | (go_simp; rfl)); intro W2 hw; have F := zM hw; clear hw)
      have h2 := spot_put (v) (id) (0) p HB.out G8.out B8.out
      rw [← F.out] at h2
      refine bodyPost_ret (results_cell_row rfl _ _ g8 33 #[.int .i64 (v), .string p, .int .i64 (id), .int .i64 (0)] (0, 0) _ rfl h2.1 Tryz.underlying33 rfl (by kernel_rfl)) rfl ?_
      exact ⟨by rw [HRv.out]; rfl, h2.2⟩
     | false =>
      rw [if_neg (of_decide_eq_false HLB.out.symm)] at HN
      have k1_ : w13.cell? ⟨gs, 1, none⟩ = some (.int .i64 x2.f1) := (zC B15.out 1).trans rfl
      by_cases h2k : x2.f1 = 2
      ·have h2b : (x2.f1 != 2) = false := by simpa using h2k
       have h2c : (x2.f1 == 2) = true := by simpa using h2k
       rw [if_neg (fun h => h h2k)] at HN
       clear h2k
       go_wp2
       go_roundg k1
       case measure => omega
       case rel => exact ⟨ls, id, n, A1, c1, rfl, rfl, rfl, ⟨HN.out, by have := HX.out.2.1; unfold mW at this ⊢; rw [List.length_cons] at this; omega, HX.out.2.2.1, HJ.out⟩, HT, HB, HW, ⟨by have := HQ.out; rw [List.length_cons] at this; omega⟩⟩
      ·have h2b : (x2.f1 != 2) = true := by simpa using h2k
       have h2c : (x2.f1 == 2) = false := by simpa using h2k
       have HRv := zM (show R = (0, ⟨#[]⟩, 0, 20) from by rw [HN.out, if_pos h2k]; rfl)
       clear h2k
       have B8 := zM (zL B8w.out HW.out)
       have z0 : World.cell? w13 ⟨g8, 0, none⟩ = some (.int .i64 0) := (zC B8.out 0).trans rfl
       have z1 : World.cell? w13 ⟨g8, 1, none⟩ = some (.string ⟨#[]⟩) := (zC B8.out 1).trans rfl
       have z2 : World.cell? w13 ⟨g8, 2, none⟩ = some (.int .i64 0) := (zC B8.out 2).trans rfl
       have z3 : World.cell? w13 ⟨g8, 3, none⟩ = some (.int .i64 0) := (zC B8.out 3).trans rfl
       have f0 := zF B8.out 0
       have f1 := zF B8.out 1
       have f2 := zF B8.out 2
       have f3 := zF B8.out 3
       go_wp2_with ((with_reducible refine gate_store (t := 33) (p := 8) rfl ?_); refine store_event (t := 33) (p := 8) (v := ?vo9) (w1 := World.setCell (World.setCell (World.setCell (World.setCell w13 ⟨g8, 0, none⟩ (.int .i64 (0))) ⟨g8, 1, none⟩ (.string (⟨#[]⟩ : ByteArray))) ⟨g8, 2, none⟩ (.int .i64 (0))) ⟨g8, 3, none⟩ (.int .i64 (20))) ?sg9 ?so9 ?sn9 ?sr9 ?_; (case so9 => rfl); (case sg9 => rfl); (case sn9 => rfl); (case sr9 => first | (go_simp; done) | (go_simp; rfl)); intro W2 hw; have F := zM hw; clear hw)
       have h2 := spot_put (0) (0) (20) (⟨#[]⟩ : ByteArray) HB.out G8.out B8.out
       rw [← F.out] at h2
       refine bodyPost_ret (results_cell_row rfl _ _ g8 33 #[.int .i64 (0), .string (⟨#[]⟩ : ByteArray), .int .i64 (0), .int .i64 (20)] (0, 0) _ rfl h2.1 Tryz.underlying33 rfl (by kernel_rfl)) rfl ?_
       exact ⟨by rw [HRv.out]; rfl, h2.2⟩
end
end Go.Proofs.YtiopcpkfjikfdaaGreatDoor.PFnClean
