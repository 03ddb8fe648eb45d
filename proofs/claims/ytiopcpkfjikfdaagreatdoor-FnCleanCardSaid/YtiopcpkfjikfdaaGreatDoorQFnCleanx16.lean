import Derived.Test.YtiopcpkfjikfdaaGreatDoorQFnCleanx15
set_option maxHeartbeats 8000000
set_option maxRecDepth 100000
namespace Go.Proofs.YtiopcpkfjikfdaaGreatDoor.PFnClean
open Go.RowKit Go.Proofs.YtiopcpkfjikfdaaGreatDoorW.PrintWords Go.Proofs.YtiopcpkfjikfdaaGreatDoorW.PrintLast Go.Proofs.YtiopcpkfjikfdaaGreatDoorW.PrintMore
attribute [local go_sem] max2_int min2_int max_two min_two max_three min_three max_four min_four   -- for this text's walks alone
set_option linter.unusedVariables false
set_option linter.unusedSimpArgs false
section
open Go.Proofs.YtiopcpkfjikfdaaGreatDoor.Mth Go.Proofs.YtiopcpkfjikfdaaGreatDoor.Str
theorem walkI_any (gv : Nat) (nx : Int) (A : Option Addr) (c : Nat) (l : List S37) (u g : Int) (Ag : Option Addr) (cg : Nat) (gs : List Int) (path : ByteArray) (fol : Bool) (m0 : Int) (w : World) (hv : VolAt w gv nx A c l) (hw : WfV l)
  (hg : Kd.C (Kd.int .i64) w Ag gs.length gs) (hcg : gs.length ≤ cg) (hp : path.size ≤ 1048576) (hm0 : w.cell? ⟨0, 0, none⟩ = some (.int .i64 m0)) :
  Calls Tryz.prog 18 #[.pointer (some ⟨gv, 0, none⟩), .agg #[.int .i64 u, .int .i64 g, .slice Ag gs.length cg], .string path, .bool fol] w fun e w' => e = .returned (spotV (walkV l (mayX u g gs 1) path fol)) ∧ Below w.heap.size w w' := by
 have hu41 := Tryz.underlying33
 have hu29 := Tryz.underlying26
 have hu45 := Tryz.underlying37
 have hu47 := Tryz.underlying29
 have hm := hv.len
 have HL := zM (And.intro hv hw)
 have HG := zM (And.intro hg hcg)
 have HB := zM (Below.refl w.heap.size w)
 have HE := zM (show walkV l (mayX u g gs 1) path fol = walkF l (mayX u g gs 1) fol (mW 0 (piecesB path)) 1 0 (piecesB path) from rfl)
 generalize walkV l (mayX u g gs 1) path fol = R at HE ⊢
 generalize hmay : mayX u g gs 1 = may at HE
 have HMS := zM (fun (x : S37) (A6 : Option Addr) (c6 : Nat) (W : World) (hW : Below w.heap.size w W) (h6 : Kd.C k59 W A6 x.f6.length x.f6) (hc6 : x.f6.length ≤ c6) => mayI_any u g Ag cg gs 1 x A6 c6 W (Kd.C_below hg hW) hcg h6 hc6)
 rw [hmay] at HMS
 have HPI := zM (fun (W : World) (hW : Below w.heap.size w W) (s : ByteArray) (hs : s.size ≤ 1048576) => pieces_any s m0 W hs (pw_cell_below hW hm0))
 have HPC := zM (fun (W : World) (hW : Below w.heap.size w W) => HPI.out W hW path hp)
 have HTS := zM (pieces_le path hp)
 generalize piecesB path = ts at HE HPC HTS
 obtain ⟨M, hM⟩ : ∃ M, M = mW 0 ts := ⟨_, rfl⟩
 have HM := zM hM
 clear hv hw hg hcg hp hmay hM hm0
 go_enter Tryz.func18, Tryz.ntmps18
 go_wp2_with (first | ((with_reducible refine gate_dst (N := 5) rfl ?_); refine box_event ?h5g (N := 5) ?h5d (cs := #[.int .i64 u, .int .i64 g, .slice Ag gs.length cg]) (t := 29) ?h5r ?_; (case h5d => rfl); (case h5g => rfl); (case h5r => first | (go_simp; done) | (go_simp; rfl)); intro g5 hg w5 hbox hb; have B5 := zM hbox; have n0_ := zM (zP HB.out hb); clear HB; have HB := n0_; clear n0_; clear hg hb hbox) | ((with_reducible refine gate_dst (N := 8) rfl ?_); refine box_event ?h8g (N := 8) ?h8d (cs := #[.int .i64 0, .string ⟨#[]⟩, .int .i64 0, .int .i64 0]) (t := 33) ?h8r ?_; (case h8d => rfl); (case h8g => rfl); (case h8r => first | (go_simp; done) | (go_simp; rfl)); intro g8 hg w8 hbox hb; have B8w := zM hbox; have HB8 := zM (zP HB.out hb); have G8 := zM (show w.heap.size ≤ g8 by rw [hg]; exact HB.out.size); have n2_ := zM (zL B5.out hb); clear HB B5; have HB := zM HB8.out; have B5w := n2_; clear n2_; clear hg hb hbox) | (go_at_call 23; refine (HPC.out _ HB.out).mono ?_; rintro e w9 ⟨v9, rfl, hR, hb⟩; obtain ⟨A9, c9, rfl, hc9, hC9⟩ := Kd.R_reads hR; have HW := zM hb; have HT := zM (And.intro hc9 hC9); have n0_ := zM (zH HB.out HB.out.size hb); clear HB hR hb hc9 hC9; have HB := n0_; clear n0_))
 rw [← HM.out] at HE
 go_loopg [9, 10, 11] M (fun kq v9 v10 v11 w' => ∃ (t : List ByteArray) (v : Int) (n : Nat) (A9 : Option Addr) (c9 : Nat), v9 = .slice A9 t.length c9 ∧ v10 = .int .i64 v ∧ v11 = .int .i64 (n : Int) ∧ Aside0 (R = walkF l may fol kq v n t ∧ mW n t ≤ kq ∧ n ≤ 8 ∧ inoI l v < l.length) ∧ Aside0 (t.length ≤ c9 ∧ Kd.C Kd.string w' A9 t.length t) ∧ Aside0 (Below w.heap.size w w') ∧ Aside0 (Below w8.heap.size w8 w') ∧ Aside0 (t.length ≤ 1048577))
 case atStart => exact ⟨ts, 1, 0, A9, c9, rfl, rfl, rfl, ⟨HE.out, by rw [HM.out]; exact Nat.le_refl _, by omega, HL.out.2.root⟩, HT, HB, HW, HTS⟩
 case round =>
  clear HB HW HE HT HPC HM HTS
  obtain ⟨t, v, n, A9, c9, rfl, rfl, rfl, HX, HT, HB, HW, HQ⟩ := hrel
  have hm9 := HT.out.2.2.1
  cases t with
  | nil =>
   have HRv := zM (show R = (0, ⟨#[]⟩, v, 0) from by rw [HX.out.1]; cases gk <;> rfl)
   have hl0 : ([] : List ByteArray).length = 0 := rfl
   have B8 := zM (zL B8w.out HW.out)
   have z0 : World.cell? wr ⟨g8, 0, none⟩ = some (.int .i64 0) := (zC B8.out 0).trans rfl
   have z1 : World.cell? wr ⟨g8, 1, none⟩ = some (.string ⟨#[]⟩) := (zC B8.out 1).trans rfl
   have z2 : World.cell? wr ⟨g8, 2, none⟩ = some (.int .i64 0) := (zC B8.out 2).trans rfl
   have z3 : World.cell? wr ⟨g8, 3, none⟩ = some (.int .i64 0) := (zC B8.out 3).trans rfl
   have f0 := zF B8.out 0
   have f1 := zF B8.out 1
   have f2 := zF B8.out 2
   have f3 := zF B8.out 3
   go_wp2_with ((with_reducible refine gate_store (t := 33) (p := 8) rfl ?_); refine store_event (t := 33) (p := 8) (v := ?vo10) (w1 := World.setCell (World.setCell (World.setCell (World.setCell wr ⟨g8, 0, none⟩ (.int .i64 (0))) ⟨g8, 1, none⟩ (.string (⟨#[]⟩ : ByteArray))) ⟨g8, 2, none⟩ (.int .i64 (v))) ⟨g8, 3, none⟩ (.int .i64 (0))) ?sg10 ?so10 ?sn10 ?sr10 ?_; (case so10 => rfl); (case sg10 => rfl); (case sn10 => rfl); (case sr10 => first | (go_simp; done) | (go_simp; rfl)); intro W2 hw; have F := zM hw; clear hw)
   have h2 := spot_put (0) (v) (0) (⟨#[]⟩ : ByteArray) HB.out G8.out B8.out
   rw [← F.out] at h2
   refine bodyPost_ret (results_cell_row rfl _ _ g8 33 #[.int .i64 (0), .string (⟨#[]⟩ : ByteArray), .int .i64 (v), .int .i64 (0)] (0, 0) _ rfl h2.1 Tryz.underlying33 rfl (by kernel_rfl)) rfl ?_
   exact ⟨by rw [HRv.out]; rfl, h2.2⟩
  | cons p t =>
   cases gk with
   | zero => have := HX.out.2.1; unfold mW at this; omega
   | succ k1 =>
   obtain ⟨A1, c1, ls, els, hc1, hrun, hC1⟩ := cutT A9 c9 (p :: t) (by simp) HT.out.1
   obtain rfl : ls = t := els
   have HT1 := zM (And.intro hc1 (hC1 wr HT.out.2))
   obtain ⟨ad9, e9, hp0⟩ := Kd.at_string HT.out.2 0 (by omega) (by first | (simp; done) | (simp; omega))
   subst e9
   replace hp0 : wr.cell? ad9 = some (.string p) := hp0
   clear HT hC1 hc1
   have HT := zM HT1.out
   clear HT1
   generalize hm : (p :: ls).length = m at hrun hm9 ⊢
   have hm0 : 0 < m := by rw [← hm]; simp
   have hm0i : (0 : Int) < (m : Int) := by omega
   clear hm
   obtain ⟨lb, hlb⟩ : ∃ b, b = decide (ls = []) := ⟨_, rfl⟩
   have HLB := zM hlb
   have hq1 : ((ls.length : Int) == 0) = lb := by rw [hlb]; apply Bool.eq_iff_iff.2; cases ls <;> simp <;> omega
   have hq2 : decide ((ls.length : Int) = 0) = lb := by rw [hlb, decide_eq_decide]; cases ls <;> simp <;> omega
   clear hlb
   obtain ⟨i, hi⟩ : ∃ i, i = inoI l v := ⟨_, rfl⟩
   have hil : i < l.length := by have := HX.out.2.2.2; omega
   have hili : (i : Int) < (l.length : Int) := by omega
   obtain ⟨ad, A6, c6, eA, hx0, hx1, hx2, hx3, hx4, hx5, hx6, hx7, hx8, hc6, hR6⟩ := at_T37 (HL.out.1.below HB.out).row (i : Int) (by omega) hili
   rw [Int.toNat_natCast, rd45 l i hil] at hx0 hx1 hx2 hx3 hx4 hx5 hx6 hx7 hx8
   rw [rd45 l i hil] at hc6 hR6
   subst eA
   have HIN := zM (fun (W : World) (hW : Below w.heap.size w W) (q : Int) => inode_any W gv nx (some ad) c l q (HL.out.1.below hW))
   have HI7 := zM (by have q := HIN.out wr HB.out v; rw [inoP_yes ad l v HX.out.2.2.2, ← hi] at q; exact q)
   have HIx := zM (show iAt l (inoI l v) = l[i] from by rw [← hi, iAt_eq l i hil])
   have HM7 := zM (fun (W : World) (h1 : Below wr.heap.size wr W) => HMS.out l[i] A6 c6 W (zH HB.out HB.out.size h1) (Kd.C_below hR6 h1) hc6)
   generalize l[i] = x at HIx HM7 hx0 hx1 hx2 hx3 hx4 hx5 hx6 hx7 hx8 hR6
   generalize hb : may x = b at HM7
   have Hb := zM hb
   have HX6 := zM (And.intro hx6 hR6)
   clear hb hR6 hc6 hi
   go_upto_region 8 with (go_at_call 44; refine HI7.out.mono ?_; rintro e w7 ⟨rfl, hd⟩; have hb := hd.below; have HD := zM hb; have n0_ := zM (zH HB.out HB.out.size hb); have n1_ := zM (zH HW.out HW.out.size hb); have n2_ := zM (And.intro HT.out.1 (Kd.C_below HT.out.2 hb)); clear HB HW HT; have HB := n0_; have HW := n1_; have HT := n2_; clear n0_ n1_ n2_; clear hp0 hd hb HI7)
   have B5 := zM (zL B5w.out HW.out)
   have hy0 := fun y : Grow w7 => y.cell (pw_cell_below HD.out hx0)
   have hy1 := fun y : Grow w7 => y.cell (pw_cell_below HD.out hx1)
   have hy2 := fun y : Grow w7 => y.cell (pw_cell_below HD.out hx2)
   have hy3 := fun y : Grow w7 => y.cell (pw_cell_below HD.out hx3)
   have hy4 := fun y : Grow w7 => y.cell (pw_cell_below HD.out hx4)
   have hy5 := fun y : Grow w7 => y.cell (pw_cell_below HD.out hx5)
   have hy6 := fun y : Grow w7 => y.cell (pw_cell_below HD.out hx6)
   have hy7 := fun y : Grow w7 => y.cell (pw_cell_below HD.out hx7)
   have hy8 := fun y : Grow w7 => y.cell (pw_cell_below HD.out hx8)
   have hu0 : ∀ y : Grow w7, y.W.cell? ⟨g5, 0, none⟩ = some (.int .i64 u) := fun y => y.cell ((zC B5.out 0).trans rfl)
   have hu1 : ∀ y : Grow w7, y.W.cell? ⟨g5, 1, none⟩ = some (.int .i64 g) := fun y => y.cell ((zC B5.out 1).trans rfl)
   have hu2 : ∀ y : Grow w7, y.W.cell? ⟨g5, 2, none⟩ = some (.slice Ag gs.length cg) := fun y => y.cell ((zC B5.out 2).trans rfl)
   have HM8 := zM (fun y : Grow w7 => HM7.out y.W (zH HD.out HD.out.size y.hb))
   clear hx0 hx1 hx2 hx3 hx4 hx5 hx6 hx7 hx8 HM7 hrun
   refine wp_region_grow (by kernel_rfl) (by kernel_rfl) ?_
   repeat (go_big_quiet_step (first | (go_at_call 45; exact grow_call (HM8.out _))))
   refine wpQuiet_nil ?_
   rintro _ ⟨yw, rfl⟩
   have n0_ := zM (zH HB.out HB.out.size yw.hb)
   have n1_ := zM (zH HW.out HW.out.size yw.hb)
   have n2_ := zM (And.intro HT.out.1 (Kd.C_below HT.out.2 yw.hb))
   have n3_ := zM (zH HD.out HD.out.size yw.hb)
   generalize yw.W = wy at n0_ n1_ n2_ n3_ ⊢
   clear HB HW HT HD hy0 hy1 hy2 hy3 hy4 hy5 hy6 hy7 hy8 hu0 hu1 hu2 HM8 B5
   have HB := n0_
   have HW := n1_
   have HT := n2_
   have HD := n3_
   clear n0_ n1_ n2_ n3_
   cases b with
   | false =>
    have HRv := zM (show R = (0, ⟨#[]⟩, 0, 13) from by rw [HX.out.1, wf_acc (by rw [HIx.out]; exact Hb.out)]; rfl)
    have B8 := zM (zL B8w.out HW.out)
    have z0 : World.cell? wy ⟨g8, 0, none⟩ = some (.int .i64 0) := (zC B8.out 0).trans rfl
    have z1 : World.cell? wy ⟨g8, 1, none⟩ = some (.string ⟨#[]⟩) := (zC B8.out 1).trans rfl
    have z2 : World.cell? wy ⟨g8, 2, none⟩ = some (.int .i64 0) := (zC B8.out 2).trans rfl
    have z3 : World.cell? wy ⟨g8, 3, none⟩ = some (.int .i64 0) := (zC B8.out 3).trans rfl
    have f0 := zF B8.out 0
    have f1 := zF B8.out 1
    have f2 := zF B8.out 2
    have f3 := zF B8.out 3
    go_wp2_with ((with_reducible refine gate_store (t := 33) (p := 8) rfl ?_); refine store_event (t := 33) (p := 8) (v := ?vo11) (w1 := World.setCell (World.setCell (World.setCell (World.setCell wy ⟨g8, 0, none⟩ (.int .i64 (0))) ⟨g8, 1, none⟩ (.string (⟨#[]⟩ : ByteArray))) ⟨g8, 2, none⟩ (.int .i64 (0))) ⟨g8, 3, none⟩ (.int .i64 (13))) ?sg11 ?so11 ?sn11 ?sr11 ?_; (case so11 => rfl); (case sg11 => rfl); (case sn11 => rfl); (case sr11 => first | (go_simp; done) | (go_simp; rfl)); intro W2 hw; have F := zM hw; clear hw)
    have h2 := spot_put (0) (0) (13) (⟨#[]⟩ : ByteArray) HB.out G8.out B8.out
    rw [← F.out] at h2
    refine bodyPost_ret (results_cell_row rfl _ _ g8 33 #[.int .i64 (0), .string (⟨#[]⟩ : ByteArray), .int .i64 (0), .int .i64 (13)] (0, 0) _ rfl h2.1 Tryz.underlying33 rfl (by kernel_rfl)) rfl ?_
    exact ⟨by rw [HRv.out]; rfl, h2.2⟩
   | true =>
    have hmt : ¬ may (iAt l (inoI l v)) = false := by rw [HIx.out, Hb.out]; simp
    have HP1 := zM (dot_iff p)
    have HP2 := zM (dots_iff p)
    clear Hb
    by_cases h1 : p = ⟨#[46]⟩
    ·have hp1 := HP1.out.trans (zE h1)
     have HN := zM (HX.out.1.trans (wf_dot hmt h1))
     clear h1 HP1 HP2 hmt
     go_wp2
     go_roundg k1
     case measure => omega
     case rel => exact ⟨ls, v, n, A1, c1, rfl, rfl, rfl, ⟨HN.out, by have := HX.out.2.1; unfold mW at this ⊢; rw [List.length_cons] at this; omega, HX.out.2.2.1, HX.out.2.2.2⟩, HT, HB, HW, ⟨by have := HQ.out; rw [List.length_cons] at this; omega⟩⟩
    have hp1 := HP1.out.trans (zG h1)
    by_cases h2 : p = ⟨#[46, 46]⟩
    ·have hp2 := HP2.out.trans (zE h2)
     have HN := zM (HX.out.1.trans (wf_up hmt h1 h2))
     have HPA := zM (parent_any wy gv nx (some ad) c l v (HL.out.1.below HB.out))
     clear h1 h2 HP1 HP2 hmt
     go_wp2_with (go_at_call 46; refine HPA.out.mono ?_; rintro e w10 ⟨rfl, hb⟩; have n0_ := zM (zH HB.out HB.out.size hb); have n1_ := zM (zH HW.out HW.out.size hb); have n2_ := zM (And.intro HT.out.1 (Kd.C_below HT.out.2 hb)); clear HB HW HT; have HB := n0_; have HW := n1_; have HT := n2_; clear n0_ n1_ n2_; clear hb)
     go_roundg k1
     case measure => omega
     case rel => exact ⟨ls, _, n, A1, c1, rfl, rfl, rfl, ⟨HN.out, by have := HX.out.2.1; unfold mW at this ⊢; rw [List.length_cons] at this; omega, HX.out.2.2.1, HL.out.2.par v⟩, HT, HB, HW, ⟨by have := HQ.out; rw [List.length_cons] at this; omega⟩⟩
    have hp2 := HP2.out.trans (zG h2)
    by_cases h3 : 8 < p.size
    ·have h3i : (8 : Int) < (p.size : Int) := by omega
     have HRv := zM (show R = (0, ⟨#[]⟩, 0, 36) from by rw [HX.out.1, wf_long hmt h1 h2 h3]; rfl)
     clear h1 h2 HP1 HP2 hmt
     have B8 := zM (zL B8w.out HW.out)
     have z0 : World.cell? wy ⟨g8, 0, none⟩ = some (.int .i64 0) := (zC B8.out 0).trans rfl
     have z1 : World.cell? wy ⟨g8, 1, none⟩ = some (.string ⟨#[]⟩) := (zC B8.out 1).trans rfl
     have z2 : World.cell? wy ⟨g8, 2, none⟩ = some (.int .i64 0) := (zC B8.out 2).trans rfl
     have z3 : World.cell? wy ⟨g8, 3, none⟩ = some (.int .i64 0) := (zC B8.out 3).trans rfl
     have f0 := zF B8.out 0
     have f1 := zF B8.out 1
     have f2 := zF B8.out 2
     have f3 := zF B8.out 3
     go_wp2_with ((with_reducible refine gate_store (t := 33) (p := 8) rfl ?_); refine store_event (t := 33) (p := 8) (v := ?vo12) (w1 := World.setCell (World.setCell (World.setCell (World.setCell wy ⟨g8, 0, none⟩ (.int .i64 (0))) ⟨g8, 1, none⟩ (.string (⟨#[]⟩ : ByteArray))) ⟨g8, 2, none⟩ (.int .i64 (0))) ⟨g8, 3, none⟩ (.int .i64 (36))) ?sg12 ?so12 ?sn12 ?sr12 ?_; (case so12 => rfl); (case sg12 => rfl); (case sn12 => rfl); (case sr12 => first | (go_simp; done) | (go_simp; rfl)); intro W2 hw; have F := zM hw; clear hw)
     have h2 := spot_put (0) (0) (36) (⟨#[]⟩ : ByteArray) HB.out G8.out B8.out
     rw [← F.out] at h2
     refine bodyPost_ret (results_cell_row rfl _ _ g8 33 #[.int .i64 (0), .string (⟨#[]⟩ : ByteArray), .int .i64 (0), .int .i64 (36)] (0, 0) _ rfl h2.1 Tryz.underlying33 rfl (by kernel_rfl)) rfl ?_
     exact ⟨by rw [HRv.out]; rfl, h2.2⟩
    have h3i : ¬ (8 : Int) < (p.size : Int) := by omega
    have HN := zM (HX.out.1.trans (wf_rest hmt h1 h2 h3))
    have HS := zM (fun h0 => HL.out.2.step v p HX.out.2.2.2 h0)
    have HPA := zM (find_any wy _ A6 c6 x.f6 p (pw_cell_below HD.out HX6.out.1) (Kd.C_below HX6.out.2 HD.out))
    obtain ⟨id, hid⟩ : ∃ q, q = stepI l v p := ⟨_, rfl⟩
    have HI := zM hid
    rw [← hid] at HN HS
    have eid : lookD x.f6 p = id := by rw [hid]; unfold stepI; rw [HIx.out]
    rw [eid] at HPA
    clear h1 h2 h3 HP1 HP2 hmt hid eid HIx HX6 HD
    go_upto_region 16 with (go_at_call 47; refine HPA.out.mono ?_; rintro e w10 ⟨rfl, hb⟩; have n0_ := zM (zH HB.out HB.out.size hb); have n1_ := zM (zH HW.out HW.out.size hb); have n2_ := zM (And.intro HT.out.1 (Kd.C_below HT.out.2 hb)); clear HB HW HT; have HB := n0_; have HW := n1_; have HT := n2_; clear n0_ n1_ n2_; clear hb HPA)
    by_cases h0 : id = 0
    ·have h0b : (id == 0) = true := by simpa using h0
     rw [if_pos h0] at HN
     clear h0
     cases lb with
     | true =>
      have HRv := zM (show R = (v, p, 0, 2) from by rw [HN.out, if_pos (zO HLB.out.symm)])
      have B8 := zM (zL B8w.out HW.out)
      have z0 : World.cell? w10 ⟨g8, 0, none⟩ = some (.int .i64 0) := (zC B8.out 0).trans rfl
      have z1 : World.cell? w10 ⟨g8, 1, none⟩ = some (.string ⟨#[]⟩) := (zC B8.out 1).trans rfl
      have z2 : World.cell? w10 ⟨g8, 2, none⟩ = some (.int .i64 0) := (zC B8.out 2).trans rfl
      have z3 : World.cell? w10 ⟨g8, 3, none⟩ = some (.int .i64 0) := (zC B8.out 3).trans rfl
      have f0 := zF B8.out 0
      have f1 := zF B8.out 1
      have f2 := zF B8.out 2
      have f3 := zF B8.out 3
      go_wp2_with ((with_reducible refine gate_store (t := 33) (p := 8) rfl ?_); refine store_event (t := 33) (p := 8) (v := ?vo13) (w1 := World.setCell (World.setCell (World.setCell (World.setCell w10 ⟨g8, 0, none⟩ (.int .i64 (v))) ⟨g8, 1, none⟩ (.string p)) ⟨g8, 2, none⟩ (.int .i64 (0))) ⟨g8, 3, none⟩ (.int .i64 (2))) ?sg13 ?so13 ?sn13 ?sr13 ?_; (case so13 => rfl); (case sg13 => rfl); (case sn13 => rfl); (case sr13 => first | (go_simp; done) | (go_simp; rfl)); intro W2 hw; have F := zM hw; clear hw)
      have h2 := spot_put (v) (0) (2) p HB.out G8.out B8.out
      rw [← F.out] at h2
      refine bodyPost_ret (results_cell_row rfl _ _ g8 33 #[.int .i64 (v), .string p, .int .i64 (0), .int .i64 (2)] (0, 0) _ rfl h2.1 Tryz.underlying33 rfl (by kernel_rfl)) rfl ?_
      exact ⟨by rw [HRv.out]; rfl, h2.2⟩
     | false =>
      have HRv := zM (show R = (0, ⟨#[]⟩, 0, 2) from by rw [HN.out, if_neg (of_decide_eq_false HLB.out.symm)]; rfl)
      have B8 := zM (zL B8w.out HW.out)
      have z0 : World.cell? w10 ⟨g8, 0, none⟩ = some (.int .i64 0) := (zC B8.out 0).trans rfl
      have z1 : World.cell? w10 ⟨g8, 1, none⟩ = some (.string ⟨#[]⟩) := (zC B8.out 1).trans rfl
      have z2 : World.cell? w10 ⟨g8, 2, none⟩ = some (.int .i64 0) := (zC B8.out 2).trans rfl
      have z3 : World.cell? w10 ⟨g8, 3, none⟩ = some (.int .i64 0) := (zC B8.out 3).trans rfl
      have f0 := zF B8.out 0
      have f1 := zF B8.out 1
      have f2 := zF B8.out 2
      have f3 := zF B8.out 3
      go_wp2_with ((with_reducible refine gate_store (t := 33) (p := 8) rfl ?_); refine store_event (t := 33) (p := 8) (v := ?vo14) (w1 := World.setCell (World.setCell (World.setCell (World.setCell w10 ⟨g8, 0, none⟩ (.int .i64 (0))) ⟨g8, 1, none⟩ (.string (⟨#[]⟩ : ByteArray))) ⟨g8, 2, none⟩ (.int .i64 (0))) ⟨g8, 3, none⟩ (.int .i64 (2))) ?sg14 ?so14 ?sn14 ?sr14 ?_; (case so14 => rfl); (case sg14 => rfl); (case sn14 => rfl); (case sr14 => first | (go_simp; done) | (go_simp; rfl)); intro W2 hw; have F := zM hw; clear hw)
      have h2 := spot_put (0) (0) (2) (⟨#[]⟩ : ByteArray) HB.out G8.out B8.out
      rw [← F.out] at h2
      refine bodyPost_ret (results_cell_row rfl _ _ g8 33 #[.int .i64 (0), .string (⟨#[]⟩ : ByteArray), .int .i64 (0), .int .i64 (2)] (0, 0) _ rfl h2.1 Tryz.underlying33 rfl (by kernel_rfl)) rfl ?_
      exact ⟨by rw [HRv.out]; rfl, h2.2⟩
    have h0b : (id == 0) = false := by simpa using h0
    rw [if_neg h0] at HN
    have hj := HS.out h0
    obtain ⟨j, hjj⟩ : ∃ j, j = inoI l id := ⟨_, rfl⟩
    have hjl : j < l.length := by omega
    have hjli : (j : Int) < (l.length : Int) := by omega
    have HIN2 := zM (by have q := HIN.out w10 HB.out id; rw [inoP_yes ad l id hj, ← hjj] at q; exact q)
    have HNd : nodeW l v p = l[j] := by unfold nodeW; rw [← HI.out, ← hjj, iAt_eq l j hjl]
    rw [HNd] at HN
    have HLk := zM (show l[j].f1 = 3 → 1 ≤ l[j].f5.size from HL.out.2.link _ (List.getElem_mem hjl))
    have HSz := zM (show l[j].f5.size ≤ 1048576 from HL.out.1.small.2.2.1 _ (List.getElem_mem hjl))
    have HJ := zM hj
    clear h0 HS hjj HNd hj
    go_upto_region 21 with (go_at_call 44; refine HIN2.out.mono ?_; rintro e w12 ⟨rfl, hd⟩; have hb := hd.below; have n0_ := zM (zH HB.out HB.out.size hb); have n1_ := zM (zH HW.out HW.out.size hb); have n2_ := zM (And.intro HT.out.1 (Kd.C_below HT.out.2 hb)); clear HB HW HT; have HB := n0_; have HW := n1_; have HT := n2_; clear n0_ n1_ n2_; clear hd hb HIN2)
    obtain ⟨ad', A6x, c6x, eA, -, k1_, -, -, -, k5_, -, -, -, -, -⟩ := at_T37 (HL.out.1.below HB.out).row (j : Int) (by omega) hjli
    obtain rfl : ad = ad' := by injection eA
    rw [Int.toNat_natCast, rd45 l j hjl] at k1_ k5_
    generalize l[j] = x2 at HN HLk HSz k1_ k5_
    clear eA h0b
    have B15 := zM (And.intro k1_ k5_)
    go_cut [75] (fun v75 w' => v75 = .bool ((x2.f1 == 3) && (!lb || fol)) ∧ w12 = w')
    case first =>
     by_cases c3 : x2.f1 = 3
     ·have c3b : (x2.f1 == 3) = true := by simpa using c3
      clear HLB
      cases lb <;> cases fol
      all_goals
       go_wp2
       go_meet
       case rel => exact ⟨by rw [c3b]; rfl, rfl⟩
     ·have c3b : (x2.f1 == 3) = false := by simpa using c3
      go_wp2
      go_meet
      case rel => exact ⟨by rw [c3b]; rfl, rfl⟩
    case rest =>
    obtain ⟨rfl, e13⟩ := hcut
    subst e13
    have HKL := zM (show ((x2.f1 == 3) && (!lb || fol)) = true ↔ x2.f1 = 3 ∧ (ls ≠ [] ∨ fol = true) from by rw [HLB.out]; simp)
    cases hcd : ((x2.f1 == 3) && (!lb || fol)) with
    | true =>
     have hk := HKL.out.1 hcd
     have hsz := HLk.out hk.1
     rw [if_pos hk] at HN
     clear hk hcd HKL
     by_cases h8 : n = 8
     ·have h8b : ((n : Int) == 8) = true := by simp [h8]
      have HRv := zM (show R = (0, ⟨#[]⟩, 0, 40) from by rw [HN.out, if_pos h8]; rfl)
      clear h8
      have B8 := zM (zL B8w.out HW.out)
      have z0 : World.cell? w12 ⟨g8, 0, none⟩ = some (.int .i64 0) := (zC B8.out 0).trans rfl
      have z1 : World.cell? w12 ⟨g8, 1, none⟩ = some (.string ⟨#[]⟩) := (zC B8.out 1).trans rfl
      have z2 : World.cell? w12 ⟨g8, 2, none⟩ = some (.int .i64 0) := (zC B8.out 2).trans rfl
      have z3 : World.cell? w12 ⟨g8, 3, none⟩ = some (.int .i64 0) := (zC B8.out 3).trans rfl
      have f0 := zF B8.out 0
      have f1 := zF B8.out 1
      have f2 := zF B8.out 2
      have f3 := zF B8.out 3
      go_wp2_with ((with_reducible refine gate_store (t := 33) (p := 8) rfl ?_); refine store_event (t := 33) (p := 8) (v := ?vo15) (w1 := World.setCell (World.setCell (World.setCell (World.setCell w12 ⟨g8, 0, none⟩ (.int .i64 (0))) ⟨g8, 1, none⟩ (.string (⟨#[]⟩ : ByteArray))) ⟨g8, 2, none⟩ (.int .i64 (0))) ⟨g8, 3, none⟩ (.int .i64 (40))) ?sg15 ?so15 ?sn15 ?sr15 ?_; (case so15 => rfl); (case sg15 => rfl); (case sn15 => rfl); (case sr15 => first | (go_simp; done) | (go_simp; rfl)); intro W2 hw; have F := zM hw; clear hw)
      have h2 := spot_put (0) (0) (40) (⟨#[]⟩ : ByteArray) HB.out G8.out B8.out
      rw [← F.out] at h2
      refine bodyPost_ret (results_cell_row rfl _ _ g8 33 #[.int .i64 (0), .string (⟨#[]⟩ : ByteArray), .int .i64 (0), .int .i64 (40)] (0, 0) _ rfl h2.1 Tryz.underlying33 rfl (by kernel_rfl)) rfl ?_
      exact ⟨by rw [HRv.out]; rfl, h2.2⟩
     rw [if_neg h8] at HN
     have h8b : ((n : Int) == 8) = false := by rw [beq_eq_false_iff_ne]; omega
     obtain ⟨n1, hn1⟩ : ∃ n1, n1 = n + 1 := ⟨_, rfl⟩
     have hw1 : wrap64 ((n : Int) + 1) = (n1 : Int) := by have := HX.out.2.2.1; rw [w64 (by omega) (by omega)]; omega
     rw [← hn1] at HN
     have HN1 := zM (show n1 ≤ 8 ∧ n1 = n + 1 from by have := HX.out.2.2.1; omega)
     clear h8 hn1
     go_upto_region 24 with (fail)
     go_cut [11] (fun v11 w' => v11 = .int .i64 (n1 : Int) ∧ w12 = w')
     case first =>
      go_wp2
      go_meet
      case rel => exact ⟨by first | rfl | rw [hw1] | (simp [hw1]; done), rfl⟩
     case rest =>
     obtain ⟨rfl, e13⟩ := hcut
     subst e13
     clear hw1 h8b
     go_upto_region 25 with (fail)
     obtain ⟨cu, hcu⟩ : ∃ q : Int, q = if bt x2.f5 0 = 47 then 1 else v := ⟨_, rfl⟩
     rw [← hcu] at HN
     have hcul : inoI l cu < l.length := by
      rw [hcu]
      split
      ·exact HL.out.2.root
      ·exact HX.out.2.2.2
     have HCU := zM hcul
     clear hcul
     have hs0 : 0 < x2.f5.size := by omega
     have hs0i : (0 : Int) < (x2.f5.size : Int) := by omega
     have hx5_ : ∀ h : 0 < x2.f5.size, ((x2.f5[0]'h).toNat : Int) = bt x2.f5 0 := bt_at x2.f5 0
     go_cut [86] (fun v86 w' => v86 = .bool (bt x2.f5 0 == 47) ∧ w12 = w')
     case first =>
      go_wp2
      go_meet
      case rel => exact ⟨by first | rfl | (simp; done), rfl⟩
     case rest =>
     obtain ⟨rfl, e13⟩ := hcut
     subst e13
     go_upto_if 86 with (fail)
     go_cut [10] (fun v10 w' => v10 = .int .i64 cu ∧ w12 = w')
     case first =>
      by_cases h47 : bt x2.f5 0 = 47
      ·have hb47 : (bt x2.f5 0 == 47) = true := by simpa using h47
       go_wp2
       go_meet
       case rel => exact ⟨by rw [hcu, if_pos h47], rfl⟩
      ·have hb47 : (bt x2.f5 0 == 47) = false := by simpa using h47
       go_wp2
       go_meet
       case rel => exact ⟨by rw [hcu, if_neg h47], rfl⟩
     case rest =>
     obtain ⟨rfl, e13⟩ := hcut
     subst e13
     clear hx5_ hs0 hs0i hcu hsz
     have HTT := zM (pieces_le x2.f5 HSz.out)
     have HPC2 := zM (fun (W : World) (hW : Below w.heap.size w W) => HPI.out W hW x2.f5 HSz.out)
     generalize piecesB x2.f5 = tt at HN HPC2 HTT
     obtain ⟨q, hq⟩ : ∃ q, q = tt ++ ls := ⟨_, rfl⟩
     rw [← hq] at HN
     have HQ2 := zM hq
     clear hq
     have HQl := zM (show ls.length ≤ 1048577 from by have := HQ.out; rw [List.length_cons] at this; omega)
     go_upto_region 28 with (first | (go_at_call 23; refine (HPC2.out _ HB.out).mono ?_; rintro e w14 ⟨v20, rfl, hR, hb⟩; have HR20 := zM (Kd.R_lower hR HW.out.size); have n1_ := zM (zH HW.out HW.out.size hb); have n2_ := zM (And.intro HT.out.1 (Kd.C_below HT.out.2 hb)); clear HB HW HT k5_ k1_ B15 hR hb; have HW := n1_; have HT := n2_; clear n1_ n2_) | ((with_reducible refine gate_builtin (b := .append) (xs := #[.tmp 91, .tmp 92]) rfl ?_); at_builtin; refine Kd.R_append_row Value.string ByteArray.empty (w0 := w8) w8.heap.size rfl (.tmp 91) (.tmp 92) 50 9 (.string ⟨#[]⟩) 16 rfl Tryz.underlying50 info9 rfl (by decide) v20 tt ls A1 ls.length c1 (fun _ => True) rfl rfl (fun _ _ => trivial) HR20.out HT.out.2 HW.out HW.out.size ?aL ?_; (case aL => have := HTT.out; have := HQl.out; omega); intro v21 w15 ho hb hg hat; rw [← HQ2.out] at ho; obtain ⟨A21, c21, rfl, hc21, hC21⟩ := Kd.R_reads ho; clear HT HW hg hat ho; have HT := zM (And.intro hc21 (show Kd.C Kd.string w15 A21 q.length q from hC21)); have HW := zM hb; have HB := zM (zH HB8.out HB8.out.size hb); clear hc21 hC21 hb))
     by_cases h40 : 40 < q.length
     ·have h40i : (40 : Int) < (q.length : Int) := by omega
      have HRv := zM (show R = (0, ⟨#[]⟩, 0, 36) from by rw [HN.out, if_pos h40]; rfl)
      clear h40
      have B8 := zM (zL B8w.out HW.out)
      have z0 : World.cell? w15 ⟨g8, 0, none⟩ = some (.int .i64 0) := (zC B8.out 0).trans rfl
      have z1 : World.cell? w15 ⟨g8, 1, none⟩ = some (.string ⟨#[]⟩) := (zC B8.out 1).trans rfl
      have z2 : World.cell? w15 ⟨g8, 2, none⟩ = some (.int .i64 0) := (zC B8.out 2).trans rfl
      have z3 : World.cell? w15 ⟨g8, 3, none⟩ = some (.int .i64 0) := (zC B8.out 3).trans rfl
      have f0 := zF B8.out 0
      have f1 := zF B8.out 1
      have f2 := zF B8.out 2
      have f3 := zF B8.out 3
      go_wp2_with ((with_reducible refine gate_store (t := 33) (p := 8) rfl ?_); refine store_event (t := 33) (p := 8) (v := ?vo16) (w1 := World.setCell (World.setCell (World.setCell (World.setCell w15 ⟨g8, 0, none⟩ (.int .i64 (0))) ⟨g8, 1, none⟩ (.string (⟨#[]⟩ : ByteArray))) ⟨g8, 2, none⟩ (.int .i64 (0))) ⟨g8, 3, none⟩ (.int .i64 (36))) ?sg16 ?so16 ?sn16 ?sr16 ?_; (case so16 => rfl); (case sg16 => rfl); (case sn16 => rfl); (case sr16 => first | (go_simp; done) | (go_simp; rfl)); intro W2 hw; have F := zM hw; clear hw)
      have h2 := spot_put (0) (0) (36) (⟨#[]⟩ : ByteArray) HB.out G8.out B8.out
      rw [← F.out] at h2
      refine bodyPost_ret (results_cell_row rfl _ _ g8 33 #[.int .i64 (0), .string (⟨#[]⟩ : ByteArray), .int .i64 (0), .int .i64 (36)] (0, 0) _ rfl h2.1 Tryz.underlying33 rfl (by kernel_rfl)) rfl ?_
      exact ⟨by rw [HRv.out]; rfl, h2.2⟩
     have h40i : ¬ (40 : Int) < (q.length : Int) := by omega
     rw [if_neg h40] at HN
     have H40 := zM h40
     clear h40
     go_wp2
     go_roundg k1
     case measure => omega
     case rel => exact ⟨q, cu, n1, A21, c21, rfl, rfl, rfl, ⟨HN.out, by have := HX.out.2.1; have := H40.out; have := HN1.out; unfold mW at *; omega, HN1.out.1, HCU.out⟩, HT, HB, HW, ⟨by have := H40.out; omega⟩⟩
    | false =>
     have hk : ¬ (x2.f1 = 3 ∧ (ls ≠ [] ∨ fol = true)) := fun h => by rw [HKL.out.2 h] at hcd; cases hcd
     rw [if_neg hk] at HN
     clear hk hcd HKL
     cases lb with
     | true =>
      have HRv := zM (show R = (v, p, id, 0) from by rw [HN.out, if_pos (zO HLB.out.symm)])
      have B8 := zM (zL B8w.out HW.out)
      have z0 : World.cell? w12 ⟨g8, 0, none⟩ = some (.int .i64 0) := (zC B8.out 0).trans rfl
      have z1 : World.cell? w12 ⟨g8, 1, none⟩ = some (.string ⟨#[]⟩) := (zC B8.out 1).trans rfl
      have z2 : World.cell? w12 ⟨g8, 2, none⟩ = some (.int .i64 0) := (zC B8.out 2).trans rfl
      have z3 : World.cell? w12 ⟨g8, 3, none⟩ = some (.int .i64 0) := (zC B8.out 3).trans rfl
      have f0 := zF B8.out 0
      have f1 := zF B8.out 1
      have f2 := zF B8.out 2
      have f3 := zF B8.out 3
      go_wp2_with ((with_reducible refine gate_store (t := 33) (p := 8) rfl ?_); refine store_event (t := 33) (p := 8) (v := ?vo17) (w1 := World.setCell (World.setCell (World.setCell (World.setCell w12 ⟨g8, 0, none⟩ (.int .i64 (v))) ⟨g8, 1, none⟩ (.string p)) ⟨g8, 2, none⟩ (.int .i64 (id))) ⟨g8, 3, none⟩ (.int .i64 (0))) ?sg17 ?so17 ?sn17 ?sr17 ?_; (case so17 => rfl); (case sg17 => rfl); (case sn17 => rfl); (case sr17 => first | (go_simp; done) | (go_simp; rfl)); intro W2 hw; have F := zM hw; clear hw)
      have h2 := spot_put (v) (id) (0) p HB.out G8.out B8.out
      rw [← F.out] at h2
      refine bodyPost_ret (results_cell_row rfl _ _ g8 33 #[.int .i64 (v), .string p, .int .i64 (id), .int .i64 (0)] (0, 0) _ rfl h2.1 Tryz.underlying33 rfl (by kernel_rfl)) rfl ?_
      exact ⟨by rw [HRv.out]; rfl, h2.2⟩
     | false =>
      rw [if_neg (of_decide_eq_false HLB.out.symm)] at HN
      by_cases h2k : x2.f1 = 2
      ·have h2b : (x2.f1 != 2) = false := by simpa using h2k
       have h2c : (x2.f1 == 2) = true := by simpa using h2k
       rw [if_neg (fun h => h h2k)] at HN
       clear h2k
       go_wp2
       go_roundg k1
       case measure => omega
       case rel => exact ⟨ls, id, n, A1, c1, rfl, rfl, rfl, ⟨HN.out, by have := HX.out.2.1; unfold mW at this ⊢; rw [List.length_cons] at this; omega, HX.out.2.2.1, HJ.out⟩, HT, HB, HW, ⟨by have := HQ.out; rw [List.length_cons] at this; omega⟩⟩
      ·have h2b : (x2.f1 != 2) = true := by simpa using h2k
       have h2c : (x2.f1 == 2) = false := by simpa using h2k
       have HRv := zM (show R = (0, ⟨#[]⟩, 0, 20) from by rw [HN.out, if_pos h2k]; rfl)
       clear h2k
       have B8 := zM (zL B8w.out HW.out)
       have z0 : World.cell? w12 ⟨g8, 0, none⟩ = some (.int .i64 0) := (zC B8.out 0).trans rfl
       have z1 : World.cell? w12 ⟨g8, 1, none⟩ = some (.string ⟨#[]⟩) := (zC B8.out 1).trans rfl
       have z2 : World.cell? w12 ⟨g8, 2, none⟩ = some (.int .i64 0) := (zC B8.out 2).trans rfl
       have z3 : World.cell? w12 ⟨g8, 3, none⟩ = some (.int .i64 0) := (zC B8.out 3).trans rfl
       have f0 := zF B8.out 0
       have f1 := zF B8.out 1
       have f2 := zF B8.out 2
       have f3 := zF B8.out 3
       go_wp2_with ((with_reducible refine gate_store (t := 33) (p := 8) rfl ?_); refine store_event (t := 33) (p := 8) (v := ?vo18) (w1 := World.setCell (World.setCell (World.setCell (World.setCell w12 ⟨g8, 0, none⟩ (.int .i64 (0))) ⟨g8, 1, none⟩ (.string (⟨#[]⟩ : ByteArray))) ⟨g8, 2, none⟩ (.int .i64 (0))) ⟨g8, 3, none⟩ (.int .i64 (20))) ?sg18 ?so18 ?sn18 ?sr18 ?_; (case so18 => rfl); (case sg18 => rfl); (case sn18 => rfl); (case sr18 => first | (go_simp; done) | (go_simp; rfl)); intro W2 hw; have F := zM hw; clear hw)
       have h2 := spot_put (0) (0) (20) (⟨#[]⟩ : ByteArray) HB.out G8.out B8.out
       rw [← F.out] at h2
       refine bodyPost_ret (results_cell_row rfl _ _ g8 33 #[.int .i64 (0), .string (⟨#[]⟩ : ByteArray), .int .i64 (0), .int .i64 (20)] (0, 0) _ rfl h2.1 Tryz.underlying33 rfl (by kernel_rfl)) rfl ?_
       exact ⟨by rw [HRv.out]; rfl, h2.2⟩
end
end Go.Proofs.YtiopcpkfjikfdaaGreatDoor.PFnClean
