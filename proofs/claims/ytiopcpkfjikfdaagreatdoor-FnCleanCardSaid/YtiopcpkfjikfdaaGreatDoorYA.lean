/- By hand: what the law reaches, walked as plain functions. -/
import Derived.Test.YtiopcpkfjikfdaaGreatDoorQFnCleanx15
import Derived.Test.YtiopcpkfjikfdaaGreatDoorRB
set_option maxHeartbeats 8000000
set_option maxRecDepth 100000
namespace Go.Proofs.YtiopcpkfjikfdaaGreatDoor.PFnClean
open Go.RowKit Go.Proofs.YtiopcpkfjikfdaaGreatDoorW.PrintWords Go.Proofs.YtiopcpkfjikfdaaGreatDoorW.PrintLast Go.Proofs.YtiopcpkfjikfdaaGreatDoorW.PrintMore
open Go.Proofs.YtiopcpkfjikfdaaGreatDoorW.Mix
open Go.Proofs.YtiopcpkfjikfdaaGreatDoor.Mth Go.Proofs.YtiopcpkfjikfdaaGreatDoor.Str
set_option linter.unusedVariables false
set_option linter.unusedSimpArgs false
theorem node_any (wz : World) (nx id : Int) (v : Value) (l : List S37) (hv : VolO wz v l) (hs : volSmall l) (hi : inoI l id < l.length) :
  ∃ A6 c6, NamO wz (.slice A6 (iAt l (inoI l id)).f6.length c6) (iAt l (inoI l id)).f6 ∧ ∀ w, wz.grownBy w none → Calls Tryz.prog 98 #[.agg #[.int .i64 nx, v], .int .i64 id] w fun e w' => e = .returned (inoV (iAt l (inoI l id)) A6 c6) ∧ w.grownBy w' none := by
 have hu26 := Tryz.underlying26
 have hu37 := Tryz.underlying37
 obtain ⟨i, hie⟩ : ∃ i, i = inoI l id := ⟨_, rfl⟩
 have hil : i < l.length := by omega
 obtain ⟨ad, c, A6, c6, rfl, hx, hN⟩ := hv.ino i hil
 refine ⟨A6, c6, by rw [← hie, iAt_eq l i hil]; exact hN, fun w hW => ?_⟩
 replace hv := hv.keep hW
 obtain ⟨hx0, hx1, hx2, hx3, hx4, hx5, hx6, hx7, hx8⟩ := hx.keep hW
 obtain ⟨_, _, e0, hc, hC⟩ := hv.reads
 obtain ⟨rfl, rfl⟩ : _ = _ ∧ _ = _ := by injection e0 with e1 _ e3; exact ⟨e1, e3⟩
 have hat : atV l id = (i : Int) := by unfold atV; rw [if_pos hi, hie]
 have HA := zM (fun (W : World) (hW : w.grownBy W none) => by have q := atS_any nx (some ad) c l id W (Kd.C_below hC (below_grown hW)) hc hs; rw [hat] at q; exact q)
 have hm := hC.2.1
 rw [← hie, iAt_eq l i hil]
 have hili : (i : Int) < (l.length : Int) := by omega
 generalize l[i] = x at hx0 hx1 hx2 hx3 hx4 hx5 hx6 hx7 hx8 ⊢
 have HS := zM (St.start w none)
 clear e0 hc hC hv hs hi hie hat hN hx hW
 go_enter Tryz.func98, Tryz.ntmps98
 go_wp2_with (first | ((with_reducible refine gD 2 rfl ?_); refine st_box ?b0 (N := 2) ?b1 (cs := #[.int .i64 nx, .slice (some ad) l.length c]) (t := 26) ?b2 HS.out ?_; (case b1 => rfl); (case b0 => rfl); (case b2 => first | (go_simp; done) | (go_simp; rfl)); intro g2 w2 n0_ n1_; clear HS; have HS := n0_; clear n0_ n1_) | ((with_reducible refine gD 4 rfl ?_); refine st_box ?b0 (N := 4) ?b1 (cs := #[.int .i64 0, .int .i64 0, .int .i64 0, .int .i64 0, .int .i64 0, .string ⟨#[]⟩, .slice none 0 0, .int .i64 0, .int .i64 0]) (t := 37) ?b2 HS.out ?_; (case b1 => rfl); (case b0 => rfl); (case b2 => first | (go_simp; done) | (go_simp; rfl)); intro g4 w4 n0_ n1_; clear HS; have HS := n0_; clear n0_ n1_))
 have hX := HS.out.ge 0 rfl
 replace hX : ∀ g ∈ [g4], w.heap.size ≤ g := by simpa using hX
 have h24 : g2 ∉ [g4] := by simpa using HS.out.ne 1 0 rfl rfl (by decide)
 have hz0 : ∀ y : Kx [g4] w4, y.W.cell? ⟨g2, 0, none⟩ = some (.int .i64 nx) := Kx.box HS.out 1 rfl h24 0 rfl
 have hz1 : ∀ y : Kx [g4] w4, y.W.cell? ⟨g2, 1, none⟩ = some (.slice (some ad) l.length c) := Kx.box HS.out 1 rfl h24 1 rfl
 have hy0 := Kx.old HS.out hX hx0 (by simp)
 have hy1 := Kx.old HS.out hX hx1 (by simp)
 have hy2 := Kx.old HS.out hX hx2 (by simp)
 have hy3 := Kx.old HS.out hX hx3 (by simp)
 have hy4 := Kx.old HS.out hX hx4 (by simp)
 have hy5 := Kx.old HS.out hX hx5 (by simp)
 have hy6 := Kx.old HS.out hX hx6 (by simp)
 have hy7 := Kx.old HS.out hX hx7 (by simp)
 have hy8 := Kx.old HS.out hX hx8 (by simp)
 clear hx0 hx1 hx2 hx3 hx4 hx5 hx6 hx7 hx8
 simp only [Act.put, List.setIfInBounds_toArray, List.set_cons_zero, List.set_cons_succ]
 refine wp_region_mix (KxS [g4] w4) [([0, 1, 2, 3], 4), ([5, 6], 7)] [] (by kernel_rfl) (by kernel_rfl) (fun _ _ _ _ h => h) (KxS.drew _ _) ?_
 refine mix_seg ?_
 simp only [pickO, List.map]
 repeat (go_big_quiet_step (fail))
 refine wpQuiet_nil ?_
 go_wp2_with (go_at_call 31; refine (HA.out _ (HS.out.grown.trans' (grown_below (below_drew1 (Below.refl _ _)) none))).mono ?_; rintro e w1 ⟨rfl, hb⟩; have HB := zM hb; clear hb)
 have n0_ := zM (HS.out.drew.call HB.out)
 have n1_ := (KxS.drew [g4] w4).grow (grown_below HB.out none) (by simp)
 clear HS HB
 have HS := n0_
 clear n0_
 refine ⟨n1_, fun hK => mix_seg ?_⟩
 clear n1_
 simp only [pickO, List.map]
 repeat (go_big_quiet_step (fail))
 refine wpQuiet_nil ?_
 refine st_store rfl rfl 37 (.tmp 4) (.tmp 11) rfl 0 [.int .i64 x.f0, .int .i64 x.f1, .int .i64 x.f2, .int .i64 x.f3, .int .i64 x.f4, .string x.f5, .slice A6 x.f6.length c6, .int .i64 x.f7, .int .i64 x.f8] rfl rfl rfl (by kernel_rfl) rfl HS.out rfl rfl ?_
 intro w5 n0_ n1_
 clear HS
 have HS := n0_
 have HG := n1_
 clear n0_ n1_
 refine ⟨hK.grow HG.out (by simp), fun _ => mix_end (wpQuiet_nil ?_)⟩
 go_wp2
 refine rC 0 HS ?_
 exact ⟨rfl, HS.out.grown⟩
def withL (l : List S37) (x : S37) : List S37 := if inoI l x.f0 < l.length then l.set (inoI l x.f0) x else l ++ [x]
theorem okMs {w : World} {x : S37} {A6 : Option Addr} {c6 : Nat} {v : Value} {l : List S37} (hN : NamO w (.slice A6 x.f6.length c6) x.f6) (hv : VolO w v l) : k37.M w 0 (fun k => some k ≠ v.ownBlock) x [.int .i64 x.f0, .int .i64 x.f1, .int .i64 x.f2, .int .i64 x.f3, .int .i64 x.f4, .string x.f5, .slice A6 x.f6.length c6, .int .i64 x.f7, .int .i64 x.f8] :=
 k37_mkM w 0 _ x (Kd.R_mono (Kd.R_apartR hN hv (by decide)) (fun _ h => h.2))
theorem with_any (w : World) (nx : Int) (v : Value) (l : List S37) (hv : VolO w v l) (hs : volSmall l) (x : S37) (A6 : Option Addr) (c6 : Nat) (hN : NamO w (.slice A6 x.f6.length c6) x.f6) :
  Calls Tryz.prog 101 #[.agg #[.int .i64 nx, v], inoV x A6 c6] w fun e w' => ∃ v', e = .returned (.agg #[.int .i64 nx, v']) ∧ VolO w' v' (withL l x) ∧ w.grownBy w' v.ownBlock ∧ (v'.ownBlock = v.ownBlock ∨ ∃ b, v'.ownBlock = some b ∧ w.heap.size ≤ b) := by
 have hu26 := Tryz.underlying26
 have hu37 := Tryz.underlying37
 have hu24 := Tryz.underlying24
 obtain ⟨A, c, e0, hc, hC⟩ := hv.reads
 have HA := zM (fun (W : World) (hW : w.grownBy W none) => atS_any nx A c l x.f0 W (Kd.C_below hC (below_grown hW)) hc hs)
 have HV := zM hv
 have HN := zM hN
 have HL := zM hs.1
 have HS := zM (St.start w none)
 have HO := zM (Kd.R_lt hv)
 have hm := hC.2.1
 by_cases hi : inoI l x.f0 < l.length
 case neg =>
  have hat : atV l x.f0 = -1 := by unfold atV; rw [if_neg hi]
  have HW : withL l x = l ++ [x] := by unfold withL; rw [if_neg hi]
  rw [hat] at HA
  rw [HW]
  subst e0
  clear hi hat HW hC hv hs hN
  go_enter Tryz.func101, Tryz.ntmps101
  go_wp2_with (first | ((with_reducible refine gD 2 rfl ?_); refine sB #[.int .i64 nx, .slice A l.length c] 26 HS ?_; clear HS; intro g2 w2 HS _) | ((with_reducible refine gD 3 rfl ?_); refine sB #[.int .i64 x.f0, .int .i64 x.f1, .int .i64 x.f2, .int .i64 x.f3, .int .i64 x.f4, .string x.f5, .slice A6 x.f6.length c6, .int .i64 x.f7, .int .i64 x.f8] 37 HS ?_; clear HS; intro g3 w3 HS _) | ((with_reducible refine gD 4 rfl ?_); refine sB #[.int .i64 0, .slice none 0 0] 26 HS ?_; clear HS; intro g4 w4 HS _; obtain ⟨z0, z1⟩ := HS.out.cells2 2 rfl; obtain ⟨y0, y1, y2, y3, y4, y5, y6, y7, y8⟩ := HS.out.cells9 1 rfl) | (go_at_call 31; refine (HA.out _ HS.out.grown).mono ?_; rintro e w5 ⟨rfl, hb⟩; replace HS := zM (HS.out.call hb); clear hb; obtain ⟨z0, z1⟩ := HS.out.cells2 2 rfl; obtain ⟨y0, y1, y2, y3, y4, y5, y6, y7, y8⟩ := HS.out.cells9 1 rfl) | (refine gate_builtin (b := .append) (xs := #[.tmp 13, .tmp 15]) rfl ?_; at_builtin; refine Kd.R_append k37 (w0 := w5) 0 rfl (.tmp 13) (.tmp 15) 24 37 (.agg #[.int .i64 0, .int .i64 0, .int .i64 0, .int .i64 0, .int .i64 0, .string ⟨#[]⟩, .slice none 0 0, .int .i64 0, .int .i64 0]) 96 rfl hu24 info37 rfl (by decide) (by decide) (.slice A l.length c) l x [.int .i64 x.f0, .int .i64 x.f1, .int .i64 x.f2, .int .i64 x.f3, .int .i64 x.f4, .string x.f5, .slice A6 x.f6.length c6, .int .i64 x.f7, .int .i64 x.f8] (fun _ => True) _ rfl rfl (okMs (HN.out.keep HS.out.grown) (HV.out.keep HS.out.grown)) (fun _ h => ⟨trivial, h⟩) (fun _ _ => trivial) (HV.out.keep HS.out.grown) (Below.refl _ _) (Nat.zero_le _) (by have := HL.out; omega) ?_; intro v6 w6 hR _ hg hat; obtain ⟨Ax, cx, rfl⟩ := Kd.R_slice hR; rw [List.length_append] at hR hat ⊢; have HR := zM hR; have HAt := zM (Or.imp_right (fun ⟨b, h1, h2⟩ => (⟨b, h1, Nat.le_trans HS.out.grown.size h2⟩ : ∃ b, _ = some b ∧ w.heap.size ≤ b)) hat); replace HS := zM ((HS.out.loose _).growO hg HO.out); clear hR hg hat; obtain ⟨z0, z1⟩ := HS.out.cells2 2 rfl) | ((with_reducible refine gS 24 17 rfl ?_); refine sS 2 [.slice Ax (l.length + [x].length) cx] HS ?_; intro w7 n0_ n1_; replace HR := zM (R_box HR.out (HS.out.get 2 rfl) (by decide) n1_.out); clear HS; have HS := n0_; clear n0_ n1_; obtain ⟨z0, z1⟩ := HS.out.cells2 2 rfl) | ((with_reducible refine gS 26 4 rfl ?_); refine sS 0 [.int .i64 nx, .slice Ax (l.length + [x].length) cx] HS ?_; intro w8 n0_ n1_; replace HR := zM (R_box HR.out (HS.out.get 0 rfl) (by decide) n1_.out); clear HS; have HS := n0_; clear n0_ n1_))
  refine rC 0 HS ?_
  exact ⟨_, rfl, HR.out, HS.out.grown, HAt.out⟩
 obtain ⟨i, hie⟩ : ∃ i, i = inoI l x.f0 := ⟨_, rfl⟩
 have hat : atV l x.f0 = (i : Int) := by unfold atV; rw [if_pos hi, hie]
 have HW : withL l x = l.set i x := by unfold withL; rw [if_pos hi, hie]
 have hil : i < l.length := by omega
 have hili : (i : Int) < (l.length : Int) := by omega
 rw [hat] at HA
 rw [HW]
 obtain ⟨ad, _, _, _, e1, _⟩ := hv.at_ i hil
 rw [e0] at e1
 obtain ⟨rfl, -, rfl⟩ : A = some ad ∧ _ ∧ _ = _ := by injection e1 with e1 e2 e3; exact ⟨e1, e2, e3⟩
 subst e0
 obtain ⟨g, rfl⟩ := Kd.R_head hv
 clear hi hie hat HW hC hv hs hN e1
 go_enter Tryz.func101, Tryz.ntmps101
 go_wp2_with (first | ((with_reducible refine gD 2 rfl ?_); refine sB #[.int .i64 nx, .slice (some ⟨g, 0, none⟩) l.length c] 26 HS ?_; clear HS; intro g2 w2 HS _) | ((with_reducible refine gD 3 rfl ?_); refine sB #[.int .i64 x.f0, .int .i64 x.f1, .int .i64 x.f2, .int .i64 x.f3, .int .i64 x.f4, .string x.f5, .slice A6 x.f6.length c6, .int .i64 x.f7, .int .i64 x.f8] 37 HS ?_; clear HS; intro g3 w3 HS _) | ((with_reducible refine gD 4 rfl ?_); refine sB #[.int .i64 0, .slice none 0 0] 26 HS ?_; clear HS; intro g4 w4 HS _; obtain ⟨z0, z1⟩ := HS.out.cells2 2 rfl; obtain ⟨y0, y1, y2, y3, y4, y5, y6, y7, y8⟩ := HS.out.cells9 1 rfl) | (go_at_call 31; refine (HA.out _ HS.out.grown).mono ?_; rintro e w5 ⟨rfl, hb⟩; replace HS := zM (HS.out.call hb); clear hb; obtain ⟨z0, z1⟩ := HS.out.cells2 2 rfl; obtain ⟨y0, y1, y2, y3, y4, y5, y6, y7, y8⟩ := HS.out.cells9 1 rfl) | (refine gS 37 22 rfl ?_; go_loud (obtain ⟨ec, hcl, -, hcc, -⟩ := Kd.R_elem (HV.out.keep HS.out.grown) z37 (i : Int) (by omega) (by omega); refine Kd.R_store k37 (w0 := w5) 0 rfl rfl 37 (.tmp 22) (.tmp 21) rfl 37 (o' := i * 9) (i : Int) 0 l x _ [.int .i64 x.f0, .int .i64 x.f1, .int .i64 x.f2, .int .i64 x.f3, .int .i64 x.f4, .string x.f5, .slice A6 x.f6.length c6, .int .i64 x.f7, .int .i64 x.f8] ec (fun _ => True) (fun k => some k ≠ (.slice (some ⟨g, 0, none⟩) l.length c : Value).ownBlock) rfl (by show i * 9 = (i : Int).toNat * 9; rw [Int.toNat_natCast]) rfl rfl (by kernel_rfl) (List.all_eq_true.1 rfl) (HV.out.keep HS.out.grown) (by omega) (by omega) hcl hcc (Nat.le_refl 9) (by show k37.M w5 0 _ x ([.int .i64 x.f0, .int .i64 x.f1, .int .i64 x.f2, .int .i64 x.f3, .int .i64 x.f4, .string x.f5, .slice A6 x.f6.length c6, .int .i64 x.f7, .int .i64 x.f8] ++ ec.drop 9); rw [List.drop_of_length_le (show ec.length ≤ 9 from Nat.le_of_eq hcl), List.append_nil]; exact okMs (HN.out.keep HS.out.grown) (HV.out.keep HS.out.grown)) (fun k h => ⟨trivial, fun e => h (by rw [e]; rfl)⟩) (Below.refl _ _) ?_; intro w6 hR _ hg; rw [Int.toNat_natCast] at hR; have HR := zM hR; replace HS := zM ((HS.out.loose _).growO hg HO.out); clear hR hg hcl hcc; obtain ⟨z0, z1⟩ := HS.out.cells2 2 rfl)) | ((with_reducible refine gS 26 4 rfl ?_); refine sS 0 [.int .i64 nx, .slice (some ⟨g, 0, none⟩) l.length c] HS ?_; intro w8 n0_ n1_; replace HR := zM (R_box HR.out (HS.out.get 0 rfl) (by decide) n1_.out); clear HS; have HS := n0_; clear n0_ n1_))
 refine rC 0 HS ?_
 exact ⟨_, rfl, HR.out, HS.out.grown, .inl rfl⟩
theorem copy_any (w : World) (nx : Int) (v : Value) (l : List S37) (hv : VolO w v l) (hs : volSmall l) :
  Calls Tryz.prog 66 #[.agg #[.int .i64 nx, v]] w fun e w' => ∃ v', e = .returned (.agg #[.int .i64 nx, v']) ∧ Kd.S k37 37 w' w.heap.size (fun _ => True) v' l ∧ w.grownBy w' none := by
 have hu26 := Tryz.underlying26
 have hu37 := Tryz.underlying37
 have hu24 := Tryz.underlying24
 have hu35 := Tryz.underlying35
 obtain ⟨A, c, rfl, hc, hC⟩ := hv.reads
 have hm := hC.2.1
 have HV := zM hv
 have HL := zM hs
 have HS := zM (St.start w none)
 clear hv hs hC hc
 go_enter Tryz.func66, Tryz.ntmps66
 go_wp2_with (first | ((with_reducible refine gD 1 rfl ?_); refine sB #[.int .i64 nx, .slice A l.length c] 26 HS ?_; clear HS; intro g1 w1 HS _) | ((with_reducible refine gD 2 rfl ?_); refine sB #[.int .i64 0, .slice none 0 0] 26 HS ?_; clear HS; intro g2 w2 HS _; obtain ⟨z0, z1⟩ := HS.out.cells2 1 rfl) | ((with_reducible refine gD 3 rfl ?_); refine sB #[.int .i64 0, .slice none 0 0] 26 HS ?_; clear HS; intro g3 w3 HS _; obtain ⟨z0, z1⟩ := HS.out.cells2 2 rfl) | ((with_reducible refine gS 26 3 rfl ?_); refine sS 0 [.int .i64 nx, .slice none 0 0] HS ?_; clear HS; intro w4 HS _; obtain ⟨z0, z1⟩ := HS.out.cells2 0 rfl))
 go_loopg [4] l.length (fun kq v4 w' => ∃ (n : Nat) (u : Value), v4 = .int .i64 (n : Int) ∧ Aside0 (n + kq = l.length) ∧ Aside0 (Kd.S k37 37 w' w.heap.size (fun _ => True) u (l.take n)) ∧ Aside0 (St w none w' [(g3, 26, #[.int .i64 nx, u]), (g2, 26, #[.int .i64 0, .slice none 0 0]), (g1, 26, #[.int .i64 nx, .slice A l.length c])]))
 case atStart => exact ⟨0, .slice none 0 0, rfl, ⟨by simp⟩, ⟨Kd.S_nil _ _ _ _ _⟩, HS⟩
 case round =>
  clear HS
  obtain ⟨n, u, rfl, HK, HU, HS⟩ := hrel
  obtain ⟨q0, q1⟩ := HS.out.cells2 2 rfl
  by_cases hn : n < l.length
  ·cases gk with
   | zero => have := HK.out; omega
   | succ k1 =>
   obtain ⟨ad, c', A6, c6, e0, hx, hN⟩ := HV.out.ino n hn
   obtain ⟨rfl, rfl⟩ : A = some ad ∧ c = c' := by injection e0 with e1 e2 e3; exact ⟨e1, e3⟩
   have HX := zM (show l.take (n + 1) = l.take n ++ [l[n]] from List.take_succ_eq_append_getElem hn)
   have HN := zM hN
   have HL6 := zM (show l[n].f6.length ≤ 1048576 from HL.out.2.1 _ (List.getElem_mem hn))
   have HL0 := zM (show (l.take n).length ≤ 1048576 from by rw [List.length_take]; have := HL.out.1; omega)
   generalize l[n] = x at HX HN HL6 hx
   obtain ⟨hx0, hx1, hx2, hx3, hx4, hx5, hx6, hx7, hx8⟩ := hx.keep HS.out.grown
   generalize hlt : l.take n = xs at HX HU HL0
   clear e0 hN hlt hx
   go_wp2_with (first | ((with_reducible refine gD 5 rfl ?_); refine sB #[.int .i64 0, .int .i64 0, .int .i64 0, .int .i64 0, .int .i64 0, .string ⟨#[]⟩, .slice none 0 0, .int .i64 0, .int .i64 0] 37 HS ?_; intro g5 w5 n0_ n1_; have hu_ := zM (Kd.S_mono (ok' := fun k => k ≠ g5) (Kd.S_old HU.out n1_.out.1) (fun k hk he => by have := n1_.out.2; have := hk.2; omega)); clear HU; have HU := hu_; clear hu_; clear HS; have HS := n0_; clear n0_ n1_; obtain ⟨y0, y1, y2, y3, y4, y5, y6, y7, y8⟩ := HS.out.cells9 0 rfl) | ((with_reducible refine gS 37 5 rfl ?_); refine sS 0 [.int .i64 x.f0, .int .i64 x.f1, .int .i64 x.f2, .int .i64 x.f3, .int .i64 x.f4, .string x.f5, .slice A6 x.f6.length c6, .int .i64 x.f7, .int .i64 x.f8] HS ?_; intro w6 n0_ n1_; have hu_ := zM (Kd.S_grown HU.out n1_.out (fun k hk he => hk (by injection he))); clear HU; have HU := hu_; clear hu_; clear HS; have HS := n0_; clear n0_ n1_; obtain ⟨y0, y1, y2, y3, y4, y5, y6, y7, y8⟩ := HS.out.cells9 0 rfl) | (refine Kd.R_lit k59 (w0 := w6) w6.heap.size 59 rfl (N := 21) rfl (xs := ([] : List S59)) (inner := []) (ok := fun _ => True) (okp := fun _ => True) ?hr (Reps.none _ _) (fun _ hk => hk) trivial (Below.refl _ _) (Nat.le_refl _) (by simp) ?_; (case hr => first | (go_simp; done) | (go_simp; rfl)); intro v7 w7 hR _ hg _; have HR := zM hR; have HG7 := zM hg; have HS6 := zM (HS.out.grown.size); have n0_ := zM (Kd.S_old HU.out (below_grown hg)); have n1_ := zM (HS.out.calls hg); clear HU HS; have HU := n0_; have HS := n1_; clear n0_ n1_; clear hR hg; obtain ⟨y0, y1, y2, y3, y4, y5, y6, y7, y8⟩ := HS.out.cells9 0 rfl) | (refine gate_builtin (b := .append) (xs := #[.tmp 21, .tmp 23]) rfl ?_; at_builtin; have hC_ := (Kd.R_reads' (HN.out.keep HS.out.grown)).2.2; refine Kd.R_append_rows k59 (Rr := k59.K w7) (w0 := w6) w6.heap.size rfl (.tmp 21) (.tmp 23) 35 59 (.agg #[.string ⟨#[]⟩, .int .i64 0]) 24 rfl hu35 info59 rfl (by decide) (by decide) v7 [] x.f6 A6 x.f6.length c6 (fun _ => True) (fun _ => False) rfl rfl HR.out hC_ (fun _ _ h => h) (fun _ h => h.elim) (fun _ _ => trivial) (below_grown HG7.out) HG7.out.size (by have := HL6.out; simp; omega) ?_; intro v8 w8 hR _ hg _; rw [List.nil_append] at hR; obtain ⟨A8, c8, rfl⟩ := Kd.R_slice hR; have n0_ := zM (Kd.S_grown (ok := fun k => k ≠ g5 ∧ k < w6.heap.size) HU.out hg (fun k hk he => by have := Kd.R_base HR.out k he.symm; have := hk.2; omega)); have n1_ := zM (HS.out.growT hg (fun b hb => .inr (Nat.le_trans HS6.out (Kd.R_base HR.out b hb))) (Kd.R_typed HR.out) rfl); have n2_ := zM (hR); clear HU HS HR; have HU := n0_; have HS := n1_; have HR := n2_; clear n0_ n1_ n2_; clear hR hg; obtain ⟨y0, y1, y2, y3, y4, y5, y6, y7, y8⟩ := HS.out.cells9 0 rfl) | ((with_reducible refine gS 35 25 rfl ?_); refine sS 0 [.slice A8 x.f6.length c8] HS ?_; intro w9 n0_ n1_; have hu_ := zM (Kd.S_grown HU.out n1_.out (fun k hk he => hk.1 (by injection he))); clear HU; have HU := hu_; clear hu_; replace HR := zM (R_box HR.out (HS.out.get 0 rfl) (by decide) n1_.out); clear HS; have HS := n0_; clear n0_ n1_; obtain ⟨y0, y1, y2, y3, y4, y5, y6, y7, y8⟩ := HS.out.cells9 0 rfl; obtain ⟨q0, q1⟩ := HS.out.cells2 1 rfl) | (refine gate_builtin (b := .append) (xs := #[.tmp 27, .tmp 29]) rfl ?_; at_builtin; refine Kd.S_append k37 (w0 := w9) w.heap.size rfl (.tmp 27) (.tmp 29) 24 37 (.agg #[.int .i64 0, .int .i64 0, .int .i64 0, .int .i64 0, .int .i64 0, .string ⟨#[]⟩, .slice none 0 0, .int .i64 0, .int .i64 0]) 96 rfl hu24 info37 rfl (by decide) (by decide) u xs x [.int .i64 x.f0, .int .i64 x.f1, .int .i64 x.f2, .int .i64 x.f3, .int .i64 x.f4, .string x.f5, .slice A8 x.f6.length c8, .int .i64 x.f7, .int .i64 x.f8] (fun _ => True) (fun k => w6.heap.size ≤ k) rfl rfl (k37_mkM w9 w.heap.size _ x (Kd.R_lower (Kd.R_mono (Kd.R_bound HR.out) (fun k hk => hk.2.1)) HS6.out)) (fun k hk => ⟨trivial, fun he => by have := ((Kd.S_R HU.out).1 k he.symm).2; omega⟩) (fun _ _ => trivial) (Kd.S_mono HU.out (fun k hk => ⟨trivial, by have := hk.2; omega⟩)) (Below.refl _ _) HS.out.grown.size (by have := HL0.out; omega) ?_; intro v10 w10 hU _ hg _; obtain ⟨Aa, ca, rfl⟩ := Kd.S_slice hU; generalize hys : xs ++ [x] = ys at HX hU ⊢; clear hys; have n0_ := zM (HS.out.tail.growT hg (fun b hb => .inr (Kd.S_base HU.out b hb)) (Kd.S_typed HU.out) rfl); have n1_ := zM (hU); clear HS HU; have HS := n0_; have HU := n1_; clear n0_ n1_; clear hU hg; obtain ⟨q0, q1⟩ := HS.out.cells2 0 rfl) | ((with_reducible refine gS 24 31 rfl ?_); refine sS 0 [.slice Aa ys.length ca] HS ?_; intro w11 n0_ n1_; have hu_ := zM (S_box HU.out (HS.out.get 0 rfl) (by decide) n1_.out); clear HU; have HU := hu_; clear hu_; clear HS; have HS := n0_; clear n0_ n1_))
   go_roundg k1
   case measure => have := HK.out; omega
   case rel => exact ⟨n + 1, .slice Aa ys.length ca, rfl, ⟨by have := HK.out; omega⟩, ⟨by rw [HX.out]; exact HU.out⟩, ⟨HS.out⟩⟩
  ·have hnl : l.take n = l := List.take_of_length_le (by omega)
   rw [hnl] at HU
   obtain ⟨Au, cu, rfl⟩ := Kd.S_slice HU.out
   obtain ⟨z0, z1⟩ := HS.out.cells2 0 rfl
   clear hnl
   go_wp2_with (first | ((with_reducible refine gS 26 2 rfl ?_); refine sS 1 [.int .i64 nx, .slice Au l.length cu] HS ?_; intro w12 n0_ n1_; have hu_ := zM (S_box HU.out (HS.out.get 1 rfl) (by decide) n1_.out); clear HU; have HU := hu_; clear hu_; clear HS; have HS := n0_; clear n0_ n1_))
   refine rC 1 HS ?_
   exact ⟨_, rfl, HU.out, HS.out.grown⟩
def root0 : S37 := ⟨1, 2, 493, 0, 0, ⟨#[]⟩, [], 0, 0⟩
theorem new_any (w : World) :
  Calls Tryz.prog 63 #[] w fun e w' => ∃ v', e = .returned (.agg #[.int .i64 2, v']) ∧ VolO w' v' [root0] ∧ (∀ k, v'.ownBlock = some k → w.heap.size ≤ k) ∧ w.grownBy w' none := by
 have hu26 := Tryz.underlying26
 have hu37 := Tryz.underlying37
 have hu24 := Tryz.underlying24
 have HS := zM (St.start w none)
 go_enter Tryz.func63, Tryz.ntmps63
 go_wp2_with (first | ((with_reducible refine gD 0 rfl ?_); refine sB #[.int .i64 0, .slice none 0 0] 26 HS ?_; clear HS; intro g0 w0 HS _) | (refine Kd.R_lit k37 (w0 := w0) w0.heap.size 37 rfl (N := 2) rfl (xs := [root0]) (inner := [.int .i64 1, .int .i64 2, .int .i64 493, .int .i64 0, .int .i64 0, .string ⟨#[]⟩, .slice none 0 0, .int .i64 0, .int .i64 0]) (ok := fun _ => True) (okp := fun _ => True) ?hr (Reps.snoc (Reps.none _ _) (k37_mkM w0 _ _ root0 (Kd.R_nil _ _ _ _ _)) rfl) (fun _ hk => hk) trivial (Below.refl _ _) (Nat.le_refl _) (by simp) ?_; (case hr => first | (go_simp; done) | (go_simp; rfl)); intro v3 w3 hR _ hg _; obtain ⟨A3, c3, rfl⟩ := Kd.R_slice hR; have HO := zM (fun k hk => Nat.le_trans HS.out.grown.size (Kd.R_base hR k hk)); have HR := zM (Kd.R_lower hR (Nat.zero_le _)); replace HS := zM (HS.out.calls hg); clear hR hg) | ((with_reducible refine gS 26 0 rfl ?_); refine sS 0 [.int .i64 2, .slice A3 [root0].length c3] HS ?_; intro w4 n0_ n1_; replace HR := zM (R_box HR.out (HS.out.get 0 rfl) (by decide) n1_.out); clear HS; have HS := n0_; clear n0_ n1_))
 refine rC 0 HS ?_
 exact ⟨_, rfl, HR.out, HO.out, HS.out.grown⟩
theorem fits_any (w : World) (nx : Int) (v : Value) (l : List S37) (hv : VolO w v l) (hs : volSmall l) :
  Calls Tryz.prog 115 #[.agg #[.int .i64 nx, v]] w fun e w' => ∃ r : Int, e = .returned (.int .i64 r) ∧ w.grownBy w' none := by
 have hu26 := Tryz.underlying26
 obtain ⟨A, c, rfl, hc, hC⟩ := hv.reads
 have HA := zM (fun (W : World) (hW : w.grownBy W none) => bytesS_any nx A c l W (Kd.C_below hC (below_grown hW)) hc hs)
 have HO := zM (fun (W : World) (hW : w.grownBy W none) => overS_any nx A c l W (Kd.C_below hC (below_grown hW)) hc hs)
 have HS := zM (St.start w none)
 generalize ((totalN l : Nat) : Int) = n at HA
 generalize overFrom l l.length 0 = b at HO
 clear hv hs hc hC
 cases b <;> by_cases h4 : 400 < n
 all_goals
  go_enter Tryz.func115, Tryz.ntmps115
  go_wp2_with (first | ((with_reducible refine gD 1 rfl ?_); refine sB #[.int .i64 nx, .slice A l.length c] 26 HS ?_; clear HS; intro g1 w1 HS _; obtain ⟨z0, z1⟩ := HS.out.cells2 0 rfl) | (go_at_call 52; refine (HA.out _ HS.out.grown).mono ?_; rintro e w5 ⟨rfl, hb⟩; replace HS := zM (HS.out.call hb); clear hb; obtain ⟨z0, z1⟩ := HS.out.cells2 0 rfl) | (go_at_call 53; refine (HO.out _ HS.out.grown).mono ?_; rintro e w6 ⟨rfl, hb⟩; replace HS := zM (HS.out.call hb); clear hb))
  go_ret
  exact ⟨_, rfl, HS.out.grown⟩
theorem try_any (w : World) (nx0 : Int) (v0 : Value) (l0 : List S37) (hv0 : VolO w v0 l0) (nx : Int) (v : Value) (l : List S37) (hv : VolO w v l) (hs : volSmall l) :
  Calls Tryz.prog 99 #[.agg #[.int .i64 nx0, v0], .agg #[.int .i64 nx, v]] w fun e w' => ∃ (q : Value) (r : Int), e = .returned (.tuple #[q, .agg #[.int .i64 r, .string ⟨#[]⟩]]) ∧ (q = .agg #[.int .i64 nx0, v0] ∨ q = .agg #[.int .i64 nx, v]) ∧ w.grownBy w' none := by
 have hu26 := Tryz.underlying26
 have hu94 := Tryz.underlying94
 obtain ⟨A0, c0, rfl, -⟩ := hv0.reads
 obtain ⟨A, c, rfl, -⟩ := hv.reads
 have HF := zM (fun (W : World) (hW : w.grownBy W none) => fits_any W nx _ l (hv.keep hW) hs)
 have HS := zM (St.start w none)
 clear hv0 hv hs
 go_enter Tryz.func99, Tryz.ntmps99
 go_wp2_with (first | ((with_reducible refine gD 2 rfl ?_); refine sB #[.int .i64 nx0, .slice A0 l0.length c0] 26 HS ?_; clear HS; intro g2 w2 HS _) | ((with_reducible refine gD 3 rfl ?_); refine sB #[.int .i64 nx, .slice A l.length c] 26 HS ?_; clear HS; intro g3 w3 HS _) | ((with_reducible refine gD 4 rfl ?_); refine sB #[.int .i64 0, .slice none 0 0] 26 HS ?_; clear HS; intro g4 w4 HS _) | ((with_reducible refine gD 5 rfl ?_); refine sB #[.int .i64 0, .string ⟨#[]⟩] 94 HS ?_; clear HS; intro g5 w5 HS _; obtain ⟨z0, z1⟩ := HS.out.cells2 2 rfl) | (go_at_call 115; refine (HF.out _ HS.out.grown).mono ?_; rintro e w6 ⟨r, rfl, hg⟩; replace HS := zM (HS.out.calls hg); clear hg; obtain ⟨z0, z1⟩ := HS.out.cells2 2 rfl; obtain ⟨y0, y1⟩ := HS.out.cells2 3 rfl; (by_cases hr : r = 0)) | ((with_reducible refine gS 26 4 rfl ?_); refine sS 1 [.int .i64 nx0, .slice A0 l0.length c0] HS ?_; clear HS; intro w7 HS _) | ((with_reducible refine gS 94 5 rfl ?_); refine sS 0 [.int .i64 r, .string ⟨#[]⟩] HS ?_; clear HS; intro w8 HS _) | ((with_reducible refine gS 26 4 rfl ?_); refine sS 1 [.int .i64 nx, .slice A l.length c] HS ?_; clear HS; intro w9 HS _) | ((with_reducible refine gS 94 5 rfl ?_); refine sS 0 [.int .i64 0, .string ⟨#[]⟩] HS ?_; clear HS; intro w10 HS _))
 ·refine rVR 1 0 HS ?_
  exact ⟨_, ⟨_, rfl⟩, .inr rfl, HS.out.grown⟩
 ·refine rVR 1 0 HS ?_
  exact ⟨_, ⟨_, rfl⟩, .inl rfl, HS.out.grown⟩
theorem dir_any (w : World) (nx id : Int) (v : Value) (l : List S37) (hv : VolO w v l) (hs : volSmall l) :
  Calls Tryz.prog 105 #[.agg #[.int .i64 nx, v], .int .i64 id] w fun e w' => e = .returned (.bool (isDirB l id)) ∧ w.grownBy w' none := by
 have hu26 := Tryz.underlying26
 have hu37 := Tryz.underlying37
 obtain ⟨A, c, e0, hc, hC⟩ := hv.reads
 have hm := hC.2.1
 have HA := zM (fun (W : World) (hW : w.grownBy W none) => atS_any nx A c l id W (Kd.C_below hC (below_grown hW)) hc hs)
 have HS := zM (St.start w none)
 by_cases hi : inoI l id < l.length
 case neg =>
  have hat : atV l id = -1 := by unfold atV; rw [if_neg hi]
  have HB : isDirB l id = false := by unfold isDirB; rw [List.getElem?_eq_none (by omega)]
  rw [hat] at HA
  rw [HB]
  subst e0
  clear hi hat HB hC hv hs hc
  go_enter Tryz.func105, Tryz.ntmps105
  go_wp2_with (first | ((with_reducible refine gD 2 rfl ?_); refine sB #[.int .i64 nx, .slice A l.length c] 26 HS ?_; clear HS; intro g2 w2 HS _; obtain ⟨z0, z1⟩ := HS.out.cells2 0 rfl) | (go_at_call 31; refine (HA.out _ HS.out.grown).mono ?_; rintro e w5 ⟨rfl, hb⟩; replace HS := zM (HS.out.call hb); clear hb; obtain ⟨z0, z1⟩ := HS.out.cells2 0 rfl))
  go_ret
  exact ⟨rfl, HS.out.grown⟩
 obtain ⟨i, hie⟩ : ∃ i, i = inoI l id := ⟨_, rfl⟩
 have hil : i < l.length := by omega
 have hili : (i : Int) < (l.length : Int) := by omega
 have hat : atV l id = (i : Int) := by unfold atV; rw [if_pos hi, hie]
 have HB : isDirB l id = (l[i].f1 == 2) := by unfold isDirB; rw [← hie, List.getElem?_eq_getElem hil]
 rw [hat] at HA
 rw [HB]
 obtain ⟨ad, c', A6, c6, e1, hx, -⟩ := hv.ino i hil
 rw [e0] at e1
 obtain ⟨rfl, -, rfl⟩ : A = some ad ∧ _ ∧ c = c' := by injection e1 with e1 e2 e3; exact ⟨e1, e2, e3⟩
 have HX := zM hx
 generalize l[i] = x at HX ⊢
 subst e0
 clear hi hie hat HB hC hv hs hc hx e1
 by_cases h2 : x.f1 = 2
 all_goals
  go_enter Tryz.func105, Tryz.ntmps105
  go_wp2_with (first | ((with_reducible refine gD 2 rfl ?_); refine sB #[.int .i64 nx, .slice (some ad) l.length c] 26 HS ?_; clear HS; intro g2 w2 HS _; obtain ⟨z0, z1⟩ := HS.out.cells2 0 rfl) | (go_at_call 31; refine (HA.out _ HS.out.grown).mono ?_; rintro e w5 ⟨rfl, hb⟩; replace HS := zM (HS.out.call hb); clear hb; obtain ⟨z0, z1⟩ := HS.out.cells2 0 rfl; obtain ⟨hx0, hx1, -⟩ := HX.out.keep HS.out.grown))
  go_ret
  exact ⟨by simp [h2], HS.out.grown⟩
theorem inside_any (w : World) (nx id top : Int) (v : Value) (l : List S37) (hv : VolO w v l) (hs : volSmall l) :
  Calls Tryz.prog 106 #[.agg #[.int .i64 nx, v], .int .i64 id, .int .i64 top] w fun e w' => ∃ b : Bool, e = .returned (.bool b) ∧ w.grownBy w' none := by
 have hu26 := Tryz.underlying26
 obtain ⟨A, c, rfl, hc, hC⟩ := hv.reads
 have hm := hC.2.1
 have hs1 := hs.1
 have HA := zM (fun (W : World) (q : Int) (hW : w.grownBy W none) => parS_any nx A c l q W (Kd.C_below hC (below_grown hW)) hc hs)
 have HS := zM (St.start w none)
 clear hv hs hc hC
 go_enter Tryz.func106, Tryz.ntmps106
 go_wp2_with (first | ((with_reducible refine gD 3 rfl ?_); refine sB #[.int .i64 nx, .slice A l.length c] 26 HS ?_; clear HS; intro g3 w3 HS _; obtain ⟨z0, z1⟩ := HS.out.cells2 0 rfl))
 go_loopg [1, 7] (l.length + 1) (fun kq v1 v7 w' => ∃ (q : Int) (n : Nat), v1 = .int .i64 q ∧ v7 = .int .i64 (n : Int) ∧ Aside0 (n + kq = l.length + 1) ∧ Aside0 (St w none w' [(g3, 26, #[.int .i64 nx, .slice A l.length c])]))
 case atStart => exact ⟨id, 0, rfl, rfl, ⟨by simp⟩, HS⟩
 case round =>
  clear HS z0 z1
  obtain ⟨q, n, rfl, rfl, HK, HS⟩ := hrel
  obtain ⟨z0, z1⟩ := HS.out.cells2 0 rfl
  by_cases hn : n ≤ l.length
  ·cases gk with
   | zero => have := HK.out; omega
   | succ k1 =>
   by_cases h1 : q = top
   ·go_wp2
    go_ret
    exact ⟨_, rfl, HS.out.grown⟩
   by_cases h2 : q = 1
   ·go_wp2
    go_ret
    exact ⟨_, rfl, HS.out.grown⟩
   go_wp2_with (first | (go_at_call 57; refine (HA.out _ q HS.out.grown).mono ?_; rintro e w5 ⟨rfl, hb⟩; replace HS := zM (HS.out.call hb); clear hb))
   go_roundg k1
   case measure => have := HK.out; omega
   case rel => exact ⟨_, n + 1, rfl, rfl, ⟨by have := HK.out; omega⟩, HS⟩
  ·go_wp2
   go_ret
   exact ⟨_, rfl, HS.out.grown⟩
structure WfD (nx : Int) (l : List S37) : Prop where
 nx2 : 2 ≤ nx
 ids : (l.map (·.f0)).Nodup
 rng : ∀ x ∈ l, 1 ≤ x.f0 ∧ x.f0 < nx
 root : ∃ x ∈ l, x.f0 = 1
 kind : ∀ x ∈ l, x.f0 = 1 → x.f1 = 2
 led : ∀ x ∈ l, ∀ d ∈ x.f6, ∃ y ∈ l, y.f0 = d.f1
 n1 : ∀ x ∈ l, ∀ d ∈ x.f6, d.f1 ≠ 1
 dirs : ∀ x ∈ l, x.f6 ≠ [] → x.f1 = 2
 names : ∀ x ∈ l, (x.f6.map (·.f0)).Nodup
 link : ∀ x ∈ l, x.f1 = 3 → 1 ≤ x.f5.size
structure Sz (k : Nat) (l : List S37) : Prop where
 len : l.length ≤ k
 nms : ∀ x ∈ l, x.f6.length ≤ k
 dat : ∀ x ∈ l, x.f5.size ≤ 1048000
 nam : ∀ x ∈ l, ∀ d ∈ x.f6, d.f0.size ≤ 1048576
theorem Sz.small {k : Nat} {l : List S37} (h : Sz k l) (hk : k ≤ 1048576) : volSmall l := ⟨Nat.le_trans h.len hk, fun x hx => Nat.le_trans (h.nms x hx) hk, fun x hx => Nat.le_trans (h.dat x hx) (by decide), h.nam⟩
theorem Sz.mono {k k' : Nat} {l : List S37} (h : Sz k l) (hk : k ≤ k') : Sz k' l := ⟨Nat.le_trans h.len hk, fun x hx => Nat.le_trans (h.nms x hx) hk, h.dat, h.nam⟩
def nodeI (l : List S37) (id : Int) : S37 := iAt l (inoI l id)
section
variable {nx : Int} {l : List S37}
theorem there_of {id : Int} (h : ∃ y ∈ l, y.f0 = id) : inoI l id < l.length := by
 obtain ⟨y, hy, e⟩ := h
 exact List.findIdx_lt_length_of_exists ⟨y, hy, by simp [e]⟩
theorem there_ex {id : Int} (h : inoI l id < l.length) : nodeI l id ∈ l ∧ (nodeI l id).f0 = id := by
 unfold nodeI
 rw [iAt_eq l _ h]
 refine ⟨List.getElem_mem h, ?_⟩
 have := List.findIdx_getElem (w := h)
 exact eq_of_beq this
theorem there_iff {id : Int} : inoI l id < l.length ↔ ∃ y ∈ l, y.f0 = id := ⟨fun h => ⟨_, (there_ex h).1, (there_ex h).2⟩, there_of⟩
theorem ids_uniq : ∀ {l : List S37}, (l.map (·.f0)).Nodup → ∀ {x y : S37}, x ∈ l → y ∈ l → x.f0 = y.f0 → x = y
 | [], _, _, _, hx, _, _ => by cases hx
 | z :: l, hn, x, y, hx, hy, e => by
  rw [List.map_cons, List.nodup_cons] at hn
  rcases List.mem_cons.1 hx with hx1 | hx <;> rcases List.mem_cons.1 hy with hy1 | hy
  ·exact hx1.trans hy1.symm
  ·exact absurd (List.mem_map.2 ⟨y, hy, by rw [← e, hx1]⟩) hn.1
  ·exact absurd (List.mem_map.2 ⟨x, hx, by rw [e, hy1]⟩) hn.1
  ·exact ids_uniq hn.2 hx hy e
theorem WfD.node (h : WfD nx l) {x : S37} (hx : x ∈ l) : nodeI l x.f0 = x := by
 have h1 := there_ex (there_of ⟨x, hx, rfl⟩)
 exact ids_uniq h.ids h1.1 hx h1.2
theorem WfD.wfV (h : WfD nx l) : WfV l := ⟨there_of h.root, fun x hx d hd => there_of (h.led x hx d hd), h.link⟩
theorem mem_withL {x y : S37} (h : y ∈ withL l x) : y = x ∨ y ∈ l := by
 unfold withL at h
 split at h
 ·exact (List.mem_or_eq_of_mem_set h).symm
 ·rcases List.mem_append.1 h with h | h
  ·exact .inr h
  ·exact .inl (by simpa using h)
theorem withL_self (x : S37) : x ∈ withL l x := by
 unfold withL
 split
 ·rename_i h
  exact List.mem_iff_getElem.2 ⟨inoI l x.f0, by rw [List.length_set]; exact h, by simp⟩
 ·simp
theorem withL_ids {x : S37} : (withL l x).map (·.f0) = if inoI l x.f0 < l.length then l.map (·.f0) else l.map (·.f0) ++ [x.f0] := by
 unfold withL
 split
 ·rename_i h
  rw [List.map_set]
  apply List.ext_getElem?
  intro k
  rw [List.getElem?_set]
  split
  ·rename_i hk
   have h1 := (there_ex h).2
   unfold nodeI at h1
   rw [iAt_eq l _ h] at h1
   subst hk
   simp [h, h1]
  ·rfl
 ·simp
theorem withL_len {x : S37} : (withL l x).length = if inoI l x.f0 < l.length then l.length else l.length + 1 := by
 unfold withL
 split <;> simp
theorem there_map {l' : List S37} {id : Int} : (∃ y ∈ l', y.f0 = id) ↔ id ∈ l'.map (·.f0) := by simp
theorem withL_there {x : S37} {id : Int} (h : ∃ y ∈ l, y.f0 = id) : ∃ y ∈ withL l x, y.f0 = id := by
 rw [there_map] at h ⊢
 rw [withL_ids]
 split
 ·exact h
 ·exact List.mem_append_left _ h
/-- An inode of l is changed: its names lead somewhere, not to the root. -/
theorem WfD.set_ (h : WfD nx l) {x : S37} (hx : ∃ y ∈ l, y.f0 = x.f0) (hk : x.f0 = 1 → x.f1 = 2) (hd : ∀ d ∈ x.f6, (∃ y ∈ l, y.f0 = d.f1) ∧ d.f1 ≠ 1) (h2 : x.f6 ≠ [] → x.f1 = 2) (hn : (x.f6.map (·.f0)).Nodup) (hl : x.f1 = 3 → 1 ≤ x.f5.size) : WfD nx (withL l x) := by
 have ei : (withL l x).map (·.f0) = l.map (·.f0) := by rw [withL_ids, if_pos (there_of hx)]
 refine ⟨h.nx2, by rw [ei]; exact h.ids, fun y hy => ?_, withL_there h.root, fun y hy => ?_, fun y hy d hd' => withL_there ?_, fun y hy => ?_, fun y hy => ?_, fun y hy => ?_, fun y hy => ?_⟩ <;> rcases mem_withL hy with rfl | hy
 ·obtain ⟨z, hz, e⟩ := hx
  rw [← e]
  exact h.rng z hz
 ·exact h.rng y hy
 ·exact hk
 ·exact h.kind y hy
 ·exact (hd d hd').1
 ·exact h.led y hy d hd'
 ·exact fun d hd' => (hd d hd').2
 ·exact h.n1 y hy
 ·exact h2
 ·exact h.dirs y hy
 ·exact hn
 ·exact h.names y hy
 ·exact hl
 ·exact h.link y hy
/-- An inode of l is changed, but neither its kind nor its names. -/
theorem WfD.put (h : WfD nx l) {id : Int} (hi : inoI l id < l.length) {x : S37} (e0 : x.f0 = id) (e1 : x.f1 = (nodeI l id).f1) (e6 : x.f6 = (nodeI l id).f6) (hl : x.f1 = 3 → 1 ≤ x.f5.size) : WfD nx (withL l x) := by
 obtain ⟨hm, h0⟩ := there_ex hi
 refine h.set_ ⟨_, hm, by rw [h0, e0]⟩ (fun e => ?_) (fun d hd => ?_) (fun hne => ?_) ?_ hl
 ·rw [e1]
  exact h.kind _ hm (by rw [h0, ← e0, e])
 ·rw [e6] at hd
  exact ⟨h.led _ hm d hd, h.n1 _ hm d hd⟩
 ·rw [e1]
  exact h.dirs _ hm (by rw [← e6]; exact hne)
 ·rw [e6]
  exact h.names _ hm
/-- A new inode. -/
theorem WfD.new (h : WfD nx l) {x : S37} (e0 : x.f0 = nx) (e6 : x.f6 = []) (hl : x.f1 = 3 → 1 ≤ x.f5.size) : WfD (nx + 1) (withL l x) ∧ ∃ y ∈ withL l x, y.f0 = nx := by
 have hno : ¬ inoI l x.f0 < l.length := fun hi => by
  obtain ⟨hm, h0⟩ := there_ex hi
  have := (h.rng _ hm).2
  omega
 have ei : (withL l x).map (·.f0) = l.map (·.f0) ++ [x.f0] := by rw [withL_ids, if_neg hno]
 have h2 := h.nx2
 refine ⟨⟨by omega, ?_, fun y hy => ?_, withL_there h.root, fun y hy => ?_, fun y hy d hd' => withL_there ?_, fun y hy => ?_, fun y hy => ?_, fun y hy => ?_, fun y hy => ?_⟩, x, withL_self x, e0⟩
 ·rw [ei, List.nodup_append]
  refine ⟨h.ids, by simp, fun a ha b hb => ?_⟩
  obtain ⟨y, hy, rfl⟩ := List.mem_map.1 ha
  have := (h.rng y hy).2
  simp only [List.mem_singleton] at hb
  omega
 all_goals rcases mem_withL hy with rfl | hy
 ·omega
 ·have := h.rng y hy
  omega
 ·intro e
  omega
 ·exact h.kind y hy
 ·rw [e6] at hd'
  cases hd'
 ·exact h.led y hy d hd'
 ·rw [e6]
  simp
 ·exact h.n1 y hy
 ·rw [e6]
  simp
 ·exact h.dirs y hy
 ·rw [e6]
  simp
 ·exact h.names y hy
 ·exact hl
 ·exact h.link y hy
/-- A name is added. -/
theorem WfD.add (h : WfD nx l) {dir id : Int} {name : ByteArray} (hd : inoI l dir < l.length) (hk : (nodeI l dir).f1 = 2) (hi : ∃ y ∈ l, y.f0 = id) (h1 : id ≠ 1) (hne : ∀ d ∈ (nodeI l dir).f6, d.f0 ≠ name) {ds : List S59} (hp : ds.Perm (⟨name, id⟩ :: (nodeI l dir).f6)) : WfD nx (withL l { nodeI l dir with f6 := ds }) := by
 obtain ⟨hm, h0⟩ := there_ex hd
 refine h.set_ ⟨_, hm, rfl⟩ (fun _ => hk) (fun d hd => ?_) (fun _ => hk) ?_ (fun e => absurd (hk.symm.trans e) (by decide))
 ·rcases List.mem_cons.1 (hp.mem_iff.1 hd) with rfl | hd
  ·exact ⟨hi, h1⟩
  ·exact ⟨h.led _ hm d hd, h.n1 _ hm d hd⟩
 ·rw [(hp.map (·.f0)).nodup_iff, List.map_cons, List.nodup_cons]
  refine ⟨fun hmm => ?_, h.names _ hm⟩
  obtain ⟨d, hd, e⟩ := List.mem_map.1 hmm
  exact hne d hd e
/-- Some names are dropped. -/
theorem WfD.less (h : WfD nx l) {dir : Int} (hd : inoI l dir < l.length) {ds : List S59} (hp : ds.Sublist (nodeI l dir).f6) : WfD nx (withL l { nodeI l dir with f6 := ds }) := by
 obtain ⟨hm, h0⟩ := there_ex hd
 have hdr := h.dirs _ hm
 have hkd := h.kind _ hm
 have hlk := h.link _ hm
 refine h.set_ ⟨_, hm, rfl⟩ hkd (fun d hd => ⟨h.led _ hm d (hp.subset hd), h.n1 _ hm d (hp.subset hd)⟩) (fun hne => hdr (fun e => hne ?_)) ((hp.map (·.f0)).nodup (h.names _ hm)) hlk
 rw [e] at hp
 exact List.sublist_nil.1 hp
theorem named_zero {id : Int} (h : namedN l id = 0) : ∀ x ∈ l, ∀ d ∈ x.f6, d.f1 ≠ id := by
 intro x hx d hd e
 have h1 : cntD id x.f6 ∈ l.map fun x => cntD id x.f6 := List.mem_map.2 ⟨x, hx, rfl⟩
 have h2 : ∀ (ns : List Nat) (n : Nat), n ∈ ns → n ≤ ns.sum := by
  intro ns
  induction ns with
  | nil => exact fun n hn => absurd hn (by simp)
  | cons m ns ih =>
   intro n hn
   rw [List.sum_cons]
   rcases List.mem_cons.1 hn with rfl | hn
   ·omega
   ·have := ih n hn
    omega
 replace h2 : cntD id x.f6 ≤ namedN l id := h2 _ _ h1
 have h3 : 0 < cntD id x.f6 := by
  unfold cntD
  exact List.length_pos_of_mem (List.mem_filter.2 ⟨hd, by simp [e]⟩)
 omega
/-- An inode without a name is dropped. -/
theorem WfD.cut (h : WfD nx l) {id : Int} (h1 : id ≠ 1) (h0 : namedN l id = 0) : WfD nx (l.filter fun x => !(x.f0 == id)) := by
 have hs : (l.filter fun x => !(x.f0 == id)).Sublist l := List.filter_sublist
 have hm : ∀ {x}, x ∈ l.filter (fun x => !(x.f0 == id)) → x ∈ l := fun hx => hs.subset hx
 refine ⟨h.nx2, (hs.map _).nodup h.ids, fun x hx => h.rng x (hm hx), ?_, fun x hx => h.kind x (hm hx), fun x hx d hd => ?_, fun x hx => h.n1 x (hm hx), fun x hx => h.dirs x (hm hx), fun x hx => h.names x (hm hx), fun x hx => h.link x (hm hx)⟩
 ·obtain ⟨x, hx, e⟩ := h.root
  exact ⟨x, List.mem_filter.2 ⟨hx, by simp [e, Ne.symm h1]⟩, e⟩
 ·obtain ⟨y, hy, e⟩ := h.led x (hm hx) d hd
  have := named_zero h0 x (hm hx) d hd
  exact ⟨y, List.mem_filter.2 ⟨hy, by simp [e, this]⟩, e⟩
theorem cut_there {id q : Int} (hq : q ≠ id) (h : ∃ y ∈ l, y.f0 = q) : ∃ y ∈ l.filter (fun x => !(x.f0 == id)), y.f0 = q := by
 obtain ⟨y, hy, e⟩ := h
 exact ⟨y, List.mem_filter.2 ⟨hy, by simp [e, hq]⟩, e⟩
theorem Sz.put {k : Nat} (h : Sz k l) {id : Int} (hi : inoI l id < l.length) {x : S37} (e0 : x.f0 = id) (e6 : x.f6 = (nodeI l id).f6) (h5 : x.f5.size ≤ 1048000) : Sz k (withL l x) := by
 obtain ⟨hm, h0⟩ := there_ex hi
 refine ⟨by rw [withL_len, if_pos (by rw [e0]; exact hi)]; exact h.len, fun y hy => ?_, fun y hy => ?_, fun y hy => ?_⟩ <;> rcases mem_withL hy with rfl | hy
 ·rw [e6]
  exact h.nms _ hm
 ·exact h.nms y hy
 ·exact h5
 ·exact h.dat y hy
 ·rw [e6]
  exact h.nam _ hm
 ·exact h.nam y hy
theorem Sz.names {k k' : Nat} (h : Sz k l) (hk : k ≤ k') {dir : Int} (hd : inoI l dir < l.length) {ds : List S59} (hl : ds.length ≤ k') (hs : ∀ d ∈ ds, d.f0.size ≤ 1048576) : Sz k' (withL l { nodeI l dir with f6 := ds }) := by
 obtain ⟨hm, h0⟩ := there_ex hd
 have h5 := h.dat _ hm
 refine ⟨by rw [withL_len, if_pos (by show inoI l (nodeI l dir).f0 < _; rw [h0]; exact hd)]; exact Nat.le_trans h.len hk, fun y hy => ?_, fun y hy => ?_, fun y hy => ?_⟩ <;> rcases mem_withL hy with rfl | hy
 ·exact hl
 ·exact Nat.le_trans (h.nms y hy) hk
 ·exact h5
 ·exact h.dat y hy
 ·exact hs
 ·exact h.nam y hy
theorem Sz.new {k : Nat} (h : Sz k l) {x : S37} (e6 : x.f6 = []) (h5 : x.f5.size ≤ 1048000) : Sz (k + 1) (withL l x) := by
 refine ⟨by have := h.len; rw [withL_len]; split <;> omega, fun y hy => ?_, fun y hy => ?_, fun y hy => ?_⟩ <;> rcases mem_withL hy with rfl | hy
 ·rw [e6]
  exact Nat.zero_le _
 ·exact Nat.le_trans (h.nms y hy) (Nat.le_succ _)
 ·exact h5
 ·exact h.dat y hy
 ·rw [e6]
  simp
 ·exact h.nam y hy
theorem Sz.cut {k : Nat} (h : Sz k l) (f : S37 → Bool) : Sz k (l.filter f) :=
 ⟨Nat.le_trans (List.length_filter_le _ _) h.len, fun x hx => h.nms x (List.mem_filter.1 hx).1, fun x hx => h.dat x (List.mem_filter.1 hx).1, fun x hx => h.nam x (List.mem_filter.1 hx).1⟩
def KindD (l : List S37) (id : Int) : Prop := inoI l id < l.length ∧ (nodeI l id).f1 = 2
def SpotOk (l : List S37) (fol : Bool) (R : Spot4) : Prop :=
 (R.2.2.2 = 0 → R.2.1 = ⟨#[]⟩ → KindD l R.2.2.1) ∧
 (R.2.2.2 = 0 → R.2.1 ≠ ⟨#[]⟩ → KindD l R.1 ∧ R.2.2.1 = stepI l R.1 R.2.1 ∧ R.2.2.1 ≠ 0 ∧ R.2.1.size ≤ 8 ∧ (fol = true → (nodeI l R.2.2.1).f1 ≠ 3)) ∧
 (R.2.2.2 = 2 → R.2.1 ≠ ⟨#[]⟩ → KindD l R.1 ∧ R.2.2.1 = 0 ∧ stepI l R.1 R.2.1 = 0 ∧ R.2.1.size ≤ 8)
theorem WfD.rootK (h : WfD nx l) : KindD l 1 := by
 obtain ⟨x, hx, e⟩ := h.root
 refine ⟨there_of ⟨x, hx, e⟩, ?_⟩
 have := h.node hx
 rw [e] at this
 rw [this]
 exact h.kind x hx e
theorem WfD.parK (h : WfD nx l) (v : Int) : KindD l (parentI l v) := by
 unfold parentI
 split
 ·rename_i x hx
  have hm := List.mem_of_find?_eq_some hx
  have hh := List.find?_some hx
  refine ⟨there_of ⟨x, hm, rfl⟩, ?_⟩
  rw [h.node hm]
  refine h.dirs x hm (fun e => ?_)
  rw [e] at hh
  cases hh
 ·exact h.rootK
theorem spE_ok (fol : Bool) (c : Int) (h0 : c ≠ 0) : SpotOk l fol (spE c) := ⟨fun h => absurd h h0, fun h => absurd h h0, fun _ h => absurd rfl h⟩
theorem ne_empty {p : ByteArray} (h : neB p = true) : p ≠ ⟨#[]⟩ := by
 rintro rfl
 exact absurd h (by decide)
theorem walk_spot (h : WfD nx l) (may : S37 → Bool) (fol : Bool) : ∀ (k : Nat) (v : Int) (n : Nat) (t : List ByteArray), KindD l v → (∀ p ∈ t, p ≠ ⟨#[]⟩) → SpotOk l fol (walkF l may fol k v n t)
 | 0, v, n, t, hv, ht => ⟨fun _ _ => hv, fun _ h => absurd rfl h, fun h => absurd h (by show (0 : Int) ≠ 2; decide)⟩
 | k + 1, v, n, [], hv, ht => ⟨fun _ _ => hv, fun _ h => absurd rfl h, fun h => absurd h (by show (0 : Int) ≠ 2; decide)⟩
 | k + 1, v, n, p :: t, hv, ht => by
  have hp := ht p (by simp)
  have ht' : ∀ q ∈ t, q ≠ ⟨#[]⟩ := fun q hq => ht q (List.mem_cons_of_mem _ hq)
  unfold walkF
  split
  ·exact spE_ok fol 13 (by decide)
  split
  ·exact walk_spot h may fol k v n t hv ht'
  split
  ·exact walk_spot h may fol k _ n t (h.parK v) ht'
  split
  ·exact spE_ok fol 36 (by decide)
  rename_i h8
  split
  ·rename_i hs
   split
   ·exact ⟨fun e => absurd e (by show (2 : Int) ≠ 0; decide), fun e => absurd e (by show (2 : Int) ≠ 0; decide), fun _ _ => ⟨hv, rfl, hs, by show p.size ≤ 8; omega⟩⟩
   ·exact spE_ok fol 2 (by decide)
  rename_i hs
  split
  ·split
   ·exact spE_ok fol 40 (by decide)
   split
   ·exact spE_ok fol 36 (by decide)
   refine walk_spot h may fol k _ _ _ ?_ (fun q hq => ?_)
   ·split
    ·exact h.rootK
    ·exact hv
   ·rcases List.mem_append.1 hq with hq | hq
    ·unfold piecesB at hq
     exact ne_empty (List.mem_filter.1 hq).2
    ·exact ht' q hq
  rename_i hln
  split
  ·rename_i htn
   refine ⟨fun _ e => absurd e hp, fun _ _ => ⟨hv, rfl, hs, by show p.size ≤ 8; omega, fun hf h3 => hln ⟨h3, .inr hf⟩⟩, fun e => absurd e (by show (0 : Int) ≠ 2; decide)⟩
  split
  ·exact spE_ok fol 20 (by decide)
  rename_i h2
  refine walk_spot h may fol k _ n t ⟨h.wfV.step v p hv.1 hs, ?_⟩ ht'
  have h3 : (nodeW l v p).f1 = 2 := Decidable.byContradiction h2
  exact h3
theorem walkV_spot (h : WfD nx l) (may : S37 → Bool) (path : ByteArray) (fol : Bool) : SpotOk l fol (walkV l may path fol) :=
 walk_spot h may fol _ 1 0 _ h.rootK (fun q hq => by
  unfold piecesB at hq
  exact ne_empty (List.mem_filter.1 hq).2)
theorem lookD_none (p : ByteArray) (ds : List S59) (h0 : ∀ d ∈ ds, d.f1 ≠ 0) (h : lookD ds p = 0) : ∀ d ∈ ds, d.f0 ≠ p := by
 induction ds with
 | nil => simp
 | cons d ds ih =>
  rw [lookD] at h
  split at h
  ·exact absurd h (h0 d (by simp))
  ·rename_i hne
   intro d' hd'
   rcases List.mem_cons.1 hd' with rfl | hd'
   ·exact hne
   ·exact ih (fun q hq => h0 q (List.mem_cons_of_mem _ hq)) h d' hd'
theorem lookD_only (p : ByteArray) (ds : List S59) (hn : (ds.map (·.f0)).Nodup) (d : S59) (hd : d ∈ ds) (e : d.f0 = p) : lookD ds p = d.f1 := by
 induction ds with
 | nil => cases hd
 | cons d' ds ih =>
  rw [List.map_cons, List.nodup_cons] at hn
  rw [lookD]
  rcases List.mem_cons.1 hd with rfl | hd
  ·rw [if_pos e]
  ·rw [if_neg, ih hn.2 hd]
   intro e'
   exact hn.1 (List.mem_map.2 ⟨d, hd, by rw [e, e']⟩)
theorem WfD.pos (h : WfD nx l) {x : S37} (hx : x ∈ l) : ∀ d ∈ x.f6, d.f1 ≠ 0 := fun d hd e => by
 obtain ⟨y, hy, ey⟩ := h.led x hx d hd
 have := (h.rng y hy).1
 omega
/-- No name there: none of the names is it. -/
theorem WfD.noName (h : WfD nx l) {dir : Int} {p : ByteArray} (hd : KindD l dir) (h0 : stepI l dir p = 0) : ∀ d ∈ (nodeI l dir).f6, d.f0 ≠ p :=
 lookD_none p _ (h.pos (there_ex hd.1).1) h0
/-- A name leads to what is there, not the root. -/
theorem WfD.step (h : WfD nx l) {dir : Int} {p : ByteArray} (hd : KindD l dir) (h0 : stepI l dir p ≠ 0) : (∃ y ∈ l, y.f0 = stepI l dir p) ∧ stepI l dir p ≠ 1 ∧ ∃ d ∈ (nodeI l dir).f6, d.f0 = p ∧ d.f1 = stepI l dir p := by
 have key : ∀ ds : List S59, lookD ds p ≠ 0 → ∃ d ∈ ds, d.f0 = p ∧ d.f1 = lookD ds p := by
  intro ds
  induction ds with
  | nil => exact fun hh => absurd rfl hh
  | cons d ds ih =>
   intro hh
   by_cases e : d.f0 = p
   ·exact ⟨d, by simp, e, by rw [lookD, if_pos e]⟩
   ·rw [lookD, if_neg e] at hh ⊢
    obtain ⟨d', h1, h2⟩ := ih hh
    exact ⟨d', by simp [h1], h2⟩
 obtain ⟨d, h1, h2, h3⟩ := key _ h0
 have hm := (there_ex hd.1).1
 refine ⟨?_, ?_, d, h1, h2, h3⟩
 ·show ∃ y ∈ l, y.f0 = lookD _ p
  rw [← h3]
  exact h.led _ hm d h1
 ·show lookD _ p ≠ 1
  rw [← h3]
  exact h.n1 _ hm d h1
end
theorem dec_ex_loop : ∀ (d : Nat) (x : Int) (acc : ByteArray) (neg : Bool), x.natAbs < 10 ^ d → -9223372036854775808 ≤ x → x ≤ 9223372036854775807 → acc.size + d ≤ 1000 →
  ∃ r : ByteArray, Ev (fun k => spec_Dec.l0 k x acc neg) r ∧ r.size ≤ 1001 := by
 have hz : ∀ (acc : ByteArray) (neg : Bool), acc.size ≤ 1000 → ∃ r : ByteArray, Ev (fun k => spec_Dec.l0 k 0 acc neg) r ∧ r.size ≤ 1001 := by
  intro acc neg ha
  by_cases h : neg = true
  ·refine ⟨_, Ev.step (spec_Dec.l0.eq_2 _ _ _) (ev_pos rfl (ev_pos h (ev_pos (by omega) (ev_now rfl)))), ?_⟩
   rw [ByteArray.size_append]
   show 1 + acc.size ≤ 1001
   omega
  ·exact ⟨_, Ev.step (spec_Dec.l0.eq_2 _ _ _) (ev_pos rfl (ev_neg h (ev_now rfl))), by omega⟩
 intro d
 induction d with
 | zero =>
  intro x acc neg hx _ _ ha
  have : x = 0 := by simp at hx; exact hx
  subst this
  exact hz acc neg (by omega)
 | succ d ih =>
  intro x acc neg hx h0 h1 ha
  by_cases hx0 : x = 0
  ·subst hx0; exact hz acc neg (by omega)
  ·have hn := dec_next x h0 h1
   have hpow : (wrap64 (x.tdiv 10)).natAbs < 10 ^ d := by rw [hn.1]; rw [Nat.pow_succ] at hx; omega
   by_cases hm : x.tmod 10 < 0
   ·obtain ⟨r, hr, hs⟩ := ih (wrap64 (x.tdiv 10)) (strOfNums [(wrap64 (48 + (wrap64 (-(Int.tmod x 10))))) % 256] ++ acc) neg hpow hn.2.1 hn.2.2 (by rw [ByteArray.size_append, strOfNums_size]; simp; omega)
    exact ⟨r, Ev.step (spec_Dec.l0.eq_2 _ _ _) (ev_neg hx0 (ev_pos hm (ev_some (ev_pos (by rw [strOfNums_size]; simp; omega) hr)))), hs⟩
   ·obtain ⟨r, hr, hs⟩ := ih (wrap64 (x.tdiv 10)) (strOfNums [(wrap64 (48 + (Int.tmod x 10))) % 256] ++ acc) neg hpow hn.2.1 hn.2.2 (by rw [ByteArray.size_append, strOfNums_size]; simp; omega)
    exact ⟨r, Ev.step (spec_Dec.l0.eq_2 _ _ _) (ev_neg hx0 (ev_neg hm (ev_some (ev_pos (by rw [strOfNums_size]; simp; omega) hr)))), hs⟩
theorem dec_ex (x : Int) : ∃ r : ByteArray, Ev (fun k => spec_Dec.f k x) r ∧ r.size ≤ 1001 := by
  unfold spec_Dec.f
  by_cases hx : x = 0
  · exact ⟨_, ev_pos hx (ev_now rfl), by show 1 ≤ 1001; decide⟩
  · have hb : -9223372036854775808 ≤ wrap64 (x.tdiv 10) ∧ wrap64 (x.tdiv 10) ≤ 9223372036854775807 := by unfold wrap64; omega
    have hp : (wrap64 (x.tdiv 10)).natAbs < 10 ^ 20 := by have : (10 : Nat) ^ 20 = 100000000000000000000 := by decide
                                                          omega
    by_cases hm : x.tmod 10 < 0
    · obtain ⟨r, hr, hs⟩ := dec_ex_loop 20 (wrap64 (x.tdiv 10)) (strOfNums [(wrap64 (48 + (wrap64 (-(Int.tmod x 10))))) % 256] ++ ⟨#[]⟩) (decide (x < 0)) hp hb.1 hb.2 (by rw [ByteArray.size_append, strOfNums_size]; show 1 + 0 + 20 ≤ 1000; omega)
      exact ⟨r, ev_neg hx (Ev.step (spec_Dec.l0.eq_2 _ _ _) (ev_neg hx (ev_pos hm (ev_some (ev_pos (by rw [strOfNums_size]; show 1 + 0 ≤ 9223372036854775807; omega) hr))))), hs⟩
    · obtain ⟨r, hr, hs⟩ := dec_ex_loop 20 (wrap64 (x.tdiv 10)) (strOfNums [(wrap64 (48 + (Int.tmod x 10))) % 256] ++ ⟨#[]⟩) (decide (x < 0)) hp hb.1 hb.2 (by rw [ByteArray.size_append, strOfNums_size]; show 1 + 0 + 20 ≤ 1000; omega)
      exact ⟨r, ev_neg hx (Ev.step (spec_Dec.l0.eq_2 _ _ _) (ev_neg hx (ev_neg hm (ev_some (ev_pos (by rw [strOfNums_size]; show 1 + 0 ≤ 9223372036854775807; omega) hr))))), hs⟩
theorem dec_any (w : World) (x : Int) : Calls Tryz.prog 108 #[.int .i64 x] w fun e w' => ∃ r : ByteArray, e = .returned (.string r) ∧ r.size ≤ 1001 ∧ w.grownBy w' none := by
 obtain ⟨r, ⟨K, hK⟩, hs⟩ := dec_ex x
 exact (spec_Dec.calls K x r w (hK K (Nat.le_refl _))).mono fun e w' h => ⟨r, h.1, hs, grown_below h.2 none⟩
theorem use_any (w : World) (nx id : Int) (v : Value) (l : List S37) (hv : VolO w v l) (hs : volSmall l) : Calls Tryz.prog 77 #[.agg #[.int .i64 nx, v], .int .i64 id] w fun e w' => ∃ a b : Int, e = .returned (.tuple #[.int .i64 a, .int .i64 b]) ∧ w.grownBy w' none := by
 obtain ⟨A, c, rfl, hc, hC⟩ := hv.reads
 exact (usageS_any nx A c l id w hC hc hs).mono fun e w' h => ⟨_, _, h.1, grown_below h.2 none⟩
/-- The cells of a directory's entry. -/
def DirC (w : World) (ad : Addr) (n : Nat) (d : S59) : Prop := w.cell? (ad.add (n * 2)) = some (.string d.f0) ∧ w.cell? ⟨(ad.add (n * 2)).block, (ad.add (n * 2)).off + 1, none⟩ = some (.int .i64 d.f1)
theorem DirC.keep {w w1 : World} {ad : Addr} {n : Nat} {d : S59} (h : DirC w ad n d) (hg : w.grownBy w1 none) : DirC w1 ad n d := ⟨hg.cell h.1 (by simp), hg.cell h.2 (by simp)⟩
theorem NamO.dir {w : World} {A : Option Addr} {m c : Nat} {ds : List S59} (h : NamO w (.slice A m c) ds) (n : Nat) (hn : n < ds.length) : ∃ ad, A = some ad ∧ DirC w ad n ds[n] := by
 obtain ⟨rfl, _, hC⟩ := Kd.R_reads' h
 obtain ⟨ad, e, h0, h1⟩ := dir_at hC (Below.refl _ _) n hn
 exact ⟨ad, e, h0, h1⟩
/-- What l7Add, l7Drop and l7With do to the memory: they write the volume's own block, or make a new one. -/
def OwnO (w w' : World) (v v' : Value) : Prop := w.grownBy w' v.ownBlock ∧ ∀ b, v'.ownBlock = some b → v.ownBlock = some b ∨ w.heap.size ≤ b
theorem own_of {v v' : Value} {n m : Nat} (h : v'.ownBlock = v.ownBlock ∨ ∃ b, v'.ownBlock = some b ∧ m ≤ b) (hn : n ≤ m) : ∀ b, v'.ownBlock = some b → v.ownBlock = some b ∨ n ≤ b := by
 intro b hb
 rcases h with h | ⟨b', h1, h2⟩
 ·exact .inl (h.symm.trans hb)
 ·rw [h1] at hb
  injection hb with hb
  subst hb
  exact .inr (Nat.le_trans hn h2)
theorem St.growX {w0 w w1 : World} {row row1 : Option Nat} {bs : List (Nat × TypeId × Array Value)} (h : St w0 row w bs) (k : w.grownBy w1 row1) (lo e : Nat) (hlo : w0.heap.size ≤ lo) (hb : ∀ b, row1 = some b → lo ≤ b) (ht : ∀ b, row1 = some b → ∃ cells, w.heap[b]? = some (.cells cells e (0, 0))) (hn : ∀ p ∈ bs, p.2.1 ≠ e ∨ p.1 < lo) : St w0 row w1 bs :=
 h.grow k (fun b hq => .inr (Nat.le_trans hlo (hb b hq))) (fun p hp he => by
  rcases hn p hp with h1 | h1
  ·obtain ⟨cells, hc⟩ := ht _ he
   rw [h.box p hp] at hc
   injection hc with hc
   injection hc with _ hc _
   exact h1 hc
  ·have := hb _ he
   omega)
def AddPost (w : World) (nx : Int) (v : Value) (l : List S37) (x : S37) (id : Int) (name : ByteArray) (e : Ending) (w' : World) : Prop :=
 ∃ v' ds, e = .returned (.agg #[.int .i64 nx, v']) ∧ ds.Perm (⟨name, id⟩ :: x.f6) ∧ VolO w' v' (withL l { x with f6 := ds }) ∧ OwnO w w' v v'
def addP (put : Bool) (d : S59) (ds : List S59) : List S59 := if put = true then d :: ds else ds
theorem addP_snoc {put : Bool} {d y : S59} {acc ds : List S59} (h : acc.Perm (addP put d ds)) : (acc ++ [y]).Perm (addP put d (ds ++ [y])) := by
 unfold addP at *
 split at h
 ·rename_i hp
  rw [if_pos hp]
  exact h.append_right [y]
 ·rename_i hp
  rw [if_neg hp]
  exact h.append_right [y]
theorem addP_new {d : S59} {acc ds : List S59} (h : acc.Perm (addP false d ds)) : (acc ++ [d]).Perm (addP true d ds) := by
 unfold addP at *
 rw [if_pos rfl]
 rw [if_neg (by decide)] at h
 exact (h.append_right [d]).trans (List.perm_append_singleton d ds)
theorem addP_len {put : Bool} {d : S59} {acc ds : List S59} (h : acc.Perm (addP put d ds)) : acc.length ≤ ds.length + 1 := by
 rw [h.length_eq]
 unfold addP
 split
 ·simp
 ·omega
theorem add_any (w : World) (nx dir id : Int) (name : ByteArray) (v : Value) (l : List S37) (hv : VolO w v l) (hs : volSmall l) (hi : inoI l dir < l.length) :
  Calls Tryz.prog 100 #[.agg #[.int .i64 nx, v], .int .i64 dir, .string name, .int .i64 id] w (AddPost w nx v l (nodeI l dir) id name) := by
 have hu26 := Tryz.underlying26
 have hu37 := Tryz.underlying37
 have hu35 := Tryz.underlying35
 have hu59 := Tryz.underlying59
 obtain ⟨A, c, rfl, hc, hC⟩ := hv.reads
 have hm := hC.2.1
 obtain ⟨A6, c6, hN, hNd⟩ := node_any w nx dir _ l hv hs hi
 have HNd := zM hNd
 have HN := zM hN
 have HL6 := zM (show (nodeI l dir).f6.length ≤ 1048576 from hs.2.1 _ (there_ex hi).1)
 rw [show iAt l (inoI l dir) = nodeI l dir from rfl] at HNd HN
 generalize nodeI l dir = x at HNd HN HL6 ⊢
 have HV := zM hv
 have HSm := zM hs
 have HO := zM (Kd.R_lt hv)
 have HS := zM (St.start w none)
 clear hv hs hi hC hN hNd
 go_enter Tryz.func100, Tryz.ntmps100
 go_wp2_with (first | ((with_reducible refine gD 4 rfl ?_); refine sB #[.int .i64 nx, .slice A l.length c] 26 HS ?_; clear HS; intro g4 w4 HS _) | ((with_reducible refine gD 8 rfl ?_); refine sB #[.int .i64 0, .slice none 0 0] 26 HS ?_; clear HS; intro g8 w8 HS _; obtain ⟨z0, z1⟩ := HS.out.cells2 1 rfl) | (go_at_call 98; refine (HNd.out _ HS.out.grown).mono ?_; rintro e w5 ⟨rfl, hg⟩; replace HS := zM (HS.out.calls hg); clear hg; obtain ⟨z0, z1⟩ := HS.out.cells2 1 rfl) | ((with_reducible refine gD 9 rfl ?_); refine sB #[.int .i64 0, .int .i64 0, .int .i64 0, .int .i64 0, .int .i64 0, .string ⟨#[]⟩, .slice none 0 0, .int .i64 0, .int .i64 0] 37 HS ?_; clear HS; intro g9 w9 HS _) | ((with_reducible refine gS 37 9 rfl ?_); refine sS 0 [.int .i64 x.f0, .int .i64 x.f1, .int .i64 x.f2, .int .i64 x.f3, .int .i64 x.f4, .string x.f5, .slice A6 x.f6.length c6, .int .i64 x.f7, .int .i64 x.f8] HS ?_; clear HS; intro w6 HS _; obtain ⟨y0, y1, y2, y3, y4, y5, y6, y7, y8⟩ := HS.out.cells9 0 rfl) | (refine Kd.R_lit k59 (w0 := w) w.heap.size 59 rfl (N := 16) rfl (xs := ([] : List S59)) (inner := []) (ok := fun _ => True) (okp := fun _ => True) ?hr (Reps.none _ _) (fun _ hk => hk) trivial (below_grown HS.out.grown) HS.out.grown.size (by simp) ?_; (case hr => first | (go_simp; done) | (go_simp; rfl)); intro v7 w7 hR _ hg _; have HR := zM hR; replace HS := zM (HS.out.calls hg); clear hR hg; obtain ⟨y0, y1, y2, y3, y4, y5, y6, y7, y8⟩ := HS.out.cells9 0 rfl))
 go_loopg [10, 11, 12] x.f6.length (fun kq v10 v11 v12 w' => ∃ (n : Nat) (put : Bool) (acc : List S59) (u10 : Value), u10 = v10 ∧ v11 = .bool put ∧ v12 = .int .i64 (n : Int) ∧ Aside0 (n + kq = x.f6.length) ∧ Aside0 (acc.Perm (addP put ⟨name, id⟩ (x.f6.take n))) ∧ Aside0 (Kd.R k59 59 w' w.heap.size (fun _ => True) u10 acc) ∧ Aside0 (St w none w' [(g9, 37, #[.int .i64 x.f0, .int .i64 x.f1, .int .i64 x.f2, .int .i64 x.f3, .int .i64 x.f4, .string x.f5, .slice A6 x.f6.length c6, .int .i64 x.f7, .int .i64 x.f8]), (g8, 26, #[.int .i64 0, .slice none 0 0]), (g4, 26, #[.int .i64 nx, .slice A l.length c])]))
 case atStart => exact ⟨0, false, [], _, rfl, rfl, rfl, ⟨by simp⟩, ⟨List.Perm.refl _⟩, HR, HS⟩
 case round =>
  clear HS HR y0 y1 y2 y3 y4 y5 y6 y7 y8
  obtain ⟨n, put, acc, u10, rfl, rfl, rfl, HK, HP, HR, HS⟩ := hrel
  obtain ⟨y0, y1, y2, y3, y4, y5, y6, y7, y8⟩ := HS.out.cells9 0 rfl
  have HAL := zM (addP_len HP.out)
  by_cases hn : n < x.f6.length
  ·cases gk with
   | zero => have := HK.out; omega
   | succ k1 =>
   have hni : (n : Int) < (x.f6.length : Int) := by omega
   have hlt : (x.f6.take n).length ≤ 1048576 := by rw [List.length_take]; have := HL6.out; omega
   have HLT := zM hlt
   obtain ⟨ad, rfl, hD⟩ := HN.out.dir n hn
   have hw1 : wrap64 ((n : Int) + 1) = ((n + 1 : Nat) : Int) := by have := HL6.out; rw [w64 (by omega) (by omega)]; omega
   have HX := zM (show x.f6.take (n + 1) = x.f6.take n ++ [x.f6[n]] from List.take_succ_eq_append_getElem hn)
   have HD := zM hD
   clear hD
   generalize x.f6[n] = d at HX HD
   obtain ⟨d0, d1⟩ := HD.out.keep HS.out.grown
   cases put with
   | true =>
    go_wp2_with (first | (refine gate_builtin (b := .append) (xs := #[.tmp 42, .tmp 48]) rfl ?_; at_builtin; refine Kd.R_append k59 (w0 := w) w.heap.size rfl (.tmp 42) (.tmp 48) 35 59 (.agg #[.string ⟨#[]⟩, .int .i64 0]) 24 rfl hu35 info59 rfl (by decide) (by decide) u10 (acc) d [.string d.f0, .int .i64 d.f1] (fun _ => True) (fun _ => False) rfl rfl (k59_mkM _ _ _ d) (fun _ h => h.elim) (fun _ _ => trivial) HR.out (below_grown HS.out.grown) HS.out.grown.size (by have := HAL.out; have := HL6.out; (try simp only [List.length_append, List.length_singleton]); omega) ?_; intro v20 w20 hR _ hg _; have n0_ := zM (HS.out.growT hg (fun b hb => .inr (Kd.R_base HR.out b hb)) (Kd.R_typed HR.out) rfl); have n1_ := zM (hR); clear HS HR; have HS := n0_; have HR := n1_; clear n0_ n1_; clear hR hg))
    go_roundg k1
    case measure => have := HK.out; omega
    case rel => exact ⟨n + 1, true, acc ++ [d], _, rfl, rfl, by rw [hw1], ⟨by have := HK.out; omega⟩, ⟨by rw [HX.out]; exact addP_snoc HP.out⟩, HR, HS⟩
   | false =>
    cases hq : Op.bytesLess name.toList d.f0.toList with
    | true =>
     go_wp2_with (first | (refine gate_builtin (b := .append) (xs := #[.tmp 36, .tmp 40]) rfl ?_; at_builtin; refine Kd.R_append k59 (w0 := w) w.heap.size rfl (.tmp 36) (.tmp 40) 35 59 (.agg #[.string ⟨#[]⟩, .int .i64 0]) 24 rfl hu35 info59 rfl (by decide) (by decide) u10 (acc) ⟨name, id⟩ [.string name, .int .i64 id] (fun _ => True) (fun _ => False) rfl rfl (k59_mkM _ _ _ ⟨name, id⟩) (fun _ h => h.elim) (fun _ _ => trivial) HR.out (below_grown HS.out.grown) HS.out.grown.size (by have := HAL.out; have := HL6.out; (try simp only [List.length_append, List.length_singleton]); omega) ?_; intro v20 w20 hR _ hg _; have n0_ := zM (HS.out.growT hg (fun b hb => .inr (Kd.R_base HR.out b hb)) (Kd.R_typed HR.out) rfl); have n1_ := zM (hR); clear HS HR; have HS := n0_; have HR := n1_; clear n0_ n1_; clear hR hg; obtain ⟨y0, y1, y2, y3, y4, y5, y6, y7, y8⟩ := HS.out.cells9 0 rfl; obtain ⟨d0, d1⟩ := HD.out.keep HS.out.grown) | (refine gate_builtin (b := .append) (xs := #[.tmp 42, .tmp 48]) rfl ?_; at_builtin; refine Kd.R_append k59 (w0 := w) w.heap.size rfl (.tmp 42) (.tmp 48) 35 59 (.agg #[.string ⟨#[]⟩, .int .i64 0]) 24 rfl hu35 info59 rfl (by decide) (by decide) v20 (acc ++ [⟨name, id⟩]) d [.string d.f0, .int .i64 d.f1] (fun _ => True) (fun _ => False) rfl rfl (k59_mkM _ _ _ d) (fun _ h => h.elim) (fun _ _ => trivial) HR.out (below_grown HS.out.grown) HS.out.grown.size (by have := HAL.out; have := HL6.out; (try simp only [List.length_append, List.length_singleton]); omega) ?_; intro v21 w21 hR _ hg _; have n0_ := zM (HS.out.growT hg (fun b hb => .inr (Kd.R_base HR.out b hb)) (Kd.R_typed HR.out) rfl); have n1_ := zM (hR); clear HS HR; have HS := n0_; have HR := n1_; clear n0_ n1_; clear hR hg))
     go_roundg k1
     case measure => have := HK.out; omega
     case rel => exact ⟨n + 1, true, (acc ++ [⟨name, id⟩]) ++ [d], _, rfl, rfl, by rw [hw1], ⟨by have := HK.out; omega⟩, ⟨by rw [HX.out]; exact addP_snoc (addP_new HP.out)⟩, HR, HS⟩
    | false =>
     go_wp2_with (first | (refine gate_builtin (b := .append) (xs := #[.tmp 42, .tmp 48]) rfl ?_; at_builtin; refine Kd.R_append k59 (w0 := w) w.heap.size rfl (.tmp 42) (.tmp 48) 35 59 (.agg #[.string ⟨#[]⟩, .int .i64 0]) 24 rfl hu35 info59 rfl (by decide) (by decide) u10 (acc) d [.string d.f0, .int .i64 d.f1] (fun _ => True) (fun _ => False) rfl rfl (k59_mkM _ _ _ d) (fun _ h => h.elim) (fun _ _ => trivial) HR.out (below_grown HS.out.grown) HS.out.grown.size (by have := HAL.out; have := HL6.out; (try simp only [List.length_append, List.length_singleton]); omega) ?_; intro v20 w20 hR _ hg _; have n0_ := zM (HS.out.growT hg (fun b hb => .inr (Kd.R_base HR.out b hb)) (Kd.R_typed HR.out) rfl); have n1_ := zM (hR); clear HS HR; have HS := n0_; have HR := n1_; clear n0_ n1_; clear hR hg))
     go_roundg k1
     case measure => have := HK.out; omega
     case rel => exact ⟨n + 1, false, acc ++ [d], _, rfl, rfl, by rw [hw1], ⟨by have := HK.out; omega⟩, ⟨by rw [HX.out]; exact addP_snoc HP.out⟩, HR, HS⟩
  ·have hnl : x.f6.take n = x.f6 := List.take_of_length_le (by omega)
   rw [hnl] at HP HAL
   clear hnl
   obtain ⟨z0, z1⟩ := HS.out.cells2 2 rfl
   cases put with
   | true =>
    obtain ⟨Au, cu, rfl⟩ := Kd.R_slice HR.out
    go_wp2_with (first | ((with_reducible refine gS 35 59 rfl ?_); refine sS 0 [.slice Au acc.length cu] HS ?_; intro w30 n0_ n1_; replace HR := zM (R_box HR.out (HS.out.get 0 rfl) (by decide) n1_.out); clear HS; have HS := n0_; clear n0_ n1_; obtain ⟨z0, z1⟩ := HS.out.cells2 2 rfl; obtain ⟨y0, y1, y2, y3, y4, y5, y6, y7, y8⟩ := HS.out.cells9 0 rfl) | (go_at_call 101; refine (with_any _ nx _ l (HV.out.keep HS.out.grown) HSm.out { x with f6 := acc } Au cu (Kd.R_lower HR.out (Nat.zero_le _))).mono ?_; rintro e w31 ⟨v', rfl, hv', hg, hat⟩; have HV2 := zM hv'; have HAt := zM (own_of hat HS.out.grown.size); replace HS := zM ((HS.out.loose _).growO hg HO.out); clear hv' hg hat; generalize hl1 : withL l { x with f6 := acc } = l1 at HV2; have HL1 := zM hl1; clear hl1; obtain ⟨A1, c1, rfl⟩ := Kd.R_slice HV2.out) | ((with_reducible refine gS 26 8 rfl ?_); refine sS 1 [.int .i64 nx, .slice A1 l1.length c1] HS ?_; intro w32 n0_ n1_; replace HV2 := zM (R_box HV2.out (HS.out.get 1 rfl) (by decide) n1_.out); clear HS; have HS := n0_; clear n0_ n1_))
    refine rC 1 HS ?_
    unfold AddPost
    exact ⟨_, acc, rfl, HP.out, by rw [HL1.out]; exact HV2.out, HS.out.grown, HAt.out⟩
   | false =>
    go_wp2_with (first | (refine gate_builtin (b := .append) (xs := #[.tmp 52, .tmp 56]) rfl ?_; at_builtin; refine Kd.R_append k59 (w0 := w) w.heap.size rfl (.tmp 52) (.tmp 56) 35 59 (.agg #[.string ⟨#[]⟩, .int .i64 0]) 24 rfl hu35 info59 rfl (by decide) (by decide) u10 (acc) ⟨name, id⟩ [.string name, .int .i64 id] (fun _ => True) (fun _ => False) rfl rfl (k59_mkM _ _ _ ⟨name, id⟩) (fun _ h => h.elim) (fun _ _ => trivial) HR.out (below_grown HS.out.grown) HS.out.grown.size (by have := HAL.out; have := HL6.out; (try simp only [List.length_append, List.length_singleton]); omega) ?_; intro v20 w20 hR _ hg _; have n0_ := zM (HS.out.growT hg (fun b hb => .inr (Kd.R_base HR.out b hb)) (Kd.R_typed HR.out) rfl); have n1_ := zM (hR); clear HS HR; have HS := n0_; have HR := n1_; clear n0_ n1_; clear hR hg; obtain ⟨Au, cu, rfl⟩ := Kd.R_slice HR.out; have HPy := zM (addP_new HP.out); generalize acc ++ [(⟨name, id⟩ : S59)] = ys at HR HPy; obtain ⟨z0, z1⟩ := HS.out.cells2 2 rfl; obtain ⟨y0, y1, y2, y3, y4, y5, y6, y7, y8⟩ := HS.out.cells9 0 rfl) | ((with_reducible refine gS 35 59 rfl ?_); refine sS 0 [.slice Au ys.length cu] HS ?_; intro w30 n0_ n1_; replace HR := zM (R_box HR.out (HS.out.get 0 rfl) (by decide) n1_.out); clear HS; have HS := n0_; clear n0_ n1_; obtain ⟨z0, z1⟩ := HS.out.cells2 2 rfl; obtain ⟨y0, y1, y2, y3, y4, y5, y6, y7, y8⟩ := HS.out.cells9 0 rfl) | (go_at_call 101; refine (with_any _ nx _ l (HV.out.keep HS.out.grown) HSm.out { x with f6 := ys } Au cu (Kd.R_lower HR.out (Nat.zero_le _))).mono ?_; rintro e w31 ⟨v', rfl, hv', hg, hat⟩; have HV2 := zM hv'; have HAt := zM (own_of hat HS.out.grown.size); replace HS := zM ((HS.out.loose _).growO hg HO.out); clear hv' hg hat; generalize hl1 : withL l { x with f6 := ys } = l1 at HV2; have HL1 := zM hl1; clear hl1; obtain ⟨A1, c1, rfl⟩ := Kd.R_slice HV2.out) | ((with_reducible refine gS 26 8 rfl ?_); refine sS 1 [.int .i64 nx, .slice A1 l1.length c1] HS ?_; intro w32 n0_ n1_; replace HV2 := zM (R_box HV2.out (HS.out.get 1 rfl) (by decide) n1_.out); clear HS; have HS := n0_; clear n0_ n1_))
    refine rC 1 HS ?_
    unfold AddPost
    exact ⟨_, ys, rfl, HPy.out, by rw [HL1.out]; exact HV2.out, HS.out.grown, HAt.out⟩
def dropD (name : ByteArray) (ds : List S59) : List S59 := ds.filter fun d => decide (d.f0 ≠ name)
def lessI (q : Int) (l : List S37) : List S37 := l.filter fun y => !(y.f0 == q)
theorem dropD_yes {name : ByteArray} {ds : List S59} {d : S59} (h : d.f0 = name) : dropD name (ds ++ [d]) = dropD name ds := by unfold dropD; simp [h]
theorem dropD_no {name : ByteArray} {ds : List S59} {d : S59} (h : ¬ d.f0 = name) : dropD name (ds ++ [d]) = dropD name ds ++ [d] := by unfold dropD; simp [h]
theorem lessI_yes {q : Int} {l : List S37} {d : S37} (h : d.f0 = q) : lessI q (l ++ [d]) = lessI q l := by unfold lessI; simp [h]
theorem lessI_no {q : Int} {l : List S37} {d : S37} (h : ¬ d.f0 = q) : lessI q (l ++ [d]) = lessI q l ++ [d] := by unfold lessI; simp [h]
theorem withL_small {l : List S37} (h : volSmall l) {dir : Int} (hd : inoI l dir < l.length) {ds : List S59} (hp : ds.Sublist (nodeI l dir).f6) : volSmall (withL l { nodeI l dir with f6 := ds }) := by
 obtain ⟨hm, h0⟩ := there_ex hd
 have h5 := h.2.2.1 _ hm
 refine ⟨by rw [withL_len, if_pos (by show inoI l (nodeI l dir).f0 < _; rw [h0]; exact hd)]; exact h.1, fun y hy => ?_, fun y hy => ?_, fun y hy => ?_⟩ <;> rcases mem_withL hy with rfl | hy
 ·exact Nat.le_trans hp.length_le (h.2.1 _ hm)
 ·exact h.2.1 y hy
 ·exact h5
 ·exact h.2.2.1 y hy
 ·exact fun d hd' => h.2.2.2 _ hm d (hp.subset hd')
 ·exact h.2.2.2 y hy
theorem below_zero {w w1 : World} {row : Option Nat} (h : w.grownBy w1 row) : Below 0 w w1 := ⟨h.os, h.tape, h.output, h.size, fun k hk => absurd hk (Nat.not_lt_zero k)⟩
theorem lo_of {v v1 : Value} {lo n : Nat} (hb : ∀ b, v.ownBlock = some b → lo ≤ b) (hn : lo ≤ n) (h : v1.ownBlock = v.ownBlock ∨ ∃ b, v1.ownBlock = some b ∧ n ≤ b) : ∀ b, v1.ownBlock = some b → lo ≤ b := by
 intro b hq
 rcases h with h | ⟨b', h1, h2⟩
 ·exact hb b (h.symm.trans hq)
 ·rw [h1] at hq
  injection hq with hq
  subst hq
  exact Nat.le_trans hn h2
def DropPost (w : World) (nx : Int) (v : Value) (l : List S37) (x : S37) (name : ByteArray) (e : Ending) (w' : World) : Prop :=
 ∃ v' l' q, e = .returned (.agg #[.int .i64 nx, v']) ∧ (q = 0 ∨ ∃ d ∈ x.f6, d.f0 = name ∧ d.f1 = q) ∧ (l' = withL l { x with f6 := dropD name x.f6 } ∨ (namedN (withL l { x with f6 := dropD name x.f6 }) q = 0 ∧ l' = lessI q (withL l { x with f6 := dropD name x.f6 }))) ∧ VolO w' v' l' ∧ OwnO w w' v v'
theorem drop_any (w : World) (nx dir : Int) (name : ByteArray) (v : Value) (l : List S37) (hv : VolO w v l) (hs : volSmall l) (hi : inoI l dir < l.length) :
  Calls Tryz.prog 104 #[.agg #[.int .i64 nx, v], .int .i64 dir, .string name] w (DropPost w nx v l (nodeI l dir) name) := by
 have hu24 := Tryz.underlying24
 have HSub := zM (fun (ds : List S59) (hp : ds.Sublist (nodeI l dir).f6) => withL_small hs hi hp)
 have hu26 := Tryz.underlying26
 have hu37 := Tryz.underlying37
 have hu35 := Tryz.underlying35
 have hu59 := Tryz.underlying59
 obtain ⟨A, c, rfl, hc, hC⟩ := hv.reads
 have hm := hC.2.1
 obtain ⟨A6, c6, hN, hNd⟩ := node_any w nx dir _ l hv hs hi
 have HNd := zM hNd
 have HN := zM hN
 have HL6 := zM (show (nodeI l dir).f6.length ≤ 1048576 from hs.2.1 _ (there_ex hi).1)
 rw [show iAt l (inoI l dir) = nodeI l dir from rfl] at HNd HN
 generalize nodeI l dir = x at HNd HN HL6 HSub ⊢
 have HV := zM hv
 have HSm := zM hs
 have HO := zM (Kd.R_lt hv)
 have HS := zM (St.start w none)
 clear hv hs hi hC hN hNd
 go_enter Tryz.func104, Tryz.ntmps104
 go_wp2_with (first | ((with_reducible refine gD 3 rfl ?_); refine sB #[.int .i64 nx, .slice A l.length c] 26 HS ?_; clear HS; intro g3 w3 HS _) | ((with_reducible refine gD 6 rfl ?_); refine sB #[.int .i64 0, .slice none 0 0] 26 HS ?_; clear HS; intro g6 w6 HS _; obtain ⟨z0, z1⟩ := HS.out.cells2 1 rfl) | (go_at_call 98; refine (HNd.out _ HS.out.grown).mono ?_; rintro e w5 ⟨rfl, hg⟩; replace HS := zM (HS.out.calls hg); clear hg; obtain ⟨z0, z1⟩ := HS.out.cells2 1 rfl) | ((with_reducible refine gD 7 rfl ?_); refine sB #[.int .i64 0, .int .i64 0, .int .i64 0, .int .i64 0, .int .i64 0, .string ⟨#[]⟩, .slice none 0 0, .int .i64 0, .int .i64 0] 37 HS ?_; clear HS; intro g7 w7 HS _) | ((with_reducible refine gS 37 7 rfl ?_); refine sS 0 [.int .i64 x.f0, .int .i64 x.f1, .int .i64 x.f2, .int .i64 x.f3, .int .i64 x.f4, .string x.f5, .slice A6 x.f6.length c6, .int .i64 x.f7, .int .i64 x.f8] HS ?_; clear HS; intro w6 HS _; obtain ⟨y0, y1, y2, y3, y4, y5, y6, y7, y8⟩ := HS.out.cells9 0 rfl) | (refine Kd.R_lit k59 (w0 := w) w.heap.size 59 rfl (N := 16) rfl (xs := ([] : List S59)) (inner := []) (ok := fun _ => True) (okp := fun _ => True) ?hr (Reps.none _ _) (fun _ hk => hk) trivial (below_grown HS.out.grown) HS.out.grown.size (by simp) ?_; (case hr => first | (go_simp; done) | (go_simp; rfl)); intro v7 w7 hR _ hg _; have HR := zM hR; replace HS := zM (HS.out.calls hg); clear hR hg; obtain ⟨y0, y1, y2, y3, y4, y5, y6, y7, y8⟩ := HS.out.cells9 0 rfl))
 go_loopg [8, 9, 10] x.f6.length (fun kq v8 v9 v10 w' => ∃ (n : Nat) (q : Int) (acc : List S59) (u9 : Value), u9 = v9 ∧ v8 = .int .i64 q ∧ v10 = .int .i64 (n : Int) ∧ Aside0 (n + kq = x.f6.length) ∧ Aside0 (acc = dropD name (x.f6.take n)) ∧ Aside0 (q = 0 ∨ ∃ d ∈ x.f6, d.f0 = name ∧ d.f1 = q) ∧ Aside0 (Kd.R k59 59 w' w.heap.size (fun _ => True) u9 acc) ∧ Aside0 (St w none w' [(g7, 37, #[.int .i64 x.f0, .int .i64 x.f1, .int .i64 x.f2, .int .i64 x.f3, .int .i64 x.f4, .string x.f5, .slice A6 x.f6.length c6, .int .i64 x.f7, .int .i64 x.f8]), (g6, 26, #[.int .i64 0, .slice none 0 0]), (g3, 26, #[.int .i64 nx, .slice A l.length c])]))
 case atStart => exact ⟨0, 0, [], _, rfl, rfl, rfl, ⟨by simp⟩, ⟨rfl⟩, ⟨.inl rfl⟩, HR, HS⟩
 case round =>
  clear HS HR y0 y1 y2 y3 y4 y5 y6 y7 y8
  obtain ⟨n, q, acc, u9, rfl, rfl, rfl, HK, HP, HQ, HR, HS⟩ := hrel
  obtain ⟨y0, y1, y2, y3, y4, y5, y6, y7, y8⟩ := HS.out.cells9 0 rfl
  have HAL := zM (show acc.length ≤ x.f6.length from by rw [HP.out]; exact Nat.le_trans (List.length_filter_le _ _) (List.length_take_le' _ _))
  by_cases hn : n < x.f6.length
  ·cases gk with
   | zero => have := HK.out; omega
   | succ k1 =>
   have hni : (n : Int) < (x.f6.length : Int) := by omega
   obtain ⟨ad, rfl, hD⟩ := HN.out.dir n hn
   have hw1 : wrap64 ((n : Int) + 1) = ((n + 1 : Nat) : Int) := by have := HL6.out; rw [w64 (by omega) (by omega)]; omega
   have HX := zM (show x.f6.take (n + 1) = x.f6.take n ++ [x.f6[n]] from List.take_succ_eq_append_getElem hn)
   have HM := zM (show x.f6[n] ∈ x.f6 from List.getElem_mem hn)
   have HD := zM hD
   clear hD
   generalize x.f6[n] = d at HX HD HM
   obtain ⟨d0, d1⟩ := HD.out.keep HS.out.grown
   by_cases hid : d.f0 = name
   ·have hb : (d.f0.toList == name.toList) = true := by rw [hid]; exact beq_self_eq_true _
    have HI := zM hid
    clear hid
    go_wp2
    go_roundg k1
    case measure => have := HK.out; omega
    case rel => exact ⟨n + 1, d.f1, acc, _, rfl, rfl, by rw [hw1], ⟨by have := HK.out; omega⟩, ⟨by rw [HX.out, dropD_yes HI.out]; exact HP.out⟩, ⟨.inr ⟨d, HM.out, HI.out, rfl⟩⟩, HR, HS⟩
   ·have hb : (d.f0.toList == name.toList) = false := by rw [beq_eq_false_iff_ne]; exact fun e => hid (Str.toList_eq_iff.1 e)
    have HI := zM hid
    clear hid
    go_wp2_with (first | (refine gate_builtin (b := .append) (xs := #[.tmp 38, .tmp 44]) rfl ?_; at_builtin; refine Kd.R_append k59 (w0 := w) w.heap.size rfl (.tmp 38) (.tmp 44) 35 59 (.agg #[.string ⟨#[]⟩, .int .i64 0]) 24 rfl hu35 info59 rfl (by decide) (by decide) u9 (acc) d [.string d.f0, .int .i64 d.f1] (fun _ => True) (fun _ => False) rfl rfl (k59_mkM _ _ _ d) (fun _ h => h.elim) (fun _ _ => trivial) HR.out (below_grown HS.out.grown) HS.out.grown.size (by have := HAL.out; have := HL6.out; (try simp only [List.length_append, List.length_singleton]); omega) ?_; intro v20 w20 hR _ hg _; have n0_ := zM (HS.out.growT hg (fun b hb => .inr (Kd.R_base HR.out b hb)) (Kd.R_typed HR.out) rfl); have n1_ := zM (hR); clear HS HR; have HS := n0_; have HR := n1_; clear n0_ n1_; clear hR hg))
    go_roundg k1
    case measure => have := HK.out; omega
    case rel => exact ⟨n + 1, q, acc ++ [d], _, rfl, rfl, by rw [hw1], ⟨by have := HK.out; omega⟩, ⟨by rw [HX.out, dropD_no HI.out, HP.out]⟩, HQ, HR, HS⟩
  ·have hnl : x.f6.take n = x.f6 := List.take_of_length_le (by omega)
   rw [hnl] at HP
   clear hnl
   have HSm1 := zM (HSub.out acc (by rw [HP.out]; exact List.filter_sublist))
   obtain ⟨z0, z1⟩ := HS.out.cells2 2 rfl
   obtain ⟨Au, cu, rfl⟩ := Kd.R_slice HR.out
   go_wp2_with (first | ((with_reducible refine gS 35 47 rfl ?_); refine sS 0 [.slice Au acc.length cu] HS ?_; intro w30 n0_ n1_; replace HR := zM (R_box HR.out (HS.out.get 0 rfl) (by decide) n1_.out); clear HS; have HS := n0_; clear n0_ n1_; obtain ⟨z0, z1⟩ := HS.out.cells2 2 rfl; obtain ⟨y0, y1, y2, y3, y4, y5, y6, y7, y8⟩ := HS.out.cells9 0 rfl) | (go_at_call 101; refine (with_any _ nx _ l (HV.out.keep HS.out.grown) HSm.out { x with f6 := acc } Au cu (Kd.R_lower HR.out (Nat.zero_le _))).mono ?_; rintro e w31 ⟨v', rfl, hv', hg, hat⟩; have HV2 := zM hv'; have HAt := zM (own_of hat HS.out.grown.size); replace HS := zM ((HS.out.loose _).growO hg HO.out); clear hv' hg hat; generalize hl1 : withL l { x with f6 := acc } = l1 at HV2 HSm1; have HL1 := zM (show l1 = withL l { x with f6 := dropD name x.f6 } from by rw [← hl1, HP.out]); clear hl1; obtain ⟨A1, c1, rfl⟩ := Kd.R_slice HV2.out) | ((with_reducible refine gS 26 3 rfl ?_); refine sS 2 [.int .i64 nx, .slice A1 l1.length c1] HS ?_; intro w32 n0_ n1_; replace HV2 := zM (R_box HV2.out (HS.out.get 2 rfl) (by decide) n1_.out); clear HS; have HS := n0_; clear n0_ n1_; obtain ⟨z0, z1⟩ := HS.out.cells2 2 rfl) | (go_at_call 51; refine (namedS_any nx A1 c1 l1 q _ (Kd.R_reads' HV2.out).2.2 (Kd.R_reads' HV2.out).2.1 HSm1.out).mono ?_; rintro e w40 ⟨rfl, hb⟩; have n0_ := zM (HS.out.call hb); have n1_ := zM (VolO.keep HV2.out (grown_below hb none)); clear HS HV2; have HS := n0_; have HV2 := n1_; clear n0_ n1_; clear hb; obtain ⟨z0, z1⟩ := HS.out.cells2 2 rfl; (by_cases hz : (0 : Int) < ((namedN l1 q : Nat) : Int))) | ((with_reducible refine gS 26 6 rfl ?_); refine sS 1 [.int .i64 nx, .slice A1 l1.length c1] HS ?_; intro w33 n0_ n1_; replace HV2 := zM (R_box HV2.out (HS.out.get 1 rfl) (by decide) n1_.out); clear HS; have HS := n0_; clear n0_ n1_) | (refine Kd.R_lit k37 (w0 := w40) w40.heap.size 37 rfl (N := 56) rfl (xs := ([] : List S37)) (inner := []) (ok := fun _ => True) (okp := fun _ => True) ?hr (Reps.none _ _) (fun _ hk => hk) trivial (Below.refl _ _) (Nat.le_refl _) (by simp) ?_; (case hr => first | (go_simp; done) | (go_simp; rfl)); intro v42 w42 hR _ hg _; have HB1 := zM (Kd.R_base hR); have HR1 := zM (Kd.R_lower hR (Nat.zero_le _)); have H7 := zM (blk_lt (HS.out.get 0 rfl)); have H0 := zM HS.out.grown.size; have HLo := zM hg.size; have n0_ := zM (Kd.R_below (Kd.R_mono (Kd.R_bound HV2.out) (ok' := fun k => k < w40.heap.size) (fun k hk => hk.2.2.1)) (below_grown hg)); have n1_ := zM (HS.out.calls hg); clear HV2 HS; have HV2 := n0_; have HS := n1_; clear n0_ n1_; clear hR hg; obtain ⟨z0, z1⟩ := HS.out.cells2 2 rfl))
   ·refine rC 1 HS ?_
    unfold DropPost
    exact ⟨_, l1, q, rfl, HQ.out, .inl HL1.out, HV2.out, HS.out.grown, HAt.out⟩
   ·have HZ0 := zM (show namedN l1 q = 0 from by omega)
    obtain ⟨lo, hlo⟩ : ∃ lo, lo = w40.heap.size := ⟨_, rfl⟩
    rw [← hlo] at HB1 HV2 H7 H0 HLo
    clear hz hlo hn
    go_loopg [11, 12] l1.length (fun kq v11 v12 w' => ∃ (n : Nat) (acc2 : List S37) (u11 : Value), u11 = v11 ∧ v12 = .int .i64 (n : Int) ∧ Aside0 (n + kq = l1.length) ∧ Aside0 (acc2 = lessI q (l1.take n)) ∧ Aside0 (VolO w' u11 acc2) ∧ Aside0 (∀ b, u11.ownBlock = some b → lo ≤ b) ∧ Aside0 (lo ≤ w'.heap.size) ∧ Aside0 (Kd.R k37 37 w' 0 (fun k => k < lo) (.slice A1 l1.length c1) l1) ∧ Aside0 (St w (Value.slice A l.length c).ownBlock w' [(g7, 37, #[.int .i64 x.f0, .int .i64 x.f1, .int .i64 x.f2, .int .i64 x.f3, .int .i64 x.f4, .string x.f5, .slice Au acc.length cu, .int .i64 x.f7, .int .i64 x.f8]), (g6, 26, #[.int .i64 0, .slice none 0 0]), (g3, 26, #[.int .i64 nx, .slice A1 l1.length c1])]))
    case atStart => exact ⟨0, [], _, rfl, rfl, ⟨by simp⟩, ⟨rfl⟩, HR1, HB1, HLo, HV2, HS⟩
    case round =>
     clear HS HR1 HB1 HLo HV2
     obtain ⟨m, acc2, u11, rfl, rfl, HK2, HP2, HR2, HB2, HLo, HV3, HS⟩ := hrel
     obtain ⟨z0, z1⟩ := HS.out.cells2 2 rfl
     have HAL2 := zM (show acc2.length ≤ l1.length from by rw [HP2.out]; exact Nat.le_trans (List.length_filter_le _ _) (List.length_take_le' _ _))
     by_cases hm2 : m < l1.length
     ·cases gk with
      | zero => have := HK2.out; omega
      | succ k1 =>
      have hmi : (m : Int) < (l1.length : Int) := by omega
      obtain ⟨ad, c', A6i, c6i, e0, hx, hNi⟩ := VolO.ino (Kd.R_mono HV3.out (fun _ _ => trivial)) m hm2
      obtain ⟨rfl, rfl⟩ : A1 = some ad ∧ c1 = c' := by injection e0 with e1 e2 e3; exact ⟨e1, e3⟩
      have hw1 : wrap64 ((m : Int) + 1) = ((m + 1 : Nat) : Int) := by have := HSm1.out.1; rw [w64 (by omega) (by omega)]; omega
      have HX := zM (show l1.take (m + 1) = l1.take m ++ [l1[m]] from List.take_succ_eq_append_getElem hm2)
      have HNi := zM hNi
      have HLl := zM HSm1.out.1
      clear hNi e0
      generalize l1[m] = xi at HX HNi hx
      obtain ⟨hx0, hx1, hx2, hx3, hx4, hx5, hx6, hx7, hx8⟩ := hx
      by_cases hid : xi.f0 = q
      ·have hb : (xi.f0 != q) = false := by simp [hid]
       have HI := zM hid
       clear hid
       go_wp2
       go_roundg k1
       case measure => have := HK2.out; omega
       case rel => exact ⟨m + 1, acc2, _, rfl, by rw [hw1], ⟨by have := HK2.out; omega⟩, ⟨by rw [HX.out, lessI_yes HI.out]; exact HP2.out⟩, HR2, HB2, HLo, HV3, HS⟩
      ·have hb : (xi.f0 != q) = true := by simp [hid]
       have HI := zM hid
       clear hid
       go_wp2_with (first | (refine gate_builtin (b := .append) (xs := #[.tmp 72, .tmp 78]) rfl ?_; at_builtin; refine Kd.R_append k37 (w0 := w) 0 rfl (.tmp 72) (.tmp 78) 24 37 (.agg #[.int .i64 0, .int .i64 0, .int .i64 0, .int .i64 0, .int .i64 0, .string ⟨#[]⟩, .slice none 0 0, .int .i64 0, .int .i64 0]) 96 rfl hu24 info37 rfl (by decide) (by decide) u11 acc2 xi [.int .i64 xi.f0, .int .i64 xi.f1, .int .i64 xi.f2, .int .i64 xi.f3, .int .i64 xi.f4, .string xi.f5, .slice A6i xi.f6.length c6i, .int .i64 xi.f7, .int .i64 xi.f8] (fun _ => True) (fun k => some k ≠ u11.ownBlock) rfl rfl (okMs HNi.out HR2.out) (fun _ h => ⟨trivial, h⟩) (fun _ _ => trivial) HR2.out (below_zero HS.out.grown) (Nat.zero_le _) (by have := HAL2.out; have := HLl.out; omega) ?_; intro v60 w60 hR _ hg hat; have n0_ := zM (St.growX HS.out hg lo 37 H0.out HB2.out (Kd.R_typed HR2.out) (by simp only [List.forall_mem_cons]; exact ⟨.inr H7.out, .inl (by decide), .inl (by decide), by simp⟩)); have n1_ := zM (Kd.R_grown HV3.out hg (fun k hk he => by have := HB2.out k he.symm; omega)); have n2_ := zM (lo_of HB2.out HLo.out hat); have n3_ := zM (Nat.le_trans HLo.out hg.size); have n4_ := zM (hR); clear HS HV3 HB2 HLo HR2; have HS := n0_; have HV3 := n1_; have HB2 := n2_; have HLo := n3_; have HR2 := n4_; clear n0_ n1_ n2_ n3_ n4_; clear hR hg hat))
       go_roundg k1
       case measure => have := HK2.out; omega
       case rel => exact ⟨m + 1, acc2 ++ [xi], _, rfl, by rw [hw1], ⟨by have := HK2.out; omega⟩, ⟨by rw [HX.out, lessI_no HI.out, HP2.out]⟩, HR2, HB2, HLo, HV3, HS⟩
     ·have hnl : l1.take m = l1 := List.take_of_length_le (by omega)
      rw [hnl] at HP2
      clear hnl
      obtain ⟨Ar, cr, rfl⟩ := Kd.R_slice HR2.out
      go_wp2_with (first | ((with_reducible refine gS 24 81 rfl ?_); refine sS 2 [.slice Ar acc2.length cr] HS ?_; intro w61 n0_ n1_; replace HR2 := zM (R_box HR2.out (HS.out.get 2 rfl) (by decide) n1_.out); clear HS; have HS := n0_; clear n0_ n1_; obtain ⟨z0, z1⟩ := HS.out.cells2 2 rfl) | ((with_reducible refine gS 26 6 rfl ?_); refine sS 1 [.int .i64 nx, .slice Ar acc2.length cr] HS ?_; intro w62 n0_ n1_; replace HR2 := zM (R_box HR2.out (HS.out.get 1 rfl) (by decide) n1_.out); clear HS; have HS := n0_; clear n0_ n1_))
      refine rC 1 HS ?_
      unfold DropPost
      exact ⟨_, acc2, q, rfl, HQ.out, .inr ⟨by rw [← HL1.out]; exact HZ0.out, by rw [HP2.out, HL1.out]⟩, HR2.out, HS.out.grown, fun b hb => .inr (Nat.le_trans H0.out (HB2.out b hb))⟩
def CredC (w : World) (Ag : Option Addr) (cg : Nat) (gs : List Int) : Prop := Kd.C (Kd.int .i64) w Ag gs.length gs ∧ gs.length ≤ cg
theorem CredC.keep {w w1 : World} {Ag : Option Addr} {cg : Nat} {gs : List Int} (h : CredC w Ag cg gs) (hg : w.grownBy w1 none) : CredC w1 Ag cg gs := ⟨Kd.C_below h.1 (below_grown hg), h.2⟩
theorem credS_any (w : World) (u g : Int) (Ag : Option Addr) (cg : Nat) (gs : List Int) (hg : CredC w Ag cg gs) : Calls Tryz.prog 20 #[.agg #[.int .i64 u, .int .i64 g, .slice Ag gs.length cg]] w fun e w' => e = .returned (.bool (credB u g gs)) ∧ Below w.heap.size w w' := by
 obtain ⟨K, hK⟩ := cred_spec u g gs
 exact spec_CredOk.calls K u g Ag cg gs _ w hg.1 hg.2 (hK K (Nat.le_refl _))
theorem take_any (w : World) (u g : Int) (Ag : Option Addr) (cg : Nat) (gs : List Int) (hg : CredC w Ag cg gs) (x y : S37) (A6 B6 : Option Addr) (c6 d6 : Nat) :
  Calls Tryz.prog 103 #[.agg #[.int .i64 u, .int .i64 g, .slice Ag gs.length cg], inoV x A6 c6, inoV y B6 d6] w fun e w' => ∃ b : Bool, e = .returned (.bool b) ∧ w.grownBy w' none := by
 have hu29 := Tryz.underlying29
 have hu37 := Tryz.underlying37
 have HC := zM (fun (W : World) (hW : w.grownBy W none) => credS_any W u g Ag cg gs (hg.keep hW))
 have HS := zM (St.start w none)
 generalize credB u g gs = ck at HC
 cases ck
 ·
  go_enter Tryz.func103, Tryz.ntmps103
  go_wp2_with (first | ((with_reducible refine gD 3 rfl ?_); refine sB #[.int .i64 u, .int .i64 g, .slice Ag gs.length cg] 29 HS ?_; clear HS; intro g3 w3 HS _) | ((with_reducible refine gD 4 rfl ?_); refine sB #[.int .i64 x.f0, .int .i64 x.f1, .int .i64 x.f2, .int .i64 x.f3, .int .i64 x.f4, .string x.f5, .slice A6 x.f6.length c6, .int .i64 x.f7, .int .i64 x.f8] 37 HS ?_; clear HS; intro g4 w4 HS _) | ((with_reducible refine gD 5 rfl ?_); refine sB #[.int .i64 y.f0, .int .i64 y.f1, .int .i64 y.f2, .int .i64 y.f3, .int .i64 y.f4, .string y.f5, .slice B6 y.f6.length d6, .int .i64 y.f7, .int .i64 y.f8] 37 HS ?_; clear HS; intro g5 w5 HS _; obtain ⟨z0, z1, z2⟩ := HS.out.cells3 2 rfl) | (go_at_call 20; refine (HC.out _ HS.out.grown).mono ?_; rintro e w6 ⟨rfl, hb⟩; replace HS := zM (HS.out.call hb); clear hb; obtain ⟨z0, z1, z2⟩ := HS.out.cells3 2 rfl; obtain ⟨p0, p1, p2, p3, p4, p5, p6, p7, p8⟩ := HS.out.cells9 1 rfl; obtain ⟨q0, q1, q2, q3, q4, q5, q6, q7, q8⟩ := HS.out.cells9 0 rfl))
  go_ret
  exact ⟨_, rfl, HS.out.grown⟩
 cases c1 : (Go.bits .and .i64 x.f2 512 == 0)
 case true =>
  go_enter Tryz.func103, Tryz.ntmps103
  go_wp2_with (first | ((with_reducible refine gD 3 rfl ?_); refine sB #[.int .i64 u, .int .i64 g, .slice Ag gs.length cg] 29 HS ?_; clear HS; intro g3 w3 HS _) | ((with_reducible refine gD 4 rfl ?_); refine sB #[.int .i64 x.f0, .int .i64 x.f1, .int .i64 x.f2, .int .i64 x.f3, .int .i64 x.f4, .string x.f5, .slice A6 x.f6.length c6, .int .i64 x.f7, .int .i64 x.f8] 37 HS ?_; clear HS; intro g4 w4 HS _) | ((with_reducible refine gD 5 rfl ?_); refine sB #[.int .i64 y.f0, .int .i64 y.f1, .int .i64 y.f2, .int .i64 y.f3, .int .i64 y.f4, .string y.f5, .slice B6 y.f6.length d6, .int .i64 y.f7, .int .i64 y.f8] 37 HS ?_; clear HS; intro g5 w5 HS _; obtain ⟨z0, z1, z2⟩ := HS.out.cells3 2 rfl) | (go_at_call 20; refine (HC.out _ HS.out.grown).mono ?_; rintro e w6 ⟨rfl, hb⟩; replace HS := zM (HS.out.call hb); clear hb; obtain ⟨z0, z1, z2⟩ := HS.out.cells3 2 rfl; obtain ⟨p0, p1, p2, p3, p4, p5, p6, p7, p8⟩ := HS.out.cells9 1 rfl; obtain ⟨q0, q1, q2, q3, q4, q5, q6, q7, q8⟩ := HS.out.cells9 0 rfl))
  go_ret
  exact ⟨_, rfl, HS.out.grown⟩
 cases c2 : (u == 0)
 case true =>
  go_enter Tryz.func103, Tryz.ntmps103
  go_wp2_with (first | ((with_reducible refine gD 3 rfl ?_); refine sB #[.int .i64 u, .int .i64 g, .slice Ag gs.length cg] 29 HS ?_; clear HS; intro g3 w3 HS _) | ((with_reducible refine gD 4 rfl ?_); refine sB #[.int .i64 x.f0, .int .i64 x.f1, .int .i64 x.f2, .int .i64 x.f3, .int .i64 x.f4, .string x.f5, .slice A6 x.f6.length c6, .int .i64 x.f7, .int .i64 x.f8] 37 HS ?_; clear HS; intro g4 w4 HS _) | ((with_reducible refine gD 5 rfl ?_); refine sB #[.int .i64 y.f0, .int .i64 y.f1, .int .i64 y.f2, .int .i64 y.f3, .int .i64 y.f4, .string y.f5, .slice B6 y.f6.length d6, .int .i64 y.f7, .int .i64 y.f8] 37 HS ?_; clear HS; intro g5 w5 HS _; obtain ⟨z0, z1, z2⟩ := HS.out.cells3 2 rfl) | (go_at_call 20; refine (HC.out _ HS.out.grown).mono ?_; rintro e w6 ⟨rfl, hb⟩; replace HS := zM (HS.out.call hb); clear hb; obtain ⟨z0, z1, z2⟩ := HS.out.cells3 2 rfl; obtain ⟨p0, p1, p2, p3, p4, p5, p6, p7, p8⟩ := HS.out.cells9 1 rfl; obtain ⟨q0, q1, q2, q3, q4, q5, q6, q7, q8⟩ := HS.out.cells9 0 rfl))
  go_ret
  exact ⟨_, rfl, HS.out.grown⟩
 cases c3 : (u == x.f3)
 case true =>
  go_enter Tryz.func103, Tryz.ntmps103
  go_wp2_with (first | ((with_reducible refine gD 3 rfl ?_); refine sB #[.int .i64 u, .int .i64 g, .slice Ag gs.length cg] 29 HS ?_; clear HS; intro g3 w3 HS _) | ((with_reducible refine gD 4 rfl ?_); refine sB #[.int .i64 x.f0, .int .i64 x.f1, .int .i64 x.f2, .int .i64 x.f3, .int .i64 x.f4, .string x.f5, .slice A6 x.f6.length c6, .int .i64 x.f7, .int .i64 x.f8] 37 HS ?_; clear HS; intro g4 w4 HS _) | ((with_reducible refine gD 5 rfl ?_); refine sB #[.int .i64 y.f0, .int .i64 y.f1, .int .i64 y.f2, .int .i64 y.f3, .int .i64 y.f4, .string y.f5, .slice B6 y.f6.length d6, .int .i64 y.f7, .int .i64 y.f8] 37 HS ?_; clear HS; intro g5 w5 HS _; obtain ⟨z0, z1, z2⟩ := HS.out.cells3 2 rfl) | (go_at_call 20; refine (HC.out _ HS.out.grown).mono ?_; rintro e w6 ⟨rfl, hb⟩; replace HS := zM (HS.out.call hb); clear hb; obtain ⟨z0, z1, z2⟩ := HS.out.cells3 2 rfl; obtain ⟨p0, p1, p2, p3, p4, p5, p6, p7, p8⟩ := HS.out.cells9 1 rfl; obtain ⟨q0, q1, q2, q3, q4, q5, q6, q7, q8⟩ := HS.out.cells9 0 rfl))
  go_ret
  exact ⟨_, rfl, HS.out.grown⟩
 cases c4 : (u == y.f3)
 case true =>
  go_enter Tryz.func103, Tryz.ntmps103
  go_wp2_with (first | ((with_reducible refine gD 3 rfl ?_); refine sB #[.int .i64 u, .int .i64 g, .slice Ag gs.length cg] 29 HS ?_; clear HS; intro g3 w3 HS _) | ((with_reducible refine gD 4 rfl ?_); refine sB #[.int .i64 x.f0, .int .i64 x.f1, .int .i64 x.f2, .int .i64 x.f3, .int .i64 x.f4, .string x.f5, .slice A6 x.f6.length c6, .int .i64 x.f7, .int .i64 x.f8] 37 HS ?_; clear HS; intro g4 w4 HS _) | ((with_reducible refine gD 5 rfl ?_); refine sB #[.int .i64 y.f0, .int .i64 y.f1, .int .i64 y.f2, .int .i64 y.f3, .int .i64 y.f4, .string y.f5, .slice B6 y.f6.length d6, .int .i64 y.f7, .int .i64 y.f8] 37 HS ?_; clear HS; intro g5 w5 HS _; obtain ⟨z0, z1, z2⟩ := HS.out.cells3 2 rfl) | (go_at_call 20; refine (HC.out _ HS.out.grown).mono ?_; rintro e w6 ⟨rfl, hb⟩; replace HS := zM (HS.out.call hb); clear hb; obtain ⟨z0, z1, z2⟩ := HS.out.cells3 2 rfl; obtain ⟨p0, p1, p2, p3, p4, p5, p6, p7, p8⟩ := HS.out.cells9 1 rfl; obtain ⟨q0, q1, q2, q3, q4, q5, q6, q7, q8⟩ := HS.out.cells9 0 rfl))
  go_ret
  exact ⟨_, rfl, HS.out.grown⟩
 case false =>
  go_enter Tryz.func103, Tryz.ntmps103
  go_wp2_with (first | ((with_reducible refine gD 3 rfl ?_); refine sB #[.int .i64 u, .int .i64 g, .slice Ag gs.length cg] 29 HS ?_; clear HS; intro g3 w3 HS _) | ((with_reducible refine gD 4 rfl ?_); refine sB #[.int .i64 x.f0, .int .i64 x.f1, .int .i64 x.f2, .int .i64 x.f3, .int .i64 x.f4, .string x.f5, .slice A6 x.f6.length c6, .int .i64 x.f7, .int .i64 x.f8] 37 HS ?_; clear HS; intro g4 w4 HS _) | ((with_reducible refine gD 5 rfl ?_); refine sB #[.int .i64 y.f0, .int .i64 y.f1, .int .i64 y.f2, .int .i64 y.f3, .int .i64 y.f4, .string y.f5, .slice B6 y.f6.length d6, .int .i64 y.f7, .int .i64 y.f8] 37 HS ?_; clear HS; intro g5 w5 HS _; obtain ⟨z0, z1, z2⟩ := HS.out.cells3 2 rfl) | (go_at_call 20; refine (HC.out _ HS.out.grown).mono ?_; rintro e w6 ⟨rfl, hb⟩; replace HS := zM (HS.out.call hb); clear hb; obtain ⟨z0, z1, z2⟩ := HS.out.cells3 2 rfl; obtain ⟨p0, p1, p2, p3, p4, p5, p6, p7, p8⟩ := HS.out.cells9 1 rfl; obtain ⟨q0, q1, q2, q3, q4, q5, q6, q7, q8⟩ := HS.out.cells9 0 rfl))
  go_ret
  exact ⟨_, rfl, HS.out.grown⟩
def ThereP (w : World) (l : List S37) (fol : Bool) (e : Ending) (w' : World) : Prop := ∃ (a : Int) (nm : ByteArray) (i r : Int), e = .returned (.agg #[.int .i64 a, .string nm, .int .i64 i, .int .i64 r]) ∧ SpotOk l fol (a, nm, i, r) ∧ w.grownBy w' none
def NewP (w : World) (l : List S37) (e : Ending) (w' : World) : Prop := ∃ (a : Int) (nm : ByteArray) (i r q : Int), e = .returned (.tuple #[.agg #[.int .i64 a, .string nm, .int .i64 i, .int .i64 r], .int .i64 q]) ∧ (q = 0 → KindD l a ∧ stepI l a nm = 0 ∧ nm.size ≤ 8) ∧ w.grownBy w' none
theorem pathS_any (w : World) (path : ByteArray) : Calls Tryz.prog 21 #[.string path] w fun e w' => e = .returned (.bool (okB path)) ∧ Below w.heap.size w w' := by
 obtain ⟨K, hK⟩ := path_spec path
 exact (spec_PathOk.calls K path _ w (hK K (Nat.le_refl _))).mono fun e w' h => ⟨h.1, h.2.below⟩
theorem there_any (w : World) (nx : Int) (v : Value) (l : List S37) (hv : VolO w v l) (hs : volSmall l) (hw : WfD nx l) (u g : Int) (Ag : Option Addr) (cg : Nat) (gs : List Int) (hg : CredC w Ag cg gs) (path : ByteArray) (fol : Bool) (hp : path.size ≤ 1048576) :
  Calls Tryz.prog 102 #[.agg #[.int .i64 nx, v], .agg #[.int .i64 u, .int .i64 g, .slice Ag gs.length cg], .string path, .bool fol] w (ThereP w l fol) := by
 have hu26 := Tryz.underlying26
 have hu29 := Tryz.underlying29
 have hu33 := Tryz.underlying33
 obtain ⟨A, c, rfl, hc, hC⟩ := hv.reads
 have hm := hC.2.1
 have HWk := zM (fun (W : World) (hW : w.grownBy W none) => walkS_any nx A c l u g Ag cg gs path fol W (Kd.C_below hC (below_grown hW)) hc hs hw.wfV (Kd.C_below hg.1 (below_grown hW)) hg.2 hp)
 have HSp := zM (walkV_spot hw (mayX u g gs 1) path fol)
 have HP := zM (fun (W : World) => pathS_any W path)
 obtain ⟨⟨r1, r2, r3, r4⟩, hrv⟩ : ∃ q, q = walkV l (mayX u g gs 1) path fol := ⟨_, rfl⟩
 rw [← hrv] at HWk HSp
 simp only [spotV] at HWk
 clear hrv hs hw hg hv hC hc
 generalize okB path = pk at HP
 have HS := zM (St.start w none)
 cases pk
 ·go_enter Tryz.func102, Tryz.ntmps102
  go_wp2_with (first | ((with_reducible refine gD 4 rfl ?_); refine sB #[.int .i64 nx, .slice A l.length c] 26 HS ?_; clear HS; intro g4 w4 HS _) | ((with_reducible refine gD 5 rfl ?_); refine sB #[.int .i64 u, .int .i64 g, .slice Ag gs.length cg] 29 HS ?_; clear HS; intro g5 w5 HS _) | ((with_reducible refine gD 8 rfl ?_); refine sB #[.int .i64 0, .string ⟨#[]⟩, .int .i64 0, .int .i64 0] 33 HS ?_; clear HS; intro g8 w8 HS _) | (go_at_call 21; refine (HP.out _).mono ?_; rintro e w9 ⟨rfl, hb⟩; replace HS := zM (HS.out.call hb); clear hb; ) | ((with_reducible refine gS 33 8 rfl ?_); refine sS 0 [.int .i64 0, .string ⟨#[]⟩, .int .i64 0, .int .i64 22] HS ?_; clear HS; intro w10 HS _))
  refine rC 0 HS ?_
  unfold ThereP
  exact ⟨_, _, _, _, rfl, spE_ok fol 22 (by decide), HS.out.grown⟩
 ·go_enter Tryz.func102, Tryz.ntmps102
  go_wp2_with (first | ((with_reducible refine gD 4 rfl ?_); refine sB #[.int .i64 nx, .slice A l.length c] 26 HS ?_; clear HS; intro g4 w4 HS _) | ((with_reducible refine gD 5 rfl ?_); refine sB #[.int .i64 u, .int .i64 g, .slice Ag gs.length cg] 29 HS ?_; clear HS; intro g5 w5 HS _) | ((with_reducible refine gD 8 rfl ?_); refine sB #[.int .i64 0, .string ⟨#[]⟩, .int .i64 0, .int .i64 0] 33 HS ?_; clear HS; intro g8 w8 HS _) | (go_at_call 21; refine (HP.out _).mono ?_; rintro e w9 ⟨rfl, hb⟩; replace HS := zM (HS.out.call hb); clear hb; obtain ⟨z0, z1⟩ := HS.out.cells2 2 rfl; obtain ⟨y0, y1, y2⟩ := HS.out.cells3 1 rfl) | (go_at_call 22; refine (HWk.out _ HS.out.grown).mono ?_; rintro e w10 ⟨rfl, hb⟩; replace HS := zM (HS.out.call hb); clear hb; ) | ((with_reducible refine gS 33 8 rfl ?_); refine sS 0 [.int .i64 r1, .string r2, .int .i64 r3, .int .i64 r4] HS ?_; clear HS; intro w11 HS _))
  refine rC 0 HS ?_
  unfold ThereP
  exact ⟨_, _, _, _, rfl, HSp.out, HS.out.grown⟩
theorem new7_any (w : World) (nx : Int) (v : Value) (l : List S37) (hv : VolO w v l) (hs : volSmall l) (hw : WfD nx l) (u g : Int) (Ag : Option Addr) (cg : Nat) (gs : List Int) (hg : CredC w Ag cg gs) (path : ByteArray) (hp : path.size ≤ 1048576) :
  Calls Tryz.prog 97 #[.agg #[.int .i64 nx, v], .agg #[.int .i64 u, .int .i64 g, .slice Ag gs.length cg], .string path] w (NewP w l) := by
 have hu26 := Tryz.underlying26
 have hu29 := Tryz.underlying29
 have hu33 := Tryz.underlying33
 obtain ⟨A, c, rfl, hc, hC⟩ := hv.reads
 have hm := hC.2.1
 have HWk := zM (fun (W : World) (hW : w.grownBy W none) => walkS_any nx A c l u g Ag cg gs path false W (Kd.C_below hC (below_grown hW)) hc hs hw.wfV (Kd.C_below hg.1 (below_grown hW)) hg.2 hp)
 have HSp := zM (walkV_spot hw (mayX u g gs 1) path false)
 have HP := zM (fun (W : World) => pathS_any W path)
 obtain ⟨⟨r1, r2, r3, r4⟩, hrv⟩ : ∃ q, q = walkV l (mayX u g gs 1) path false := ⟨_, rfl⟩
 rw [← hrv] at HWk HSp
 simp only [spotV] at HWk
 clear hrv hs hw hg hv hC hc
 generalize okB path = pk at HP
 have HS := zM (St.start w none)
 cases pk
 ·go_enter Tryz.func97, Tryz.ntmps97
  go_wp2_with (first | ((with_reducible refine gD 3 rfl ?_); refine sB #[.int .i64 nx, .slice A l.length c] 26 HS ?_; clear HS; intro g3 w3 HS _) | ((with_reducible refine gD 4 rfl ?_); refine sB #[.int .i64 u, .int .i64 g, .slice Ag gs.length cg] 29 HS ?_; clear HS; intro g4 w4 HS _) | ((with_reducible refine gD 6 rfl ?_); refine sB #[.int .i64 0, .string ⟨#[]⟩, .int .i64 0, .int .i64 0] 33 HS ?_; clear HS; intro g6 w6 HS _) | (go_at_call 21; refine (HP.out _).mono ?_; rintro e w9 ⟨rfl, hb⟩; replace HS := zM (HS.out.call hb); clear hb; ) | ((with_reducible refine gS 33 6 rfl ?_); refine sS 0 [.int .i64 0, .string ⟨#[]⟩, .int .i64 0, .int .i64 0] HS ?_; clear HS; intro w10 HS _))
  refine bodyPost_ret (results_ct rfl _ _ g6 33 _ (0, 0) _ rfl (HS.out.get 0 rfl) Tryz.underlying33 rfl (by kernel_rfl)) rfl ?_
  unfold NewP
  exact ⟨_, _, _, _, _, rfl, fun h => absurd h (by decide), HS.out.grown⟩
 cases h0 : (r4 == 0)
 case true =>
  go_enter Tryz.func97, Tryz.ntmps97
  go_wp2_with (first | ((with_reducible refine gD 3 rfl ?_); refine sB #[.int .i64 nx, .slice A l.length c] 26 HS ?_; clear HS; intro g3 w3 HS _) | ((with_reducible refine gD 4 rfl ?_); refine sB #[.int .i64 u, .int .i64 g, .slice Ag gs.length cg] 29 HS ?_; clear HS; intro g4 w4 HS _) | ((with_reducible refine gD 6 rfl ?_); refine sB #[.int .i64 0, .string ⟨#[]⟩, .int .i64 0, .int .i64 0] 33 HS ?_; clear HS; intro g6 w6 HS _) | (go_at_call 21; refine (HP.out _).mono ?_; rintro e w9 ⟨rfl, hb⟩; replace HS := zM (HS.out.call hb); clear hb; obtain ⟨z0, z1⟩ := HS.out.cells2 2 rfl; obtain ⟨y0, y1, y2⟩ := HS.out.cells3 1 rfl) | (go_at_call 22; refine (HWk.out _ HS.out.grown).mono ?_; rintro e w10 ⟨rfl, hb⟩; replace HS := zM (HS.out.call hb); clear hb; ) | ((with_reducible refine gD 8 rfl ?_); refine sB #[.int .i64 0, .string ⟨#[]⟩, .int .i64 0, .int .i64 0] 33 HS ?_; clear HS; intro g8 w8 HS _) | ((with_reducible refine gS 33 8 rfl ?_); refine sS 0 [.int .i64 r1, .string r2, .int .i64 r3, .int .i64 r4] HS ?_; clear HS; intro w11 HS _; obtain ⟨q0, q1, q2, q3⟩ := HS.out.cells4 0 rfl) | ((with_reducible refine gS 33 6 rfl ?_); refine sS 1 [.int .i64 r1, .string r2, .int .i64 r3, .int .i64 r4] HS ?_; clear HS; intro w12 HS _))
  refine bodyPost_ret (results_ct rfl _ _ g6 33 _ (0, 0) _ rfl (HS.out.get 1 rfl) Tryz.underlying33 rfl (by kernel_rfl)) rfl ?_
  unfold NewP
  exact ⟨_, _, _, _, _, rfl, fun h => absurd h (by decide), HS.out.grown⟩
 have H4 := zM (show r4 ≠ 0 from by simpa using h0)
 cases h2 : (r4 == 2)
 case false =>
  go_enter Tryz.func97, Tryz.ntmps97
  go_wp2_with (first | ((with_reducible refine gD 3 rfl ?_); refine sB #[.int .i64 nx, .slice A l.length c] 26 HS ?_; clear HS; intro g3 w3 HS _) | ((with_reducible refine gD 4 rfl ?_); refine sB #[.int .i64 u, .int .i64 g, .slice Ag gs.length cg] 29 HS ?_; clear HS; intro g4 w4 HS _) | ((with_reducible refine gD 6 rfl ?_); refine sB #[.int .i64 0, .string ⟨#[]⟩, .int .i64 0, .int .i64 0] 33 HS ?_; clear HS; intro g6 w6 HS _) | (go_at_call 21; refine (HP.out _).mono ?_; rintro e w9 ⟨rfl, hb⟩; replace HS := zM (HS.out.call hb); clear hb; obtain ⟨z0, z1⟩ := HS.out.cells2 2 rfl; obtain ⟨y0, y1, y2⟩ := HS.out.cells3 1 rfl) | (go_at_call 22; refine (HWk.out _ HS.out.grown).mono ?_; rintro e w10 ⟨rfl, hb⟩; replace HS := zM (HS.out.call hb); clear hb; ) | ((with_reducible refine gD 8 rfl ?_); refine sB #[.int .i64 0, .string ⟨#[]⟩, .int .i64 0, .int .i64 0] 33 HS ?_; clear HS; intro g8 w8 HS _) | ((with_reducible refine gS 33 8 rfl ?_); refine sS 0 [.int .i64 r1, .string r2, .int .i64 r3, .int .i64 r4] HS ?_; clear HS; intro w11 HS _; obtain ⟨q0, q1, q2, q3⟩ := HS.out.cells4 0 rfl))
  clear q0 q1 q2 q3
  have hne_ : g8 ∉ [g6] := by simpa using HS.out.ne 0 1 rfl rfl (by decide)
  have hq0 := Kx.box HS.out 0 rfl hne_ 0 rfl
  have hq1 := Kx.box HS.out 0 rfl hne_ 1 rfl
  have hq2 := Kx.box HS.out 0 rfl hne_ 2 rfl
  have hq3 := Kx.box HS.out 0 rfl hne_ 3 rfl
  clear hne_
  try simp only [Act.put, List.setIfInBounds_toArray, List.set_cons_zero, List.set_cons_succ]
  refine wp_region_mix (KxS [g6] w11) [([0, 1, 2], 3)] [4] (by kernel_rfl) (by kernel_rfl) (fun _ _ _ _ h => h) (KxS.drew _ _) ?_
  have hK := KxS.drew [g6] w11
  replace HS := zM (HS.out.drew)
  refine mix_seg ?_
  simp only [pickO, List.map]
  repeat (go_big_quiet_step (fail))
  refine wpQuiet_nil ?_
  refine sS 1 [.int .i64 r1, .string r2, .int .i64 r3, .int .i64 r4] HS ?_; intro w12 n0_ n1_; clear HS; have HS := n0_; have HG := n1_; clear n0_ n1_
  refine ⟨hK.grow HG.out (by simp), fun hK => mix_end ?_⟩
  clear HG
  simp only [pickO, List.map]
  repeat (go_big_quiet_step (fail))
  refine wpQuiet_nil ?_
  go_wp2
  refine bodyPost_ret (results_ct rfl _ _ g6 33 _ (0, 0) _ rfl (HS.out.get 1 rfl) Tryz.underlying33 rfl (by kernel_rfl)) rfl ?_
  unfold NewP
  exact ⟨_, _, _, _, _, rfl, fun h => absurd h H4.out, HS.out.grown⟩
 have H2 := zM (show r4 = 2 from by simpa using h2)
 by_cases hn : r2.size = 0
 ·have e1 := nil_forms r2 hn
  clear hn
  go_enter Tryz.func97, Tryz.ntmps97
  go_wp2_with (first | ((with_reducible refine gD 3 rfl ?_); refine sB #[.int .i64 nx, .slice A l.length c] 26 HS ?_; clear HS; intro g3 w3 HS _) | ((with_reducible refine gD 4 rfl ?_); refine sB #[.int .i64 u, .int .i64 g, .slice Ag gs.length cg] 29 HS ?_; clear HS; intro g4 w4 HS _) | ((with_reducible refine gD 6 rfl ?_); refine sB #[.int .i64 0, .string ⟨#[]⟩, .int .i64 0, .int .i64 0] 33 HS ?_; clear HS; intro g6 w6 HS _) | (go_at_call 21; refine (HP.out _).mono ?_; rintro e w9 ⟨rfl, hb⟩; replace HS := zM (HS.out.call hb); clear hb; obtain ⟨z0, z1⟩ := HS.out.cells2 2 rfl; obtain ⟨y0, y1, y2⟩ := HS.out.cells3 1 rfl) | (go_at_call 22; refine (HWk.out _ HS.out.grown).mono ?_; rintro e w10 ⟨rfl, hb⟩; replace HS := zM (HS.out.call hb); clear hb; ) | ((with_reducible refine gD 8 rfl ?_); refine sB #[.int .i64 0, .string ⟨#[]⟩, .int .i64 0, .int .i64 0] 33 HS ?_; clear HS; intro g8 w8 HS _) | ((with_reducible refine gS 33 8 rfl ?_); refine sS 0 [.int .i64 r1, .string r2, .int .i64 r3, .int .i64 r4] HS ?_; clear HS; intro w11 HS _; obtain ⟨q0, q1, q2, q3⟩ := HS.out.cells4 0 rfl))
  clear q0 q1 q2 q3
  have hne_ : g8 ∉ [g6] := by simpa using HS.out.ne 0 1 rfl rfl (by decide)
  have hq0 := Kx.box HS.out 0 rfl hne_ 0 rfl
  have hq1 := Kx.box HS.out 0 rfl hne_ 1 rfl
  have hq2 := Kx.box HS.out 0 rfl hne_ 2 rfl
  have hq3 := Kx.box HS.out 0 rfl hne_ 3 rfl
  clear hne_
  try simp only [Act.put, List.setIfInBounds_toArray, List.set_cons_zero, List.set_cons_succ]
  refine wp_region_mix (KxS [g6] w11) [([0, 1, 2], 3)] [4] (by kernel_rfl) (by kernel_rfl) (fun _ _ _ _ h => h) (KxS.drew _ _) ?_
  have hK := KxS.drew [g6] w11
  replace HS := zM (HS.out.drew)
  refine mix_seg ?_
  simp only [pickO, List.map]
  repeat (go_big_quiet_step (fail))
  refine wpQuiet_nil ?_
  refine sS 1 [.int .i64 r1, .string r2, .int .i64 r3, .int .i64 r4] HS ?_; intro w12 n0_ n1_; clear HS; have HS := n0_; have HG := n1_; clear n0_ n1_
  refine ⟨hK.grow HG.out (by simp), fun hK => mix_end ?_⟩
  clear HG
  simp only [pickO, List.map]
  repeat (go_big_quiet_step (fail))
  refine wpQuiet_nil ?_
  go_wp2
  refine bodyPost_ret (results_ct rfl _ _ g6 33 _ (0, 0) _ rfl (HS.out.get 1 rfl) Tryz.underlying33 rfl (by kernel_rfl)) rfl ?_
  unfold NewP
  exact ⟨_, _, _, _, _, rfl, fun h => absurd h H4.out, HS.out.grown⟩
 ·have e1 := nil_not r2 hn
  have e2 : (r2.toList != ([] : List UInt8)) = true := by simpa using e1
  have e3 : r2.toList.isEmpty = false := by simpa using e1
  have e4 : (r2.toList == ([] : List UInt8)) = false := by simpa using e1
  have HN := zM (show r2 ≠ ⟨#[]⟩ from by rintro rfl; exact hn rfl)
  clear hn
  go_enter Tryz.func97, Tryz.ntmps97
  go_wp2_with (first | ((with_reducible refine gD 3 rfl ?_); refine sB #[.int .i64 nx, .slice A l.length c] 26 HS ?_; clear HS; intro g3 w3 HS _) | ((with_reducible refine gD 4 rfl ?_); refine sB #[.int .i64 u, .int .i64 g, .slice Ag gs.length cg] 29 HS ?_; clear HS; intro g4 w4 HS _) | ((with_reducible refine gD 6 rfl ?_); refine sB #[.int .i64 0, .string ⟨#[]⟩, .int .i64 0, .int .i64 0] 33 HS ?_; clear HS; intro g6 w6 HS _) | (go_at_call 21; refine (HP.out _).mono ?_; rintro e w9 ⟨rfl, hb⟩; replace HS := zM (HS.out.call hb); clear hb; obtain ⟨z0, z1⟩ := HS.out.cells2 2 rfl; obtain ⟨y0, y1, y2⟩ := HS.out.cells3 1 rfl) | (go_at_call 22; refine (HWk.out _ HS.out.grown).mono ?_; rintro e w10 ⟨rfl, hb⟩; replace HS := zM (HS.out.call hb); clear hb; ) | ((with_reducible refine gD 8 rfl ?_); refine sB #[.int .i64 0, .string ⟨#[]⟩, .int .i64 0, .int .i64 0] 33 HS ?_; clear HS; intro g8 w8 HS _) | ((with_reducible refine gS 33 8 rfl ?_); refine sS 0 [.int .i64 r1, .string r2, .int .i64 r3, .int .i64 r4] HS ?_; clear HS; intro w11 HS _; obtain ⟨q0, q1, q2, q3⟩ := HS.out.cells4 0 rfl) | ((with_reducible refine gS 33 6 rfl ?_); refine sS 1 [.int .i64 r1, .string r2, .int .i64 r3, .int .i64 r4] HS ?_; clear HS; intro w12 HS _))
  refine bodyPost_ret (results_ct rfl _ _ g6 33 _ (0, 0) _ rfl (HS.out.get 1 rfl) Tryz.underlying33 rfl (by kernel_rfl)) rfl ?_
  unfold NewP
  exact ⟨_, _, _, _, _, rfl, fun _ => ⟨(HSp.out.2.2 H2.out HN.out).1, (HSp.out.2.2 H2.out HN.out).2.2.1, (HSp.out.2.2 H2.out HN.out).2.2.2⟩, HS.out.grown⟩
def PutP (w : World) (n : Nat) (e : Ending) (w' : World) : Prop := ∃ r : ByteArray, e = .returned (.string r) ∧ r.size = n ∧ w.grownBy w' none
theorem put_any (w : World) (s data : ByteArray) (m : Nat) (hs : s.size ≤ 1048576) (hm : m ≤ 100) (hd : data.size ≤ 100) :
  Calls Tryz.prog 107 #[.string s, .int .i64 (m : Int), .string data] w (PutP w (max s.size (m + data.size))) := by
 have hu22 := Tryz.underlying22
 have kb := fun W => print_bytes (P := Tryz.prog) 9 22 5 Tryz.underlying9 Tryz.underlying22 Tryz.underlying5 s W
 obtain ⟨i0, hi0, hi1⟩ := Option.map_eq_some_iff.1 (show (Tryz.prog.info? 5).map (fun i => (i.zero, i.size, i.bytes)) = some (some (.int .u8 0), 1, 1) from by kernel_rfl)
 simp only [Prod.mk.injEq] at hi1
 have HI := zM hi0
 have HZ := zM hi1
 clear hi0 hi1
 have hr0 := rowB_of w w.heap.size 5 (Nat.le_refl _) s (by simp only [maxLen]; omega)
 have HL0 := zM (bytesOf_length s)
 have HG := zM (grown_below (bytes_below (Below.refl w.heap.size w) (Nat.le_refl _) 5 s) none)
 obtain ⟨N, hN⟩ : ∃ N, N = max s.size (m + data.size) := ⟨_, rfl⟩
 have HN := zM (show s.size ≤ N ∧ m + data.size ≤ N ∧ N ≤ 1048576 from by omega)
 have HM := zM (show ∀ k, s.size ≤ k → k ≤ N → ¬ k < m + data.size → k = N from by omega)
 rw [← hN]
 clear hN
 have hwm : wrap64 ((m : Int) + (data.size : Int)) = ((m + data.size : Nat) : Int) := by rw [w64 (by omega) (by omega)]; omega
 have HR0 := zM hr0
 clear hr0
 go_enter Tryz.func107, Tryz.ntmps107
 go_wp2
 go_loopg [7] (N - s.size) (fun kq v7 w' => ∃ (g cap : Nat) (xs : List Int), v7 = .slice (some ⟨g, 0, none⟩) xs.length cap ∧ Aside0 (s.size ≤ xs.length ∧ xs.length + kq = N) ∧ Aside0 (RowB w' w.heap.size (.slice (some ⟨g, 0, none⟩) xs.length cap) xs) ∧ Aside0 (w.grownBy w' none))
 case atStart => exact ⟨w.heap.size, _, bytesOf s, by rw [HL0.out], ⟨by rw [HL0.out]; have := HN.out; omega⟩, ⟨by rw [HL0.out]; exact HR0.out⟩, HG⟩
 case round =>
  clear HG HR0 kb
  obtain ⟨g, cap, xs, rfl, HK, HR, HG⟩ := hrel
  obtain ⟨K, hK⟩ : ∃ K, K = xs.length := ⟨_, rfl⟩
  rw [← hK] at HK HR
  have HKx := zM hK
  by_cases hlt : K < m + data.size
  ·cases gk with
   | zero => have := HK.out; have := HN.out; omega
   | succ k1 =>
   have hlti : (K : Int) < ((m + data.size : Nat) : Int) := by omega
   rw [← hK]
   clear hK
   go_wp2_with (first | (refine gate_builtin (b := .append) (xs := #[.tmp 18, .tmp 19]) rfl ?_; at_builtin; refine rowB_append w.heap.size rfl (.tmp 18) (.tmp 19) 22 5 rfl hu22 i0 HI.out HZ.out.1 HZ.out.2.1 HZ.out.2.2 (.slice (some ⟨g, 0, none⟩) K cap) xs 0 rfl rfl HR.out HG.out.size (by have := HK.out; have := HN.out; rw [← HKx.out]; omega) ?_; intro v1 w1 hR hg; have HG1 := zM (HR.out.grown HG.out hg); obtain ⟨g1, cap1, rfl, -⟩ := hR.slice; have HR1 := zM hR; clear HG HR hR hg; have HG := HG1; have HR := HR1; clear HG1 HR1))
   go_roundg k1
   case measure => have := HK.out; omega
   case rel => exact ⟨g1, cap1, xs ++ [0], by rw [List.length_append, List.length_singleton], ⟨by rw [List.length_append, List.length_singleton, ← HKx.out]; have := HK.out; omega⟩, HR, HG⟩
  ·have hlti : ¬ (K : Int) < ((m + data.size : Nat) : Int) := by omega
   rw [← hK]
   have HKN := zM (HM.out K HK.out.1 (by have := HK.out.2; omega) hlt)
   clear hK hlt
   go_wp2
   go_loopg [8] data.size (fun kq v8 w' => ∃ (i : Nat) (ys : List Int), v8 = .int .i64 (i : Int) ∧ Aside0 (i + kq = data.size ∧ ys.length = K) ∧ Aside0 (RowB w' w.heap.size (.slice (some ⟨g, 0, none⟩) K cap) ys) ∧ Aside0 (w.grownBy w' none))
   case atStart => exact ⟨0, xs, rfl, ⟨by omega, HKx.out.symm⟩, HR, HG⟩
   case round =>
    clear HR HG HK
    obtain ⟨i, ys, rfl, HK, HR, HG⟩ := hrel
    by_cases hi : i < data.size
    ·cases gk with
     | zero => have := HK.out; omega
     | succ k1 =>
     have hii : (i : Int) < (data.size : Int) := by omega
     have hw1 : wrap64 ((i : Int) + 1) = ((i + 1 : Nat) : Int) := by rw [w64 (by omega) (by omega)]; omega
     have hw2 : wrap64 ((m : Int) + (i : Int)) = ((m + i : Nat) : Int) := by rw [w64 (by omega) (by omega)]; omega
     have hmi : ((m + i : Nat) : Int) < (K : Int) := by have := HKN.out; have := HN.out; omega
     go_wp2_with (first | (refine gS 5 34 rfl ?_; refine rowB_store w.heap.size rfl rfl 5 (.tmp 34) (.tmp 33) rfl (by kernel_rfl) (.slice (some ⟨g, 0, none⟩) K cap) ys _ rfl rfl rfl HR.out (by have := HK.out; have := HKN.out; have := HN.out; omega) ?_; intro w1 hR hg hb; have HG1 := zM (HR.out.grown HG.out hg); have HR1 := zM hR; clear HG HR hR hg hb; have HG := HG1; have HR := HR1; clear HG1 HR1))
     go_roundg k1
     case measure => have := HK.out; omega
     case rel => exact ⟨i + 1, _, by first | rfl | rw [hw1], ⟨by have := HK.out; rw [List.length_set]; omega⟩, HR, HG⟩
    ·have hii : ¬ (i : Int) < (data.size : Int) := by omega
     have hcv := rowB_string (P := Tryz.prog) Tryz.underlying22 Tryz.underlying5 Tryz.underlying9 HR.out
     go_wp2
     go_ret
     unfold PutP
     exact ⟨_, rfl, by rw [strOfNums_size, HK.out.2, HKN.out], HG.out⟩
def DoP (w : World) (k : Nat) (e : Ending) (w' : World) : Prop := ∃ (nx : Int) (v : Value) (l : List S37) (r : Int) (s : ByteArray), e = .returned (.tuple #[.agg #[.int .i64 nx, v], .agg #[.int .i64 r, .string s]]) ∧ VolO w' v l ∧ WfD nx l ∧ Sz (k + 1) l ∧ w.grownBy w' none
theorem doSame {w w' : World} {k : Nat} {nx : Int} {v : Value} {l : List S37} {r : Int} {s : ByteArray} (hv : VolO w v l) (hw : WfD nx l) (hz : Sz k l) (hg : w.grownBy w' none) : DoP w k (.returned (.tuple #[.agg #[.int .i64 nx, v], .agg #[.int .i64 r, .string s]])) w' := ⟨nx, v, l, r, s, rfl, hv.keep hg, hw, hz.mono (Nat.le_succ _), hg⟩
theorem doNew {w w' : World} {k : Nat} {nx : Int} {v : Value} {l : List S37} {r : Int} {s : ByteArray} (hv : VolO w' v l) (hw : WfD nx l) (hz : Sz (k + 1) l) (hg : w.grownBy w' none) : DoP w k (.returned (.tuple #[.agg #[.int .i64 nx, v], .agg #[.int .i64 r, .string s]])) w' := ⟨nx, v, l, r, s, rfl, hv, hw, hz, hg⟩
/-- A copy's rows are all its own. -/
theorem volO_copy {w : World} {b : Nat} {v : Value} {l : List S37} (h : Kd.S k37 37 w b (fun _ => True) v l) : VolO w v l := Kd.R_lower (Kd.R_mono (Kd.S_R h) (fun _ _ => trivial)) (Nat.zero_le _)
theorem WfD.head {nx : Int} {l : List S37} (h : WfD nx l) : 0 < l.length := by
 obtain ⟨x, hx, -⟩ := h.root
 exact List.length_pos_of_mem hx
theorem VolO.some_ {w : World} {v : Value} {l : List S37} (h : VolO w v l) (hl : 0 < l.length) : ∃ g c, v = .slice (some ⟨g, 0, none⟩) l.length c := by
 obtain ⟨ad, c, A6, c6, rfl, -⟩ := h.ino 0 hl
 obtain ⟨g, rfl⟩ := Kd.R_head h
 exact ⟨g, c, rfl⟩
theorem St.growN {w0 w w1 : World} {row : Option Nat} {bs : List (Nat × TypeId × Array Value)} (h : St w0 none w bs) (k : w.grownBy w1 row) (lo : Nat) (hlo : w0.heap.size ≤ lo) (hb : ∀ b, row = some b → lo ≤ b) (hn : ∀ p, p ∈ bs → p.1 < lo) : St w0 none w1 bs :=
 h.grow k (fun b hq => .inr (Nat.le_trans hlo (hb b hq))) (fun p hp he => by have := hn p hp; have := hb _ he; omega)
theorem _root_.Go.Proofs.YtiopcpkfjikfdaaGreatDoorW.Mix.KxS.size {X : List Nat} {w w1 : World} (h : KxS X w w1) : w.heap.size ≤ w1.heap.size := by
 obtain ⟨y, rfl⟩ := h
 exact y.size
theorem own_lo {v v1 : Value} {lo n : Nat} (hb : ∀ b, v.ownBlock = some b → lo ≤ b) (hn : lo ≤ n) (h : ∀ b, v1.ownBlock = some b → v.ownBlock = some b ∨ n ≤ b) : ∀ b, v1.ownBlock = some b → lo ≤ b := fun b hq => by
 rcases h b hq with h | h
 ·exact hb b h
 ·exact Nat.le_trans hn h
theorem spot_there {nx : Int} {l : List S37} (hw : WfD nx l) {fol : Bool} {a i r : Int} {nm : ByteArray} (h : SpotOk l fol (a, nm, i, r)) (hr : r = 0) : inoI l i < l.length ∧ (fol = true → (nodeI l i).f1 ≠ 3) := by
 subst hr
 by_cases hn : nm = ⟨#[]⟩
 ·have h1 := h.1 rfl hn
  exact ⟨h1.1, fun _ => by rw [h1.2]; decide⟩
 ·obtain ⟨h1, h2, h3, h4, h5⟩ := h.2.1 rfl hn
  refine ⟨?_, h5⟩
  have h6 := (hw.step (p := nm) h1 (by rw [← h2]; exact h3)).1
  rw [← h2] at h6
  exact there_of h6
theorem try_do (w : World) (k : Nat) (nx0 : Int) (v0 : Value) (l0 : List S37) (hv0 : VolO w v0 l0) (hw0 : WfD nx0 l0) (hz0 : Sz k l0) (nx : Int) (v : Value) (l : List S37) (hv : VolO w v l) (hw : WfD nx l) (hz : Sz k l) (hk : k ≤ 1048576) :
  Calls Tryz.prog 99 #[.agg #[.int .i64 nx0, v0], .agg #[.int .i64 nx, v]] w fun e w' => ∃ (nxf : Int) (vf : Value) (lf : List S37) (r : Int), e = .returned (.tuple #[.agg #[.int .i64 nxf, vf], .agg #[.int .i64 r, .string ⟨#[]⟩]]) ∧ VolO w' vf lf ∧ WfD nxf lf ∧ Sz k lf ∧ w.grownBy w' none := by
 refine (try_any w nx0 v0 l0 hv0 nx v l hv (hz.small hk)).mono ?_
 rintro e w' ⟨q, r, rfl, hq, hg⟩
 rcases hq with rfl | rfl
 ·exact ⟨nx0, v0, l0, r, rfl, hv0.keep hg, hw0, hz0, hg⟩
 ·exact ⟨nx, v, l, r, rfl, hv.keep hg, hw, hz, hg⟩
theorem addWf {nx : Int} {l : List S37} {k : Nat} (hw : WfD nx l) (hz : Sz k l) {dir id : Int} {nm : ByteArray} (hd : KindD l dir) (h0 : ∀ d ∈ (nodeI l dir).f6, d.f0 ≠ nm) (hn : nm.size ≤ 8) (hi : ∃ y ∈ l, y.f0 = id) (h1 : id ≠ 1) {ds : List S59} (hp : ds.Perm (⟨nm, id⟩ :: (nodeI l dir).f6)) :
  WfD nx (withL l { nodeI l dir with f6 := ds }) ∧ Sz (k + 1) (withL l { nodeI l dir with f6 := ds }) := by
 have hm := (there_ex hd.1).1
 refine ⟨hw.add hd.1 hd.2 hi h1 h0 hp, hz.names (Nat.le_succ k) hd.1 ?_ (fun d hd' => ?_)⟩
 ·rw [hp.length_eq, List.length_cons]
  have := hz.nms _ hm
  omega
 ·rcases List.mem_cons.1 (hp.mem_iff.1 hd') with rfl | hd'
  ·show nm.size ≤ 1048576
   omega
  ·exact hz.nam _ hm d hd'
theorem dropWf {nx : Int} {l l' : List S37} {k : Nat} (hw : WfD nx l) (hz : Sz k l) {dir q : Int} {nm : ByteArray} (hd : inoI l dir < l.length) (hq : q = 0 ∨ ∃ d ∈ (nodeI l dir).f6, d.f0 = nm ∧ d.f1 = q)
  (hl : l' = withL l { nodeI l dir with f6 := dropD nm (nodeI l dir).f6 } ∨ (namedN (withL l { nodeI l dir with f6 := dropD nm (nodeI l dir).f6 }) q = 0 ∧ l' = lessI q (withL l { nodeI l dir with f6 := dropD nm (nodeI l dir).f6 }))) :
  WfD nx l' ∧ Sz k l' ∧ ∀ id : Int, id ≠ q → (∃ y ∈ l, y.f0 = id) → ∃ y ∈ l', y.f0 = id := by
 have hm := (there_ex hd).1
 have hs : (dropD nm (nodeI l dir).f6).Sublist (nodeI l dir).f6 := List.filter_sublist
 have h1 := hw.less hd hs
 have h2 : Sz k (withL l { nodeI l dir with f6 := dropD nm (nodeI l dir).f6 }) := hz.names (Nat.le_refl k) hd (Nat.le_trans hs.length_le (hz.nms _ hm)) (fun d hd' => hz.nam _ hm d (hs.subset hd'))
 have q1 : q ≠ 1 := by
  rcases hq with rfl | ⟨d, hd', _, rfl⟩
  ·decide
  ·exact hw.n1 _ hm d hd'
 rcases hl with rfl | ⟨h0, rfl⟩
 ·exact ⟨h1, h2, fun id _ h => withL_there h⟩
 ·exact ⟨h1.cut q1 h0, h2.cut _, fun id hid h => cut_there hid (withL_there h)⟩
theorem notRoot {nx : Int} {l : List S37} (hw : WfD nx l) {i : Int} (h : isDirB l i = false) : i ≠ 1 := by
 rintro rfl
 have h1 := hw.rootK
 unfold isDirB at h
 rw [List.getElem?_eq_getElem h1.1] at h
 have h2 := h1.2
 unfold nodeI at h2
 rw [iAt_eq l _ h1.1] at h2
 simp [h2] at h
theorem size_ne {s : ByteArray} (h : ¬ s.size = 0) : s ≠ ⟨#[]⟩ := by
 rintro rfl
 exact h rfl
theorem size_nil {s : ByteArray} (h : s.size = 0) : s = ⟨#[]⟩ := by
 obtain ⟨⟨l⟩⟩ := s
 have : l = [] := List.eq_nil_of_length_eq_zero h
 rw [this]
theorem St.growM {w0 w w1 : World} {row : Option Nat} {bs : List (Nat × TypeId × Array Value)} (h : St w0 none w bs) (k : w.grownBy w1 row) (gy lo : Nat) (hgy : w0.heap.size ≤ gy) (hlo : w0.heap.size ≤ lo) (hb : ∀ b, row = some b → b = gy ∨ lo ≤ b) (hn : ∀ p, p ∈ bs → p.1 ≠ gy ∧ p.1 < lo) : St w0 none w1 bs :=
 h.grow k (fun b hq => .inr (by rcases hb b hq with h | h <;> omega)) (fun p hp he => by have := hn p hp; rcases hb _ he with h | h <;> omega)
theorem St.ne_typ {w0 w : World} {bs : List (Nat × TypeId × Array Value)} (h : St w0 none w bs) {gy e : Nat} (ht : ∃ cells, w.heap[gy]? = some (.cells cells e (0, 0))) (ho : ∀ p ∈ bs, p.2.1 = e → p.1 ≠ gy) : ∀ p, p ∈ bs → p.1 ≠ gy := fun p hp hq => by
 refine ho p hp ?_ hq
 obtain ⟨cells, hc⟩ := ht
 rw [← hq, h.box p hp] at hc
 injection hc with hc
 injection hc
theorem ownM1 {v v1 : Value} {gy lo n : Nat} (hb : ∀ b, v.ownBlock = some b → b = gy ∨ lo ≤ b) (hn : lo ≤ n) (h : v1.ownBlock = v.ownBlock ∨ ∃ b, v1.ownBlock = some b ∧ n ≤ b) : ∀ b, v1.ownBlock = some b → b = gy ∨ lo ≤ b := fun b hq => by
 rcases own_of h hn b hq with h | h
 ·exact hb b h
 ·exact .inr h
theorem ownM2 {v v1 : Value} {gy lo n : Nat} (hb : ∀ b, v.ownBlock = some b → b = gy ∨ lo ≤ b) (hn : lo ≤ n) (h : ∀ b, v1.ownBlock = some b → v.ownBlock = some b ∨ n ≤ b) : ∀ b, v1.ownBlock = some b → b = gy ∨ lo ≤ b := fun b hq => by
 rcases h b hq with h | h
 ·exact hb b h
 ·exact .inr (Nat.le_trans hn h)
theorem tg_size {s : ByteArray} (h : tgB s = true) : 1 ≤ s.size := by
 unfold tgB targetL at h
 rw [Bool.and_eq_true, decide_eq_true_eq, bytesOf_length] at h
 exact h.1.1
theorem makeWf {nx : Int} {l : List S37} {k : Nat} (hw : WfD nx l) (hz : Sz k l) {dir : Int} {nm : ByteArray} (hd : KindD l dir) (h0 : stepI l dir nm = 0) (hn : nm.size ≤ 8) (x : S37) (e0 : x.f0 = nx) (e6 : x.f6 = []) (hl : x.f1 = 3 → 1 ≤ x.f5.size) (h5 : x.f5.size ≤ 1048000) (hk : k ≤ 1000000) :
  volSmall (withL l x) ∧ inoI (withL l x) dir < (withL l x).length ∧ ∀ ds : List S59, ds.Perm (⟨nm, nx⟩ :: (nodeI (withL l x) dir).f6) → WfD (nx + 1) (withL (withL l x) { nodeI (withL l x) dir with f6 := ds }) ∧ Sz (k + 1) (withL (withL l x) { nodeI (withL l x) dir with f6 := ds }) := by
 obtain ⟨h1, h2⟩ := hw.new e0 e6 hl
 have h3 : Sz (k + 1) (withL l x) := hz.new e6 h5
 obtain ⟨hm, hf⟩ := there_ex hd.1
 have hno : ¬ inoI l x.f0 < l.length := fun hi => by
  obtain ⟨hm, h0⟩ := there_ex hi
  have := (hw.rng _ hm).2
  omega
 have hm' : nodeI l dir ∈ withL l x := by
  unfold withL
  rw [if_neg hno]
  exact List.mem_append_left _ hm
 have he : nodeI (withL l x) dir = nodeI l dir := by
  have := h1.node hm'
  rw [hf] at this
  exact this
 have hi : inoI (withL l x) dir < (withL l x).length := there_of ⟨_, hm', hf⟩
 refine ⟨h3.small (by omega), hi, fun ds hp => ?_⟩
 have hmm := (there_ex hi).1
 refine ⟨h1.add hi (by rw [he]; exact hd.2) h2 (by have := hw.nx2; omega) (by rw [he]; exact hw.noName hd h0) hp, h3.names (Nat.le_refl _) hi ?_ (fun d hd' => ?_)⟩
 ·rw [hp.length_eq, List.length_cons, he]
  have := hz.nms _ hm
  omega
 ·rcases List.mem_cons.1 (hp.mem_iff.1 hd') with rfl | hd'
  ·show nm.size ≤ 1048576
   omega
  ·exact h3.nam _ hmm d hd'
structure RnP (k : Nat) (nx : Int) (l : List S37) (pat pas pis : Int) (nm : ByteArray) : Prop where
 wf : WfD nx l
 sz : Sz k l
 dir : KindD l pat
 no : ∀ d ∈ (nodeI l pat).f6, d.f0 ≠ nm
 id : ∃ y ∈ l, y.f0 = pis
 src : ∃ y ∈ l, y.f0 = pas
theorem ne_of_bs {bs : List (Nat × TypeId × Array Value)} {b : Nat} (h : ∀ p, p ∈ bs → p.1 ≠ b) : ∀ q ∈ bs.map (·.1), q ≠ b := fun q hq => by
 obtain ⟨p, hp, rfl⟩ := List.mem_map.1 hq
 exact h p hp
theorem St.ne_of {w0 w : World} {row : Option Nat} {bs : List (Nat × TypeId × Array Value)} {b : Nat} (_ : St w0 row w bs) (hq : ∀ q ∈ bs.map (·.1), q ≠ b) : ∀ p, p ∈ bs → p.1 ≠ b := fun p hp => hq _ (List.mem_map.2 ⟨p, hp, rfl⟩)
theorem lt_ne {bs : List (Nat × TypeId × Array Value)} {b lo : Nat} (h : ∀ p, p ∈ bs → p.1 < lo) (hb : lo ≤ b) : ∀ p, p ∈ bs → p.1 ≠ b := fun p hp => by have := h p hp; omega
theorem step_names {nx : Int} {l : List S37} (hw : WfD nx l) {dir : Int} {p : ByteArray} (hd : KindD l dir) (h0 : stepI l dir p ≠ 0) : (nodeI l dir).f6 ≠ [] := fun e => by
 obtain ⟨_, _, d, h, _⟩ := hw.step hd h0
 rw [e] at h
 cases h
theorem rn_drop {nx : Int} {l l' : List S37} {k : Nat} (hw : WfD nx l) (hz : Sz k l) {pat pas pis q : Int} {nm : ByteArray} (hd : KindD l pat) (h0 : stepI l pat nm ≠ 0) (hs : KindD l pas) (hi : ∃ y ∈ l, y.f0 = pis) (hi0 : pis ≠ 0)
  (e1 : stepI l pat nm ≠ pis) (e2 : stepI l pat nm ≠ pat) (e3 : stepI l pat nm ≠ pas) (hq : q = 0 ∨ ∃ d ∈ (nodeI l pat).f6, d.f0 = nm ∧ d.f1 = q)
  (hl : l' = withL l { nodeI l pat with f6 := dropD nm (nodeI l pat).f6 } ∨ (namedN (withL l { nodeI l pat with f6 := dropD nm (nodeI l pat).f6 }) q = 0 ∧ l' = lessI q (withL l { nodeI l pat with f6 := dropD nm (nodeI l pat).f6 }))) : RnP k nx l' pat pas pis nm := by
 obtain ⟨h1, h2, h3⟩ := dropWf hw hz hd.1 hq hl
 obtain ⟨hm, hf⟩ := there_ex hd.1
 obtain ⟨hms, hfs⟩ := there_ex hs.1
 have hqe : q = 0 ∨ q = stepI l pat nm := by
  rcases hq with h | ⟨d, hd', e, e'⟩
  ·exact .inl h
  ·refine .inr ?_
   rw [← e']
   exact (lookD_only nm _ (hw.names _ hm) d hd' e).symm
 have hpat : pat ≠ q := by
  rcases hqe with h | h
  ·rw [h, ← hf]
   have := (hw.rng _ hm).1
   omega
  ·rw [h]
   exact e2.symm
 have hpas : pas ≠ q := by
  rcases hqe with h | h
  ·rw [h, ← hfs]
   have := (hw.rng _ hms).1
   omega
  ·rw [h]
   exact e3.symm
 have hpis : pis ≠ q := by
  rcases hqe with h | h
  ·rw [h]
   exact hi0
  ·rw [h]
   exact e1.symm
 have hx : ({ nodeI l pat with f6 := dropD nm (nodeI l pat).f6 } : S37) ∈ l' := by
  rcases hl with rfl | ⟨_, rfl⟩
  ·exact withL_self _
  ·refine List.mem_filter.2 ⟨withL_self _, ?_⟩
   show (!((nodeI l pat).f0 == q)) = true
   rw [hf]
   simpa using hpat
 have hn : nodeI l' pat = { nodeI l pat with f6 := dropD nm (nodeI l pat).f6 } := by
  have e : nodeI l' pat = nodeI l' (nodeI l pat).f0 := by rw [hf]
  rw [e]
  exact h1.node hx
 refine ⟨h1, h2, ⟨there_of ⟨_, hx, hf⟩, by rw [hn]; exact hd.2⟩, fun d hd' => ?_, h3 pis hpis hi, h3 pas hpas ⟨_, hms, hfs⟩⟩
 rw [hn] at hd'
 exact of_decide_eq_true (List.mem_filter.1 hd').2
theorem links_any (w : World) (nx id : Int) (v : Value) (l : List S37) (hv : VolO w v l) (hs : volSmall l) :
  Calls Tryz.prog 109 #[.agg #[.int .i64 nx, v], .int .i64 id] w fun e w' => ∃ r : Int, e = .returned (.int .i64 r) ∧ w.grownBy w' none := by
 have hu26 := Tryz.underlying26
 have hu37 := Tryz.underlying37
 have hu59 := Tryz.underlying59
 obtain ⟨A, c, e0, hc, hC⟩ := hv.reads
 have hm := hC.2.1
 have HA := zM (fun (W : World) (hW : w.grownBy W none) => atS_any nx A c l id W (Kd.C_below hC (below_grown hW)) hc hs)
 have HNm := zM (fun (W : World) (hW : w.grownBy W none) => namedS_any nx A c l id W (Kd.C_below hC (below_grown hW)) hc hs)
 have HDr := zM (fun (W : World) (q : Int) (hW : w.grownBy W none) => dir_any W nx q v l (hv.keep hW) hs)
 have HS := zM (St.start w none)
 by_cases hi : inoI l id < l.length
 case neg =>
  have hat : atV l id = -1 := by unfold atV; rw [if_neg hi]
  rw [hat] at HA
  subst e0
  clear hi hat hC hv hs hc
  go_enter Tryz.func109, Tryz.ntmps109
  go_wp2_with (first | ((with_reducible refine gD 2 rfl ?_); refine sB #[.int .i64 nx, .slice A l.length c] 26 HS ?_; clear HS; intro g2 w2 HS _; obtain ⟨z0, z1⟩ := HS.out.cells2 0 rfl) | (go_at_call 31; refine (HA.out _ HS.out.grown).mono ?_; rintro e w5 ⟨rfl, hb⟩; replace HS := zM (HS.out.call hb); clear hb))
  go_ret
  exact ⟨_, rfl, HS.out.grown⟩
 obtain ⟨i, hie⟩ : ∃ i, i = inoI l id := ⟨_, rfl⟩
 have hil : i < l.length := by omega
 have hili : (i : Int) < (l.length : Int) := by omega
 have hat : atV l id = (i : Int) := by unfold atV; rw [if_pos hi, hie]
 rw [hat] at HA
 obtain ⟨ad, c', A6, c6, e1, hx, hN⟩ := hv.ino i hil
 rw [e0] at e1
 obtain ⟨rfl, -, rfl⟩ : A = some ad ∧ _ ∧ c = c' := by injection e1 with e1 e2 e3; exact ⟨e1, e2, e3⟩
 have HX := zM hx
 have HN := zM hN
 have HL6 := zM (hs.2.1 _ (List.getElem_mem hil))
 generalize l[i] = x at HX HN HL6
 subst e0
 clear hi hie hat hC hv hs hc hx e1 hN
 cases h2 : (x.f1 != 2)
 case true =>
  go_enter Tryz.func109, Tryz.ntmps109
  go_wp2_with (first | ((with_reducible refine gD 2 rfl ?_); refine sB #[.int .i64 nx, .slice (some ad) l.length c] 26 HS ?_; clear HS; intro g2 w2 HS _; obtain ⟨z0, z1⟩ := HS.out.cells2 0 rfl) | (go_at_call 31; refine (HA.out _ HS.out.grown).mono ?_; rintro e w5 ⟨rfl, hb⟩; replace HS := zM (HS.out.call hb); clear hb; obtain ⟨z0, z1⟩ := HS.out.cells2 0 rfl; obtain ⟨hx0, hx1, -⟩ := HX.out.keep HS.out.grown) | (go_at_call 51; refine (HNm.out _ HS.out.grown).mono ?_; rintro e w6 ⟨rfl, hb⟩; replace HS := zM (HS.out.call hb); clear hb))
  go_ret
  exact ⟨_, rfl, HS.out.grown⟩
 case false =>
 go_enter Tryz.func109, Tryz.ntmps109
 go_wp2_with (first | ((with_reducible refine gD 2 rfl ?_); refine sB #[.int .i64 nx, .slice (some ad) l.length c] 26 HS ?_; clear HS; intro g2 w2 HS _; obtain ⟨z0, z1⟩ := HS.out.cells2 0 rfl) | (go_at_call 31; refine (HA.out _ HS.out.grown).mono ?_; rintro e w5 ⟨rfl, hb⟩; replace HS := zM (HS.out.call hb); clear hb; obtain ⟨z0, z1⟩ := HS.out.cells2 0 rfl; obtain ⟨hx0, hx1, -⟩ := HX.out.keep HS.out.grown))
 go_loopg [6, 7] x.f6.length (fun kq v6 v7 w' => ∃ (r : Int) (j : Nat), v6 = .int .i64 r ∧ v7 = .int .i64 (j : Int) ∧ Aside0 (j + kq = x.f6.length) ∧ Aside0 (St w none w' [(g2, 26, #[.int .i64 nx, .slice (some ad) l.length c])]))
 case atStart => exact ⟨2, 0, rfl, rfl, ⟨by simp⟩, HS⟩
 case round =>
  clear HS z0 z1 hx0 hx1
  obtain ⟨r, j, rfl, rfl, HK, HS⟩ := hrel
  obtain ⟨z0, z1⟩ := HS.out.cells2 0 rfl
  obtain ⟨hx0, hx1, hx2, hx3, hx4, hx5, hx6, hx7, hx8⟩ := HX.out.keep HS.out.grown
  obtain ⟨w7, hw7⟩ : ∃ q, q = wr := ⟨_, rfl⟩
  subst hw7
  have hm6 : x.f6.length ≤ 9223372036854775807 := by have := HL6.out; omega
  by_cases hj : j < x.f6.length
  ·cases gk with
   | zero => have := HK.out; omega
   | succ k1 =>
   have hji : (j : Int) < (x.f6.length : Int) := by omega
   have hw1 : wrap64 ((j : Int) + 1) = ((j + 1 : Nat) : Int) := by have := HL6.out; rw [w64 (by omega) (by omega)]; omega
   obtain ⟨bd, rfl, hD⟩ := HN.out.dir j hj
   have HD := zM hD
   clear hD
   generalize x.f6[j] = d at HD
   go_upto_region 10 with (fail)
   clear z0 z1 hx0 hx1 hx2 hx3 hx4 hx5 hx6 hx7 hx8
   have hne_ : g2 ∉ [] := by simp
   have hz0 := Kx.box HS.out 0 rfl hne_ 0 rfl
   have hz1 := Kx.box HS.out 0 rfl hne_ 1 rfl
   clear hne_
   have hX : ∀ g ∈ ([] : List Nat), w.heap.size ≤ g := by simp
   have hx := InoC.kx HX.out HS.out hX (by simp)
   have hy6 : ∀ y : Kx [] w7, y.W.cell? ⟨(ad.add (i * 9)).block, (ad.add (i * 9)).off + 6, none⟩ = some (.slice (some bd) x.f6.length c6) := fun y => (hx y).2.2.2.2.2.2.1
   have hd1 : ∀ y : Kx [] w7, y.W.cell? ⟨(bd.add (j * 2)).block, (bd.add (j * 2)).off + 1, none⟩ = some (.int .i64 d.f1) := Kx.old HS.out hX HD.out.2 (by simp)
   clear hx
   try simp only [Act.put, List.setIfInBounds_toArray, List.set_cons_zero, List.set_cons_succ]
   refine wp_region_mix (KxS [] w7) [([0, 1, 2, 3, 4, 5, 6, 7, 8, 9, 10], 11)] [] (by kernel_rfl) (by kernel_rfl) (fun _ _ _ _ h => h) (KxS.drew _ _) ?_
   have hK := KxS.drew [] w7
   replace HS := zM (HS.out.drew)
   refine mix_seg ?_
   simp only [pickO, List.map]
   repeat (go_big_quiet_step (fail))
   refine wpQuiet_nil ?_
   go_wp2_with (go_at_call 105; refine (HDr.out _ d.f1 HS.out.grown).mono ?_; rintro e w8 ⟨rfl, hb⟩; have HG := zM hb; replace HS := zM (HS.out.calls hb); clear hb)
   refine ⟨hK.grow HG.out (by simp), fun hK => mix_end ?_⟩
   clear HG
   simp only [pickO, List.map]
   repeat (go_big_quiet_step (fail))
   refine wpQuiet_nil ?_
   cases hb : isDirB l d.f1
   all_goals
    go_wp2
    go_roundg k1
    case measure => have := HK.out; omega
    case rel => exact ⟨_, j + 1, rfl, by first | rfl | rw [hw1], ⟨by have := HK.out; omega⟩, HS⟩
  ·go_wp2
   go_ret
   exact ⟨_, rfl, HS.out.grown⟩
end Go.Proofs.YtiopcpkfjikfdaaGreatDoor.PFnClean
