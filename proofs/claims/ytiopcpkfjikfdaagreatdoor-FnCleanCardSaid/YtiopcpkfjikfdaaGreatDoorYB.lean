/- By hand: what the law reaches, walked as plain functions. -/
import Derived.Test.YtiopcpkfjikfdaaGreatDoorYA
set_option maxHeartbeats 8000000
set_option maxRecDepth 100000
namespace Go.Proofs.YtiopcpkfjikfdaaGreatDoor.PFnClean
open Go.RowKit Go.Proofs.YtiopcpkfjikfdaaGreatDoorW.PrintWords Go.Proofs.YtiopcpkfjikfdaaGreatDoorW.PrintLast Go.Proofs.YtiopcpkfjikfdaaGreatDoorW.PrintMore
open Go.Proofs.YtiopcpkfjikfdaaGreatDoorW.Mix
open Go.Proofs.YtiopcpkfjikfdaaGreatDoor.Mth Go.Proofs.YtiopcpkfjikfdaaGreatDoor.Str
set_option linter.unusedVariables false
set_option linter.unusedSimpArgs false
theorem write_any (w : World) (nx : Int) (v : Value) (l : List S37) (k : Nat) (hv : VolO w v l) (hz : Sz k l) (hk : k ≤ 1000000) (hw : WfD nx l) (u g : Int) (Ag : Option Addr) (cg : Nat) (gs : List Int) (hg : CredC w Ag cg gs) (kd : Int) (path tgt data : ByteArray) (n m : Int) (hp : path.size ≤ 1048576) (hd : data.size ≤ 64) (hn : n ≤ 1000000) :
  Calls Tryz.prog 87 #[.agg #[.int .i64 nx, v], .agg #[.int .i64 u, .int .i64 g, .slice Ag gs.length cg], .agg #[.int .i64 kd, .string path, .string tgt, .int .i64 n, .int .i64 m, .string data]] w (DoP w k) := by
 have hu26 := Tryz.underlying26
 have hu29 := Tryz.underlying29
 have hu33 := Tryz.underlying33
 have hu37 := Tryz.underlying37
 have hu94 := Tryz.underlying94
 have hu98 := Tryz.underlying98
 have hu24 := Tryz.underlying24
 have hu35 := Tryz.underlying35
 have hs := hz.small (by omega)
 obtain ⟨A, c, rfl, hc, hC⟩ := hv.reads
 have hm := hC.2.1
 have HL := zM hs.1
 have HV := zM hv
 have HW := zM hw
 have HSm := zM hs
 have HZ := zM hz
 have HKk := zM hk
 have HGc := zM hg
 have HS := zM (St.start w none)
 have HPth := zM hp
 clear hv hs hw hz hg hc hC hk
 go_enter Tryz.func87, Tryz.ntmps87
 go_upto_if 18 with (first | ((with_reducible refine gD 3 rfl ?_); refine sB #[.int .i64 nx, .slice A l.length c] 26 HS ?_; clear HS; intro g3 w3 HS _) | ((with_reducible refine gD 4 rfl ?_); refine sB #[.int .i64 u, .int .i64 g, .slice Ag gs.length cg] 29 HS ?_; clear HS; intro g4 w4 HS _) | ((with_reducible refine gD 5 rfl ?_); refine sB #[.int .i64 kd, .string path, .string tgt, .int .i64 n, .int .i64 m, .string data] 98 HS ?_; clear HS; intro g5 w5 HS _) | ((with_reducible refine gD 6 rfl ?_); refine sB #[.int .i64 0, .slice none 0 0] 26 HS ?_; clear HS; intro g6 w6 HS _) | ((with_reducible refine gD 7 rfl ?_); refine sB #[.int .i64 0, .string ⟨#[]⟩] 94 HS ?_; clear HS; intro g7 w7 HS _; (try clear z0 z1); obtain ⟨z0, z1⟩ := HS.out.cells2 4 rfl; (try clear y0 y1 y2); obtain ⟨y0, y1, y2⟩ := HS.out.cells3 3 rfl; (try clear p0 p1 p2 p3 p4 p5); obtain ⟨p0, p1, p2, p3, p4, p5⟩ := HS.out.cells6 2 rfl) | (go_at_call 102; refine (there_any _ nx _ l (HV.out.keep HS.out.grown) HSm.out HW.out u g Ag cg gs (HGc.out.keep HS.out.grown) path true HPth.out).mono ?_; rintro e w9 ⟨pas, nms, pis, prs, rfl, hq, hb⟩; have HQs := zM hq; replace HS := zM (HS.out.calls hb); clear hq hb; ) | ((with_reducible refine gD 8 rfl ?_); refine sB #[.int .i64 0, .string ⟨#[]⟩, .int .i64 0, .int .i64 0] 33 HS ?_; clear HS; intro g8 w8 HS _) | ((with_reducible refine gS 33 8 rfl ?_); refine sS 0 [.int .i64 pas, .string nms, .int .i64 pis, .int .i64 prs] HS ?_; clear HS; intro w10 HS _; (try clear s0 s1 s2 s3); obtain ⟨s0, s1, s2, s3⟩ := HS.out.cells4 0 rfl))
 cases c1 : (prs != 0)
 case true =>
  clear s0 s1 s2 s3
  as_aux_lemma =>
   go_wp2
   have hne_ : g3 ∉ [g6, g7] := by simpa using (⟨HS.out.ne 5 2 rfl rfl (by decide), HS.out.ne 5 1 rfl rfl (by decide)⟩ : g3 ≠ g6 ∧ g3 ≠ g7)
   have hz0 := Kx.box HS.out 5 rfl hne_ 0 rfl
   have hz1 := Kx.box HS.out 5 rfl hne_ 1 rfl
   clear hne_
   have hne_ : g8 ∉ [g6, g7] := by simpa using (⟨HS.out.ne 0 2 rfl rfl (by decide), HS.out.ne 0 1 rfl rfl (by decide)⟩ : g8 ≠ g6 ∧ g8 ≠ g7)
   have hs0 := Kx.box HS.out 0 rfl hne_ 0 rfl
   have hs1 := Kx.box HS.out 0 rfl hne_ 1 rfl
   have hs2 := Kx.box HS.out 0 rfl hne_ 2 rfl
   have hs3 := Kx.box HS.out 0 rfl hne_ 3 rfl
   clear hne_
   try simp only [Act.put, List.setIfInBounds_toArray, List.set_cons_zero, List.set_cons_succ]
   refine wp_region_mix (KxS [g6, g7] w10) [([0, 1, 2, 3], 4), ([], 5)] [] (by kernel_rfl) (by kernel_rfl) (fun _ _ _ _ h => h) (KxS.drew _ _) ?_
   have hK := KxS.drew [g6, g7] w10
   replace HS := zM (HS.out.drew)
   refine mix_seg ?_
   simp only [pickO, List.map]
   repeat (go_big_quiet_step (fail))
   refine wpQuiet_nil ?_
   refine sS 2 [.int .i64 nx, .slice A l.length c] HS ?_; intro w11 n0_ n1_; clear HS; have HS := n0_; have HG := n1_; clear n0_ n1_
   refine ⟨hK.grow HG.out (by simp), fun hK => mix_seg ?_⟩
   clear HG
   simp only [pickO, List.map]
   repeat (go_big_quiet_step (fail))
   refine wpQuiet_nil ?_
   refine sS 1 [.int .i64 prs, .string ⟨#[]⟩] HS ?_; intro w12 n0_ n1_; clear HS; have HS := n0_; have HG := n1_; clear n0_ n1_
   refine ⟨hK.grow HG.out (by simp), fun hK => mix_end ?_⟩
   clear HG
   simp only [pickO, List.map]
   repeat (go_big_quiet_step (fail))
   refine wpQuiet_nil ?_
   go_wp2
   refine rVR 2 1 HS ?_
   exact doSame HV.out HW.out HZ.out HS.out.grown
 case false =>
 have HT := zM (spot_there HW.out HQs.out (by simpa using c1))
 (try clear z0 z1); obtain ⟨z0, z1⟩ := HS.out.cells2 5 rfl
 go_upto_if 29 with (first | (go_at_call 98; obtain ⟨A6, cA6, hN, hNd⟩ := node_any w nx pis _ l HV.out HSm.out HT.out.1; obtain ⟨x, hx⟩ : ∃ q, q = nodeI l (pis) := ⟨_, rfl⟩; rw [show iAt l (inoI l (pis)) = nodeI l (pis) from rfl, ← hx] at hN hNd; refine (hNd _ HS.out.grown).mono ?_; rintro e w11 ⟨rfl, hb⟩; have HNx := zM hN; have HXx := zM hx; replace HS := zM (HS.out.calls hb); clear hb hx hNd hN; ) | ((with_reducible refine gD 9 rfl ?_); refine sB #[.int .i64 0, .int .i64 0, .int .i64 0, .int .i64 0, .int .i64 0, .string ⟨#[]⟩, .slice none 0 0, .int .i64 0, .int .i64 0] 37 HS ?_; clear HS; intro g9 w9 HS _) | ((with_reducible refine gS 37 9 rfl ?_); refine sS 0 [.int .i64 x.f0, .int .i64 x.f1, .int .i64 x.f2, .int .i64 x.f3, .int .i64 x.f4, .string x.f5, .slice A6 x.f6.length cA6, .int .i64 x.f7, .int .i64 x.f8] HS ?_; clear HS; intro w12 HS _; (try clear q0 q1 q2 q3 q4 q5 q6 q7 q8); obtain ⟨q0, q1, q2, q3, q4, q5, q6, q7, q8⟩ := HS.out.cells9 0 rfl))
 cases c2 : (x.f1 == 2)
 case true =>
  (try clear z0 z1); obtain ⟨z0, z1⟩ := HS.out.cells2 6 rfl
  as_aux_lemma =>
   go_wp2_with (first | ((with_reducible refine gS 26 6 rfl ?_); refine sS 3 [.int .i64 nx, .slice A l.length c] HS ?_; clear HS; intro w13 HS _) | ((with_reducible refine gS 94 7 rfl ?_); refine sS 2 [.int .i64 21, .string ⟨#[]⟩] HS ?_; clear HS; intro w14 HS _))
   refine rVR 3 2 HS ?_
   exact doSame HV.out HW.out HZ.out HS.out.grown
 case false =>
 (try clear y0 y1 y2); obtain ⟨y0, y1, y2⟩ := HS.out.cells3 5 rfl
 go_upto_if 35 with (first | (go_at_call 56; refine (mayS_any u g Ag cg gs 2 x A6 cA6 _ (HGc.out.keep HS.out.grown).1 HGc.out.2 (Kd.R_reads' (HNx.out.keep HS.out.grown)).2.2 (Kd.R_reads' HNx.out).2.1).mono ?_; rintro e w13 ⟨rfl, hb⟩; generalize mayX u g gs 2 x = my; replace HS := zM (HS.out.call hb); clear hb; (try clear z0 z1); obtain ⟨z0, z1⟩ := HS.out.cells2 6 rfl; (try clear p0 p1 p2 p3 p4 p5); obtain ⟨p0, p1, p2, p3, p4, p5⟩ := HS.out.cells6 4 rfl; (try clear q0 q1 q2 q3 q4 q5 q6 q7 q8); obtain ⟨q0, q1, q2, q3, q4, q5, q6, q7, q8⟩ := HS.out.cells9 0 rfl))
 cases my
 case false =>
  as_aux_lemma =>
   go_wp2_with (first | ((with_reducible refine gS 26 6 rfl ?_); refine sS 3 [.int .i64 nx, .slice A l.length c] HS ?_; clear HS; intro w14 HS _) | ((with_reducible refine gS 94 7 rfl ?_); refine sS 2 [.int .i64 13, .string ⟨#[]⟩] HS ?_; clear HS; intro w15 HS _))
   refine rVR 3 2 HS ?_
   exact doSame HV.out HW.out HZ.out HS.out.grown
 case true =>
 go_upto_if 42 with (fail)
 have HXs := zM (show x.f5.size ≤ 1048000 from by rw [HXx.out]; exact HZ.out.dat _ (there_ex HT.out.1).1)
 go_cut [10] (fun v10 w' => ∃ a : Int, v10 = .int .i64 a ∧ Aside0 (a ≤ 1048000) ∧ w13 = w')
 case first =>
  have hx5 : (x.f5.size : Int) ≤ 1048000 := by have := HXs.out; omega
  cases c3 : (kd == 6)
  all_goals
   go_wp2
   go_meet
   case rel => exact ⟨_, rfl, ⟨by omega⟩, rfl⟩
 case rest =>
 obtain ⟨a, rfl, HA, e13⟩ := hcut
 subst e13
 go_upto_if 47 with (fail)
 by_cases c4 : a < 0
 ·
  as_aux_lemma =>
   go_wp2_with (first | ((with_reducible refine gS 26 6 rfl ?_); refine sS 3 [.int .i64 nx, .slice A l.length c] HS ?_; clear HS; intro w15 HS _) | ((with_reducible refine gS 94 7 rfl ?_); refine sS 2 [.int .i64 22, .string ⟨#[]⟩] HS ?_; clear HS; intro w16 HS _))
   refine rVR 3 2 HS ?_
   exact doSame HV.out HW.out HZ.out HS.out.grown
 obtain ⟨b, rfl⟩ : ∃ b : Nat, a = (b : Int) := ⟨a.toNat, by omega⟩
 clear c4
 go_upto_if 52 with (fail)
 cases c5 : (kd == 7)
 case true =>
  go_upto_if 54 with (fail)
  by_cases c6 : (64 : Int) < (b : Int)
  ·
   as_aux_lemma =>
    go_wp2_with (first | ((with_reducible refine gS 26 6 rfl ?_); refine sS 3 [.int .i64 nx, .slice A l.length c] HS ?_; clear HS; intro w15 HS _) | ((with_reducible refine gS 94 7 rfl ?_); refine sS 2 [.int .i64 27, .string ⟨#[]⟩] HS ?_; clear HS; intro w16 HS _))
    refine rVR 3 2 HS ?_
    exact doSame HV.out HW.out HZ.out HS.out.grown
  have hb64 : b ≤ 64 := by omega
  go_upto_region 23 with (first | (go_at_call 107; refine (put_any _ x.f5 ⟨#[]⟩ b (Nat.le_trans HXs.out (by decide)) (by omega) (by decide)).mono ?_; rintro e w16 ⟨rr, rfl, hrr, hb⟩; replace HS := zM (HS.out.calls hb); clear hb; have hrl : (b : Int) ≤ (rr.size : Int) := by omega) | ((with_reducible refine gS 9 63 rfl ?_); obtain ⟨dd, hdd⟩ : ∃ dd, dd = rr.extract 0 b := ⟨_, rfl⟩; have HDd := zM (show dd.size ≤ 1048000 from by rw [hdd, ByteArray.size_extract]; omega); refine st_store (u := .string dd) rfl rfl 9 (.tmp 63) (.tmp 62) rfl 0 [.string dd] rfl (by rw [hdd]; rfl) rfl (by kernel_rfl) rfl HS.out rfl rfl ?_; intro w17 n0_ n1_; clear HS; have HS := n0_; clear n0_ n1_ hdd))
  have HW2 := zM (HW.out.put (x := { x with f5 := dd }) HT.out.1 (by show x.f0 = pis; rw [HXx.out]; exact (there_ex HT.out.1).2) (by show x.f1 = _; rw [HXx.out]) (by show x.f6 = _; rw [HXx.out]) (fun e => absurd (by rw [← HXx.out]; exact e) (HT.out.2 (by first | rfl | trivial | simp))))
  have HZ2 := zM ((HZ.out.put (x := { x with f5 := dd }) HT.out.1 (by show x.f0 = pis; rw [HXx.out]; exact (there_ex HT.out.1).2) (by show x.f6 = _; rw [HXx.out]) HDd.out).mono (Nat.le_succ k))
  have HBl := zM (fun p hp => blk_lt (HS.out.box p hp))
  have HLo := zM HS.out.grown.size
  have hne_ : g3 ∉ [g6, g7] := by simpa using (⟨HS.out.ne 6 3 rfl rfl (by decide), HS.out.ne 6 2 rfl rfl (by decide)⟩ : g3 ≠ g6 ∧ g3 ≠ g7)
  have hz0 := Kx.box HS.out 6 rfl hne_ 0 rfl
  have hz1 := Kx.box HS.out 6 rfl hne_ 1 rfl
  clear hne_
  have hne_ : g9 ∉ [g6, g7] := by simpa using (⟨HS.out.ne 0 3 rfl rfl (by decide), HS.out.ne 0 2 rfl rfl (by decide)⟩ : g9 ≠ g6 ∧ g9 ≠ g7)
  have hx0 := Kx.box HS.out 0 rfl hne_ 0 rfl
  have hx1 := Kx.box HS.out 0 rfl hne_ 1 rfl
  have hx2 := Kx.box HS.out 0 rfl hne_ 2 rfl
  have hx3 := Kx.box HS.out 0 rfl hne_ 3 rfl
  have hx4 := Kx.box HS.out 0 rfl hne_ 4 rfl
  have hx5 := Kx.box HS.out 0 rfl hne_ 5 rfl
  have hx6 := Kx.box HS.out 0 rfl hne_ 6 rfl
  have hx7 := Kx.box HS.out 0 rfl hne_ 7 rfl
  have hx8 := Kx.box HS.out 0 rfl hne_ 8 rfl
  clear hne_
  try simp only [Act.put, List.setIfInBounds_toArray, List.set_cons_zero, List.set_cons_succ]
  refine wp_region_mix (KxS [g6, g7] w17) [([0, 1, 3], 2), ([], 4), ([], 5), ([6, 7], 8), ([], 9)] [] (by kernel_rfl) (by kernel_rfl) (fun _ _ _ _ h => h) (KxS.drew _ _) ?_
  have hK := KxS.drew [g6, g7] w17
  replace HS := zM (HS.out.drew)
  refine mix_seg ?_
  simp only [pickO, List.map]
  repeat (go_big_quiet_step (fail))
  refine wpQuiet_nil ?_
  go_wp2_with (go_at_call 66; refine (copy_any _ nx _ l (HV.out.keep HS.out.grown) HSm.out).mono ?_; rintro e w50 ⟨vy, rfl, hY, hb⟩; have HBy := zM (fun b hb' => Nat.le_trans hK.size (Kd.S_base hY b hb')); have HY := zM (volO_copy hY); have HG := zM hb; replace HS := zM (HS.out.calls hb); clear hb hY)
  refine ⟨hK.grow HG.out (by simp), fun hK => mix_seg ?_⟩
  clear HG
  simp only [pickO, List.map]
  repeat (go_big_quiet_step (fail))
  refine wpQuiet_nil ?_
  go_wp2_with (go_at_call 101; refine (with_any _ nx _ l HY.out HSm.out { x with f5 := dd } A6 cA6 (HNx.out.keep HS.out.grown)).mono ?_; rintro e w51 ⟨v51, rfl, hv', hg, hat⟩; have HG := zM hg; have HBz := zM (lo_of HBy.out hK.size hat); have n0_ := zM (St.growN HS.out hg w17.heap.size HLo.out HBy.out HBl.out); have n1_ := zM (hv'); clear HS HY; have HS := n0_; have HY := n1_; clear n0_ n1_; clear hv' hg hat)
  refine ⟨hK.grow HG.out (fun b hb => .inr (HBy.out b hb)), fun hK => mix_seg ?_⟩
  clear HG
  simp only [pickO, List.map]
  repeat (go_big_quiet_step (fail))
  refine wpQuiet_nil ?_
  have HBy := HBz; clear HBz; go_wp2_with (go_at_call 99; refine (try_do _ (k + 1) nx _ l (HV.out.keep HS.out.grown) HW.out (HZ.out.mono (Nat.le_succ _)) nx _ (withL l { x with f5 := dd }) HY.out HW2.out HZ2.out (by have := HKk.out; omega)).mono ?_; rintro e w52 ⟨nxf, vf, lf, rf, rfl, hvf, hwf, hzf, hb⟩; obtain ⟨Af, cf, rfl⟩ := Kd.R_slice hvf; have HVf := zM hvf; have HWf := zM hwf; have HZf := zM hzf; have HG := zM hb; replace HS := zM (HS.out.calls hb); clear hvf hwf hzf hb)
  refine ⟨hK.grow HG.out (by simp), fun hK => mix_seg ?_⟩
  clear HG
  simp only [pickO, List.map]
  repeat (go_big_quiet_step (fail))
  refine wpQuiet_nil ?_
  refine sS 3 [.int .i64 nxf, .slice Af lf.length cf] HS ?_; intro w53 n0_ n1_; replace HVf := zM (R_box HVf.out (HS.out.get 3 rfl) (by decide) n1_.out); clear HS; have HS := n0_; have HG := n1_; clear n0_ n1_
  refine ⟨hK.grow HG.out (by simp), fun hK => mix_seg ?_⟩
  clear HG
  simp only [pickO, List.map]
  repeat (go_big_quiet_step (fail))
  refine wpQuiet_nil ?_
  refine sS 2 [.int .i64 rf, .string ⟨#[]⟩] HS ?_; intro w54 n0_ n1_; replace HVf := zM (R_box HVf.out (HS.out.get 2 rfl) (by decide) n1_.out); clear HS; have HS := n0_; have HG := n1_; clear n0_ n1_
  refine ⟨hK.grow HG.out (by simp), fun hK => mix_end ?_⟩
  clear HG
  simp only [pickO, List.map]
  repeat (go_big_quiet_step (fail))
  refine wpQuiet_nil ?_
  go_wp2
  refine rVR 3 2 HS ?_
  exact doNew HVf.out HWf.out HZf.out HS.out.grown
 case false =>
 by_cases e0 : data.size = 0
 ·have e1 := nil_forms data e0
  clear e0
  as_aux_lemma =>
   go_wp2_with (first | ((with_reducible refine gS 26 6 rfl ?_); refine sS 3 [.int .i64 nx, .slice A l.length c] HS ?_; clear HS; intro w15 HS _) | ((with_reducible refine gS 94 7 rfl ?_); refine sS 2 [.int .i64 0, .string ⟨#[]⟩] HS ?_; clear HS; intro w16 HS _))
   refine rVR 3 2 HS ?_
   exact doSame HV.out HW.out HZ.out HS.out.grown
 have e1 := nil_not data e0
 have e2 : (data.toList != ([] : List UInt8)) = true := by simpa using e1
 have e3 : data.toList.isEmpty = false := by simpa using e1
 have e4 : (data.toList == ([] : List UInt8)) = false := by simpa using e1
 clear e0
 have hwd : wrap64 (64 - (data.size : Int)) = 64 - (data.size : Int) := w64 (by omega) (by omega)
 go_upto_if 74 with (fail)
 by_cases c6 : 64 - (data.size : Int) < (b : Int)
 ·
  as_aux_lemma =>
   go_wp2_with (first | ((with_reducible refine gS 26 6 rfl ?_); refine sS 3 [.int .i64 nx, .slice A l.length c] HS ?_; clear HS; intro w15 HS _) | ((with_reducible refine gS 94 7 rfl ?_); refine sS 2 [.int .i64 27, .string ⟨#[]⟩] HS ?_; clear HS; intro w16 HS _))
   refine rVR 3 2 HS ?_
   exact doSame HV.out HW.out HZ.out HS.out.grown
 have hb64 : b ≤ 64 := by omega
 go_upto_region 23 with (first | (go_at_call 107; refine (put_any _ x.f5 data b (Nat.le_trans HXs.out (by decide)) (by omega) (by omega)).mono ?_; rintro e w16 ⟨rr, rfl, hrr, hb⟩; replace HS := zM (HS.out.calls hb); clear hb; have HDd := zM (show rr.size ≤ 1048000 from by have := HXs.out; omega); generalize rr = dd at HDd) | ((with_reducible refine gS 9 83 rfl ?_); refine sS 0 [.string dd] HS ?_; clear HS; intro w17 HS _))
 have HW2 := zM (HW.out.put (x := { x with f5 := dd }) HT.out.1 (by show x.f0 = pis; rw [HXx.out]; exact (there_ex HT.out.1).2) (by show x.f1 = _; rw [HXx.out]) (by show x.f6 = _; rw [HXx.out]) (fun e => absurd (by rw [← HXx.out]; exact e) (HT.out.2 (by first | rfl | trivial | simp))))
 have HZ2 := zM ((HZ.out.put (x := { x with f5 := dd }) HT.out.1 (by show x.f0 = pis; rw [HXx.out]; exact (there_ex HT.out.1).2) (by show x.f6 = _; rw [HXx.out]) HDd.out).mono (Nat.le_succ k))
 have HBl := zM (fun p hp => blk_lt (HS.out.box p hp))
 have HLo := zM HS.out.grown.size
 have hne_ : g3 ∉ [g6, g7] := by simpa using (⟨HS.out.ne 6 3 rfl rfl (by decide), HS.out.ne 6 2 rfl rfl (by decide)⟩ : g3 ≠ g6 ∧ g3 ≠ g7)
 have hz0 := Kx.box HS.out 6 rfl hne_ 0 rfl
 have hz1 := Kx.box HS.out 6 rfl hne_ 1 rfl
 clear hne_
 have hne_ : g9 ∉ [g6, g7] := by simpa using (⟨HS.out.ne 0 3 rfl rfl (by decide), HS.out.ne 0 2 rfl rfl (by decide)⟩ : g9 ≠ g6 ∧ g9 ≠ g7)
 have hx0 := Kx.box HS.out 0 rfl hne_ 0 rfl
 have hx1 := Kx.box HS.out 0 rfl hne_ 1 rfl
 have hx2 := Kx.box HS.out 0 rfl hne_ 2 rfl
 have hx3 := Kx.box HS.out 0 rfl hne_ 3 rfl
 have hx4 := Kx.box HS.out 0 rfl hne_ 4 rfl
 have hx5 := Kx.box HS.out 0 rfl hne_ 5 rfl
 have hx6 := Kx.box HS.out 0 rfl hne_ 6 rfl
 have hx7 := Kx.box HS.out 0 rfl hne_ 7 rfl
 have hx8 := Kx.box HS.out 0 rfl hne_ 8 rfl
 clear hne_
 try simp only [Act.put, List.setIfInBounds_toArray, List.set_cons_zero, List.set_cons_succ]
 refine wp_region_mix (KxS [g6, g7] w17) [([0, 1, 3], 2), ([], 4), ([], 5), ([6, 7], 8), ([], 9)] [] (by kernel_rfl) (by kernel_rfl) (fun _ _ _ _ h => h) (KxS.drew _ _) ?_
 have hK := KxS.drew [g6, g7] w17
 replace HS := zM (HS.out.drew)
 refine mix_seg ?_
 simp only [pickO, List.map]
 repeat (go_big_quiet_step (fail))
 refine wpQuiet_nil ?_
 go_wp2_with (go_at_call 66; refine (copy_any _ nx _ l (HV.out.keep HS.out.grown) HSm.out).mono ?_; rintro e w50 ⟨vy, rfl, hY, hb⟩; have HBy := zM (fun b hb' => Nat.le_trans hK.size (Kd.S_base hY b hb')); have HY := zM (volO_copy hY); have HG := zM hb; replace HS := zM (HS.out.calls hb); clear hb hY)
 refine ⟨hK.grow HG.out (by simp), fun hK => mix_seg ?_⟩
 clear HG
 simp only [pickO, List.map]
 repeat (go_big_quiet_step (fail))
 refine wpQuiet_nil ?_
 go_wp2_with (go_at_call 101; refine (with_any _ nx _ l HY.out HSm.out { x with f5 := dd } A6 cA6 (HNx.out.keep HS.out.grown)).mono ?_; rintro e w51 ⟨v51, rfl, hv', hg, hat⟩; have HG := zM hg; have HBz := zM (lo_of HBy.out hK.size hat); have n0_ := zM (St.growN HS.out hg w17.heap.size HLo.out HBy.out HBl.out); have n1_ := zM (hv'); clear HS HY; have HS := n0_; have HY := n1_; clear n0_ n1_; clear hv' hg hat)
 refine ⟨hK.grow HG.out (fun b hb => .inr (HBy.out b hb)), fun hK => mix_seg ?_⟩
 clear HG
 simp only [pickO, List.map]
 repeat (go_big_quiet_step (fail))
 refine wpQuiet_nil ?_
 have HBy := HBz; clear HBz; go_wp2_with (go_at_call 99; refine (try_do _ (k + 1) nx _ l (HV.out.keep HS.out.grown) HW.out (HZ.out.mono (Nat.le_succ _)) nx _ (withL l { x with f5 := dd }) HY.out HW2.out HZ2.out (by have := HKk.out; omega)).mono ?_; rintro e w52 ⟨nxf, vf, lf, rf, rfl, hvf, hwf, hzf, hb⟩; obtain ⟨Af, cf, rfl⟩ := Kd.R_slice hvf; have HVf := zM hvf; have HWf := zM hwf; have HZf := zM hzf; have HG := zM hb; replace HS := zM (HS.out.calls hb); clear hvf hwf hzf hb)
 refine ⟨hK.grow HG.out (by simp), fun hK => mix_seg ?_⟩
 clear HG
 simp only [pickO, List.map]
 repeat (go_big_quiet_step (fail))
 refine wpQuiet_nil ?_
 refine sS 3 [.int .i64 nxf, .slice Af lf.length cf] HS ?_; intro w53 n0_ n1_; replace HVf := zM (R_box HVf.out (HS.out.get 3 rfl) (by decide) n1_.out); clear HS; have HS := n0_; have HG := n1_; clear n0_ n1_
 refine ⟨hK.grow HG.out (by simp), fun hK => mix_seg ?_⟩
 clear HG
 simp only [pickO, List.map]
 repeat (go_big_quiet_step (fail))
 refine wpQuiet_nil ?_
 refine sS 2 [.int .i64 rf, .string ⟨#[]⟩] HS ?_; intro w54 n0_ n1_; replace HVf := zM (R_box HVf.out (HS.out.get 2 rfl) (by decide) n1_.out); clear HS; have HS := n0_; have HG := n1_; clear n0_ n1_
 refine ⟨hK.grow HG.out (by simp), fun hK => mix_end ?_⟩
 clear HG
 simp only [pickO, List.map]
 repeat (go_big_quiet_step (fail))
 refine wpQuiet_nil ?_
 go_wp2
 refine rVR 3 2 HS ?_
 exact doNew HVf.out HWf.out HZf.out HS.out.grown
theorem inS_any (w : World) (u g : Int) (Ag : Option Addr) (cg : Nat) (gs : List Int) (hg : CredC w Ag cg gs) (x : Int) : Calls Tryz.prog 78 #[.agg #[.int .i64 u, .int .i64 g, .slice Ag gs.length cg], .int .i64 x] w fun e w' => e = .returned (.bool (inB u g gs x)) ∧ Below w.heap.size w w' := by
 obtain ⟨K, hK⟩ := in_spec u g gs x
 exact spec_In.calls K u g Ag cg gs x _ w hg.1 hg.2 (hK K (Nat.le_refl _))
theorem set_any (w : World) (nx : Int) (v : Value) (l : List S37) (k : Nat) (hv : VolO w v l) (hz : Sz k l) (hk : k ≤ 1000000) (hw : WfD nx l) (u g : Int) (Ag : Option Addr) (cg : Nat) (gs : List Int) (hg : CredC w Ag cg gs) (kd : Int) (path tgt data : ByteArray) (n m : Int) (hp : path.size ≤ 1048576) :
  Calls Tryz.prog 88 #[.agg #[.int .i64 nx, v], .agg #[.int .i64 u, .int .i64 g, .slice Ag gs.length cg], .agg #[.int .i64 kd, .string path, .string tgt, .int .i64 n, .int .i64 m, .string data]] w (DoP w k) := by
 have hu26 := Tryz.underlying26
 have hu29 := Tryz.underlying29
 have hu33 := Tryz.underlying33
 have hu37 := Tryz.underlying37
 have hu94 := Tryz.underlying94
 have hu98 := Tryz.underlying98
 have hu24 := Tryz.underlying24
 have hu35 := Tryz.underlying35
 have hs := hz.small (by omega)
 obtain ⟨A, c, rfl, hc, hC⟩ := hv.reads
 have hm := hC.2.1
 have HL := zM hs.1
 have HV := zM hv
 have HW := zM hw
 have HSm := zM hs
 have HZ := zM hz
 have HKk := zM hk
 have HGc := zM hg
 have HS := zM (St.start w none)
 have HPth := zM hp
 clear hv hs hw hz hg hc hC hk
 go_enter Tryz.func88, Tryz.ntmps88
 go_upto_block 0 with (first | ((with_reducible refine gD 3 rfl ?_); refine sB #[.int .i64 nx, .slice A l.length c] 26 HS ?_; clear HS; intro g3 w3 HS _) | ((with_reducible refine gD 4 rfl ?_); refine sB #[.int .i64 u, .int .i64 g, .slice Ag gs.length cg] 29 HS ?_; clear HS; intro g4 w4 HS _) | ((with_reducible refine gD 5 rfl ?_); refine sB #[.int .i64 kd, .string path, .string tgt, .int .i64 n, .int .i64 m, .string data] 98 HS ?_; clear HS; intro g5 w5 HS _) | ((with_reducible refine gD 6 rfl ?_); refine sB #[.int .i64 0, .slice none 0 0] 26 HS ?_; clear HS; intro g6 w6 HS _) | ((with_reducible refine gD 7 rfl ?_); refine sB #[.int .i64 0, .string ⟨#[]⟩] 94 HS ?_; clear HS; intro g7 w7 HS _; (try clear z0 z1); obtain ⟨z0, z1⟩ := HS.out.cells2 4 rfl; (try clear y0 y1 y2); obtain ⟨y0, y1, y2⟩ := HS.out.cells3 3 rfl; (try clear p0 p1 p2 p3 p4 p5); obtain ⟨p0, p1, p2, p3, p4, p5⟩ := HS.out.cells6 2 rfl))
 go_cut [8] (fun v8 w' => ∃ bb : Bool, v8 = .bool bb ∧ Aside0 (St w none w' [(g7, 94, #[.int .i64 0, .string ⟨#[]⟩]), (g6, 26, #[.int .i64 0, .slice none 0 0]), (g5, 98, #[.int .i64 kd, .string path, .string tgt, .int .i64 n, .int .i64 m, .string data]), (g4, 29, #[.int .i64 u, .int .i64 g, .slice Ag gs.length cg]), (g3, 26, #[.int .i64 nx, .slice A l.length c])]))
 case first =>
  cases k1 : (kd == 15)
  case true =>
   go_wp2_with ((go_at_call 48; (with_reducible refine (l1In_any n 0 2047 _).mono ?_); rintro e w8 ⟨rfl, hb⟩; generalize rgB n 0 2047 = b1; replace HS := zM (HS.out.call hb.below); clear hb; ))
   go_meet
   case rel => exact ⟨_, rfl, HS⟩
  cases k2 : (kd == 16)
  case true =>
   cases b1 : rgB n 0 1000 <;> cases b2 : rgB m 0 1000
   all_goals
    go_wp2_with (first | (go_at_call 48; (with_reducible refine (l1In_any n 0 1000 _).mono ?_); rintro e w8 ⟨rfl, hb⟩; rw [b1]; replace HS := zM (HS.out.call hb.below); clear hb; (try clear p0 p1 p2 p3 p4 p5); obtain ⟨p0, p1, p2, p3, p4, p5⟩ := HS.out.cells6 2 rfl) | (go_at_call 48; (with_reducible refine (l1In_any m 0 1000 _).mono ?_); rintro e w9 ⟨rfl, hb⟩; rw [b2]; replace HS := zM (HS.out.call hb.below); clear hb; (try clear p0 p1 p2 p3 p4 p5); obtain ⟨p0, p1, p2, p3, p4, p5⟩ := HS.out.cells6 2 rfl))
    go_meet
    case rel => exact ⟨_, rfl, HS⟩
  case false =>
   cases b1 : rgB n 0 400 <;> cases b2 : rgB m 0 24
   all_goals
    go_wp2_with (first | (go_at_call 48; (with_reducible refine (l1In_any n 0 400 _).mono ?_); rintro e w8 ⟨rfl, hb⟩; rw [b1]; replace HS := zM (HS.out.call hb.below); clear hb; (try clear p0 p1 p2 p3 p4 p5); obtain ⟨p0, p1, p2, p3, p4, p5⟩ := HS.out.cells6 2 rfl) | (go_at_call 48; (with_reducible refine (l1In_any m 0 24 _).mono ?_); rintro e w9 ⟨rfl, hb⟩; rw [b2]; replace HS := zM (HS.out.call hb.below); clear hb; (try clear p0 p1 p2 p3 p4 p5); obtain ⟨p0, p1, p2, p3, p4, p5⟩ := HS.out.cells6 2 rfl))
    go_meet
    case rel => exact ⟨_, rfl, HS⟩
 case rest =>
 clear HS
 obtain ⟨bb, rfl, HS⟩ := hcut
 obtain ⟨w11, hw11⟩ : ∃ w11, w11 = wc := ⟨_, rfl⟩
 subst hw11
 (try clear z0 z1); obtain ⟨z0, z1⟩ := HS.out.cells2 4 rfl
 (try clear y0 y1 y2); obtain ⟨y0, y1, y2⟩ := HS.out.cells3 3 rfl
 (try clear p0 p1 p2 p3 p4 p5); obtain ⟨p0, p1, p2, p3, p4, p5⟩ := HS.out.cells6 2 rfl
 go_upto_if 41 with (fail)
 cases bb
 case true =>
  as_aux_lemma =>
   go_wp2_with (first | ((with_reducible refine gS 26 6 rfl ?_); refine sS 1 [.int .i64 nx, .slice A l.length c] HS ?_; clear HS; intro w12 HS _) | ((with_reducible refine gS 94 7 rfl ?_); refine sS 0 [.int .i64 22, .string ⟨#[]⟩] HS ?_; clear HS; intro w13 HS _))
   refine rVR 1 0 HS ?_
   exact doSame HV.out HW.out HZ.out HS.out.grown
 case false =>
 go_upto_region 10 with (fail)
 try simp only [Act.put, List.setIfInBounds_toArray, List.set_cons_zero, List.set_cons_succ]
 go_cut [51] (fun v_ w' => ∃ b_ : Bool, v_ = .bool b_ ∧ w11 = w')
 case first =>
  as_aux_lemma =>
   cases k3 : (kd == 19) <;> cases u0 : (u != 0)
   all_goals
    go_wp2
    go_meet
    case rel => exact ⟨_, rfl, rfl⟩
 case rest =>
 obtain ⟨b3, rfl, e_⟩ := hcut
 subst e_
 cases b3
 case true =>
  as_aux_lemma =>
   go_wp2_with (first | ((with_reducible refine gS 26 6 rfl ?_); refine sS 1 [.int .i64 nx, .slice A l.length c] HS ?_; clear HS; intro w12 HS _) | ((with_reducible refine gS 94 7 rfl ?_); refine sS 0 [.int .i64 1, .string ⟨#[]⟩] HS ?_; clear HS; intro w13 HS _))
   refine rVR 1 0 HS ?_
   exact doSame HV.out HW.out HZ.out HS.out.grown
 case false =>
 go_upto_if 61 with (first | (go_at_call 102; refine (there_any _ nx _ l (HV.out.keep HS.out.grown) HSm.out HW.out u g Ag cg gs (HGc.out.keep HS.out.grown) path true HPth.out).mono ?_; rintro e w12 ⟨pas, nms, pis, prs, rfl, hq, hb⟩; have HQs := zM hq; replace HS := zM (HS.out.calls hb); clear hq hb; ) | ((with_reducible refine gD 9 rfl ?_); refine sB #[.int .i64 0, .string ⟨#[]⟩, .int .i64 0, .int .i64 0] 33 HS ?_; clear HS; intro g9 w9 HS _) | ((with_reducible refine gS 33 9 rfl ?_); refine sS 0 [.int .i64 pas, .string nms, .int .i64 pis, .int .i64 prs] HS ?_; clear HS; intro w14 HS _; (try clear s0 s1 s2 s3); obtain ⟨s0, s1, s2, s3⟩ := HS.out.cells4 0 rfl))
 cases c1 : (prs != 0)
 case true =>
  clear s0 s1 s2 s3
  as_aux_lemma =>
   go_wp2
   have hne_ : g3 ∉ [g6, g7] := by simpa using (⟨HS.out.ne 5 2 rfl rfl (by decide), HS.out.ne 5 1 rfl rfl (by decide)⟩ : g3 ≠ g6 ∧ g3 ≠ g7)
   have hz0 := Kx.box HS.out 5 rfl hne_ 0 rfl
   have hz1 := Kx.box HS.out 5 rfl hne_ 1 rfl
   clear hne_
   have hne_ : g9 ∉ [g6, g7] := by simpa using (⟨HS.out.ne 0 2 rfl rfl (by decide), HS.out.ne 0 1 rfl rfl (by decide)⟩ : g9 ≠ g6 ∧ g9 ≠ g7)
   have hs0 := Kx.box HS.out 0 rfl hne_ 0 rfl
   have hs1 := Kx.box HS.out 0 rfl hne_ 1 rfl
   have hs2 := Kx.box HS.out 0 rfl hne_ 2 rfl
   have hs3 := Kx.box HS.out 0 rfl hne_ 3 rfl
   clear hne_
   try simp only [Act.put, List.setIfInBounds_toArray, List.set_cons_zero, List.set_cons_succ]
   refine wp_region_mix (KxS [g6, g7] w14) [([0, 1, 2, 3], 4), ([], 5)] [] (by kernel_rfl) (by kernel_rfl) (fun _ _ _ _ h => h) (KxS.drew _ _) ?_
   have hK := KxS.drew [g6, g7] w14
   replace HS := zM (HS.out.drew)
   refine mix_seg ?_
   simp only [pickO, List.map]
   repeat (go_big_quiet_step (fail))
   refine wpQuiet_nil ?_
   refine sS 2 [.int .i64 nx, .slice A l.length c] HS ?_; intro w15 n0_ n1_; clear HS; have HS := n0_; have HG := n1_; clear n0_ n1_
   refine ⟨hK.grow HG.out (by simp), fun hK => mix_seg ?_⟩
   clear HG
   simp only [pickO, List.map]
   repeat (go_big_quiet_step (fail))
   refine wpQuiet_nil ?_
   refine sS 1 [.int .i64 prs, .string ⟨#[]⟩] HS ?_; intro w16 n0_ n1_; clear HS; have HS := n0_; have HG := n1_; clear n0_ n1_
   refine ⟨hK.grow HG.out (by simp), fun hK => mix_end ?_⟩
   clear HG
   simp only [pickO, List.map]
   repeat (go_big_quiet_step (fail))
   refine wpQuiet_nil ?_
   go_wp2
   refine rVR 2 1 HS ?_
   exact doSame HV.out HW.out HZ.out HS.out.grown
 case false =>
 have HT := zM (spot_there HW.out HQs.out (by simpa using c1))
 (try clear z0 z1); obtain ⟨z0, z1⟩ := HS.out.cells2 5 rfl
 go_upto_block 1 with (first | (go_at_call 98; obtain ⟨A6, cA6, hN, hNd⟩ := node_any w nx pis _ l HV.out HSm.out HT.out.1; obtain ⟨x, hx⟩ : ∃ q, q = nodeI l (pis) := ⟨_, rfl⟩; rw [show iAt l (inoI l (pis)) = nodeI l (pis) from rfl, ← hx] at hN hNd; refine (hNd _ HS.out.grown).mono ?_; rintro e w15 ⟨rfl, hb⟩; have HNx := zM hN; have HXx := zM hx; replace HS := zM (HS.out.calls hb); clear hb hx hNd hN; (try clear p0 p1 p2 p3 p4 p5); obtain ⟨p0, p1, p2, p3, p4, p5⟩ := HS.out.cells6 3 rfl; (try clear y0 y1 y2); obtain ⟨y0, y1, y2⟩ := HS.out.cells3 4 rfl) | ((with_reducible refine gD 10 rfl ?_); refine sB #[.int .i64 0, .int .i64 0, .int .i64 0, .int .i64 0, .int .i64 0, .string ⟨#[]⟩, .slice none 0 0, .int .i64 0, .int .i64 0] 37 HS ?_; clear HS; intro g10 w10 HS _) | ((with_reducible refine gS 37 10 rfl ?_); refine sS 0 [.int .i64 x.f0, .int .i64 x.f1, .int .i64 x.f2, .int .i64 x.f3, .int .i64 x.f4, .string x.f5, .slice A6 x.f6.length cA6, .int .i64 x.f7, .int .i64 x.f8] HS ?_; clear HS; intro w16 HS _; (try clear q0 q1 q2 q3 q4 q5 q6 q7 q8); obtain ⟨q0, q1, q2, q3, q4, q5, q6, q7, q8⟩ := HS.out.cells9 0 rfl; (try clear p0 p1 p2 p3 p4 p5); obtain ⟨p0, p1, p2, p3, p4, p5⟩ := HS.out.cells6 4 rfl; (try clear y0 y1 y2); obtain ⟨y0, y1, y2⟩ := HS.out.cells3 5 rfl; (try clear z0 z1); obtain ⟨z0, z1⟩ := HS.out.cells2 6 rfl))
 go_cut [] (fun w' => ∃ (q2 q3 q4 q7 q8 : Int), Aside0 (St w none w' [(g10, 37, #[.int .i64 x.f0, .int .i64 x.f1, .int .i64 q2, .int .i64 q3, .int .i64 q4, .string x.f5, .slice A6 x.f6.length cA6, .int .i64 q7, .int .i64 q8]), (g9, 33, #[.int .i64 pas, .string nms, .int .i64 pis, .int .i64 prs]), (g7, 94, #[.int .i64 0, .string ⟨#[]⟩]), (g6, 26, #[.int .i64 0, .slice none 0 0]), (g5, 98, #[.int .i64 kd, .string path, .string tgt, .int .i64 n, .int .i64 m, .string data]), (g4, 29, #[.int .i64 u, .int .i64 g, .slice Ag gs.length cg]), (g3, 26, #[.int .i64 nx, .slice A l.length c])]))
 case first =>
  cases k1 : (kd == 15)
  case true =>
   cases u1 : (u != 0)
   case false =>
    go_wp2_with (first | ((with_reducible refine gS 3 99 rfl ?_); refine sS 0 [.int .i64 n] HS ?_; clear HS; intro w17 HS _; (try clear q0 q1 q2 q3 q4 q5 q6 q7 q8); obtain ⟨q0, q1, q2, q3, q4, q5, q6, q7, q8⟩ := HS.out.cells9 0 rfl; (try clear y0 y1 y2); obtain ⟨y0, y1, y2⟩ := HS.out.cells3 5 rfl))
    go_meet
    case rel => exact ⟨_, _, _, _, _, HS⟩
   cases u2 : (u != x.f3)
   case true =>
    as_aux_lemma =>
     go_wp2_with (first | ((with_reducible refine gS 26 6 rfl ?_); refine sS 3 [.int .i64 nx, .slice A l.length c] HS ?_; clear HS; intro w17 HS _) | ((with_reducible refine gS 94 7 rfl ?_); refine sS 2 [.int .i64 1, .string ⟨#[]⟩] HS ?_; clear HS; intro w18 HS _))
     refine rVR 3 2 HS ?_
     exact doSame HV.out HW.out HZ.out HS.out.grown
   case false =>
    go_wp2_with (first | ((with_reducible refine gS 3 99 rfl ?_); refine sS 0 [.int .i64 n] HS ?_; clear HS; intro w17 HS _; (try clear q0 q1 q2 q3 q4 q5 q6 q7 q8); obtain ⟨q0, q1, q2, q3, q4, q5, q6, q7, q8⟩ := HS.out.cells9 0 rfl; (try clear y0 y1 y2); obtain ⟨y0, y1, y2⟩ := HS.out.cells3 5 rfl) | (go_at_call 78; refine (inS_any _ u g Ag cg gs (HGc.out.keep HS.out.grown) x.f4).mono ?_; rintro e w18 ⟨rfl, hb⟩; generalize inB u g gs x.f4 = bI; replace HS := zM (HS.out.call hb); clear hb; (try clear q0 q1 q2 q3 q4 q5 q6 q7 q8); obtain ⟨q0, q1, q2, q3, q4, q5, q6, q7, q8⟩ := HS.out.cells9 0 rfl; (cases bI)) | ((with_reducible refine gS 3 113 rfl ?_); refine sS 0 [_] HS ?_; clear HS; intro w19 HS _))
    all_goals
     go_meet
     case rel => exact ⟨_, _, _, _, _, HS⟩
  cases k2 : (kd == 16)
  case true =>
   cases u1 : (u != 0)
   case false =>
    go_wp2_with (first | ((with_reducible refine gS 3 144 rfl ?_); refine sS 0 [.int .i64 n] HS ?_; clear HS; intro w17 HS _; (try clear p0 p1 p2 p3 p4 p5); obtain ⟨p0, p1, p2, p3, p4, p5⟩ := HS.out.cells6 4 rfl) | ((with_reducible refine gS 3 147 rfl ?_); refine sS 0 [.int .i64 m] HS ?_; clear HS; intro w18 HS _))
    go_meet
    case rel => exact ⟨_, _, _, _, _, HS⟩
   cases u2 : (u != x.f3)
   case true =>
    as_aux_lemma =>
     go_wp2_with (first | ((with_reducible refine gS 26 6 rfl ?_); refine sS 3 [.int .i64 nx, .slice A l.length c] HS ?_; clear HS; intro w17 HS _) | ((with_reducible refine gS 94 7 rfl ?_); refine sS 2 [.int .i64 1, .string ⟨#[]⟩] HS ?_; clear HS; intro w18 HS _))
     refine rVR 3 2 HS ?_
     exact doSame HV.out HW.out HZ.out HS.out.grown
   cases u3 : (n != x.f3)
   case true =>
    as_aux_lemma =>
     go_wp2_with (first | ((with_reducible refine gS 26 6 rfl ?_); refine sS 3 [.int .i64 nx, .slice A l.length c] HS ?_; clear HS; intro w17 HS _) | ((with_reducible refine gS 94 7 rfl ?_); refine sS 2 [.int .i64 1, .string ⟨#[]⟩] HS ?_; clear HS; intro w18 HS _))
     refine rVR 3 2 HS ?_
     exact doSame HV.out HW.out HZ.out HS.out.grown
   case false =>
    go_wp2_with (first | (go_at_call 78; refine (inS_any _ u g Ag cg gs (HGc.out.keep HS.out.grown) m).mono ?_; rintro e w17 ⟨rfl, hb⟩; generalize inB u g gs m = bI; replace HS := zM (HS.out.call hb); clear hb; (try clear q0 q1 q2 q3 q4 q5 q6 q7 q8); obtain ⟨q0, q1, q2, q3, q4, q5, q6, q7, q8⟩ := HS.out.cells9 0 rfl; (try clear p0 p1 p2 p3 p4 p5); obtain ⟨p0, p1, p2, p3, p4, p5⟩ := HS.out.cells6 4 rfl; (try clear z0 z1); obtain ⟨z0, z1⟩ := HS.out.cells2 6 rfl; (cases bI)) | ((with_reducible refine gS 26 6 rfl ?_); refine sS 3 [.int .i64 nx, .slice A l.length c] HS ?_; clear HS; intro w18 HS _) | ((with_reducible refine gS 94 7 rfl ?_); refine sS 2 [.int .i64 1, .string ⟨#[]⟩] HS ?_; clear HS; intro w19 HS _) | ((with_reducible refine gS 3 144 rfl ?_); refine sS 0 [.int .i64 n] HS ?_; clear HS; intro w18 HS _; (try clear p0 p1 p2 p3 p4 p5); obtain ⟨p0, p1, p2, p3, p4, p5⟩ := HS.out.cells6 4 rfl) | ((with_reducible refine gS 3 147 rfl ?_); refine sS 0 [.int .i64 m] HS ?_; clear HS; intro w19 HS _))
    ·refine rVR 3 2 HS ?_
     exact doSame HV.out HW.out HZ.out HS.out.grown
    ·go_meet
     case rel => exact ⟨_, _, _, _, _, HS⟩
  case false =>
   cases c2 : (x.f1 != 2)
   case true =>
    as_aux_lemma =>
     go_wp2_with (first | ((with_reducible refine gS 26 6 rfl ?_); refine sS 3 [.int .i64 nx, .slice A l.length c] HS ?_; clear HS; intro w17 HS _) | ((with_reducible refine gS 94 7 rfl ?_); refine sS 2 [.int .i64 20, .string ⟨#[]⟩] HS ?_; clear HS; intro w18 HS _))
     refine rVR 3 2 HS ?_
     exact doSame HV.out HW.out HZ.out HS.out.grown
   case false =>
    go_wp2_with (first | ((with_reducible refine gS 3 79 rfl ?_); refine sS 0 [.int .i64 n] HS ?_; clear HS; intro w17 HS _; (try clear p0 p1 p2 p3 p4 p5); obtain ⟨p0, p1, p2, p3, p4, p5⟩ := HS.out.cells6 4 rfl) | ((with_reducible refine gS 3 82 rfl ?_); refine sS 0 [.int .i64 m] HS ?_; clear HS; intro w18 HS _))
    go_meet
    case rel => exact ⟨_, _, _, _, _, HS⟩
 case rest =>
 clear HS
 obtain ⟨q2, q3, q4, q7, q8, HS⟩ := hcut
 obtain ⟨w20, hw20⟩ : ∃ w20, w20 = wc := ⟨_, rfl⟩
 subst hw20
 have HXm := zM (show x ∈ l from by rw [HXx.out]; exact (there_ex HT.out.1).1)
 have HW2 := zM (HW.out.put (x := { x with f2 := q2, f3 := q3, f4 := q4, f7 := q7, f8 := q8 }) HT.out.1 (by show x.f0 = pis; rw [HXx.out]; exact (there_ex HT.out.1).2) (by show x.f1 = _; rw [HXx.out]) (by show x.f6 = _; rw [HXx.out]) (HW.out.link x HXm.out))
 have HZ2 := zM ((HZ.out.put (x := { x with f2 := q2, f3 := q3, f4 := q4, f7 := q7, f8 := q8 }) HT.out.1 (by show x.f0 = pis; rw [HXx.out]; exact (there_ex HT.out.1).2) (by show x.f6 = _; rw [HXx.out]) (HZ.out.dat x HXm.out)).mono (Nat.le_succ k))
 go_upto_region 32 with (fail)
 have HBl := zM (fun p hp => blk_lt (HS.out.box p hp))
 have HLo := zM HS.out.grown.size
 have hne_ : g3 ∉ [g6, g7] := by simpa using (⟨HS.out.ne 6 3 rfl rfl (by decide), HS.out.ne 6 2 rfl rfl (by decide)⟩ : g3 ≠ g6 ∧ g3 ≠ g7)
 have hz0 := Kx.box HS.out 6 rfl hne_ 0 rfl
 have hz1 := Kx.box HS.out 6 rfl hne_ 1 rfl
 clear hne_
 have hne_ : g10 ∉ [g6, g7] := by simpa using (⟨HS.out.ne 0 3 rfl rfl (by decide), HS.out.ne 0 2 rfl rfl (by decide)⟩ : g10 ≠ g6 ∧ g10 ≠ g7)
 have hx0 := Kx.box HS.out 0 rfl hne_ 0 rfl
 have hx1 := Kx.box HS.out 0 rfl hne_ 1 rfl
 have hx2 := Kx.box HS.out 0 rfl hne_ 2 rfl
 have hx3 := Kx.box HS.out 0 rfl hne_ 3 rfl
 have hx4 := Kx.box HS.out 0 rfl hne_ 4 rfl
 have hx5 := Kx.box HS.out 0 rfl hne_ 5 rfl
 have hx6 := Kx.box HS.out 0 rfl hne_ 6 rfl
 have hx7 := Kx.box HS.out 0 rfl hne_ 7 rfl
 have hx8 := Kx.box HS.out 0 rfl hne_ 8 rfl
 clear hne_
 try simp only [Act.put, List.setIfInBounds_toArray, List.set_cons_zero, List.set_cons_succ]
 refine wp_region_mix (KxS [g6, g7] w20) [([0, 1, 3], 2), ([], 4), ([], 5), ([6, 7], 8), ([], 9)] [] (by kernel_rfl) (by kernel_rfl) (fun _ _ _ _ h => h) (KxS.drew _ _) ?_
 have hK := KxS.drew [g6, g7] w20
 replace HS := zM (HS.out.drew)
 refine mix_seg ?_
 simp only [pickO, List.map]
 repeat (go_big_quiet_step (fail))
 refine wpQuiet_nil ?_
 go_wp2_with (go_at_call 66; refine (copy_any _ nx _ l (HV.out.keep HS.out.grown) HSm.out).mono ?_; rintro e w50 ⟨vy, rfl, hY, hb⟩; have HBy := zM (fun b hb' => Nat.le_trans hK.size (Kd.S_base hY b hb')); have HY := zM (volO_copy hY); have HG := zM hb; replace HS := zM (HS.out.calls hb); clear hb hY)
 refine ⟨hK.grow HG.out (by simp), fun hK => mix_seg ?_⟩
 clear HG
 simp only [pickO, List.map]
 repeat (go_big_quiet_step (fail))
 refine wpQuiet_nil ?_
 go_wp2_with (go_at_call 101; refine (with_any _ nx _ l HY.out HSm.out { x with f2 := q2, f3 := q3, f4 := q4, f7 := q7, f8 := q8 } A6 cA6 (HNx.out.keep HS.out.grown)).mono ?_; rintro e w51 ⟨v51, rfl, hv', hg, hat⟩; have HG := zM hg; have HBz := zM (lo_of HBy.out hK.size hat); have n0_ := zM (St.growN HS.out hg w20.heap.size HLo.out HBy.out HBl.out); have n1_ := zM (hv'); clear HS HY; have HS := n0_; have HY := n1_; clear n0_ n1_; clear hv' hg hat)
 refine ⟨hK.grow HG.out (fun b hb => .inr (HBy.out b hb)), fun hK => mix_seg ?_⟩
 clear HG
 simp only [pickO, List.map]
 repeat (go_big_quiet_step (fail))
 refine wpQuiet_nil ?_
 have HBy := HBz; clear HBz; go_wp2_with (go_at_call 99; refine (try_do _ (k + 1) nx _ l (HV.out.keep HS.out.grown) HW.out (HZ.out.mono (Nat.le_succ _)) nx _ (withL l { x with f2 := q2, f3 := q3, f4 := q4, f7 := q7, f8 := q8 }) HY.out HW2.out HZ2.out (by have := HKk.out; omega)).mono ?_; rintro e w52 ⟨nxf, vf, lf, rf, rfl, hvf, hwf, hzf, hb⟩; obtain ⟨Af, cf, rfl⟩ := Kd.R_slice hvf; have HVf := zM hvf; have HWf := zM hwf; have HZf := zM hzf; have HG := zM hb; replace HS := zM (HS.out.calls hb); clear hvf hwf hzf hb)
 refine ⟨hK.grow HG.out (by simp), fun hK => mix_seg ?_⟩
 clear HG
 simp only [pickO, List.map]
 repeat (go_big_quiet_step (fail))
 refine wpQuiet_nil ?_
 refine sS 3 [.int .i64 nxf, .slice Af lf.length cf] HS ?_; intro w53 n0_ n1_; replace HVf := zM (R_box HVf.out (HS.out.get 3 rfl) (by decide) n1_.out); clear HS; have HS := n0_; have HG := n1_; clear n0_ n1_
 refine ⟨hK.grow HG.out (by simp), fun hK => mix_seg ?_⟩
 clear HG
 simp only [pickO, List.map]
 repeat (go_big_quiet_step (fail))
 refine wpQuiet_nil ?_
 refine sS 2 [.int .i64 rf, .string ⟨#[]⟩] HS ?_; intro w54 n0_ n1_; replace HVf := zM (R_box HVf.out (HS.out.get 2 rfl) (by decide) n1_.out); clear HS; have HS := n0_; have HG := n1_; clear n0_ n1_
 refine ⟨hK.grow HG.out (by simp), fun hK => mix_end ?_⟩
 clear HG
 simp only [pickO, List.map]
 repeat (go_big_quiet_step (fail))
 refine wpQuiet_nil ?_
 go_wp2
 refine rVR 3 2 HS ?_
 exact doNew HVf.out HWf.out HZf.out HS.out.grown
end Go.Proofs.YtiopcpkfjikfdaaGreatDoor.PFnClean
