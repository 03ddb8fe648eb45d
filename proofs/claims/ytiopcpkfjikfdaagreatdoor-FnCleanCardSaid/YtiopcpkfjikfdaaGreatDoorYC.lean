/- By hand: what the law reaches, walked as plain functions. -/
import Derived.Test.YtiopcpkfjikfdaaGreatDoorYA
set_option maxHeartbeats 8000000
set_option maxRecDepth 100000
namespace Go.Proofs.YtiopcpkfjikfdaaGreatDoor.PFnClean
open Go.RowKit Go.Proofs.YtiopcpkfjikfdaaGreatDoorW.PrintWords Go.Proofs.YtiopcpkfjikfdaaGreatDoorW.PrintLast Go.Proofs.YtiopcpkfjikfdaaGreatDoorW.PrintMore
open Go.Proofs.YtiopcpkfjikfdaaGreatDoorW.Mix
open Go.Proofs.YtiopcpkfjikfdaaGreatDoor.Mth Go.Proofs.YtiopcpkfjikfdaaGreatDoor.Str
set_option linter.unusedVariables false
set_option linter.unusedSimpArgs false
theorem link_any (w : World) (nx : Int) (v : Value) (l : List S37) (k : Nat) (hv : VolO w v l) (hz : Sz k l) (hk : k ≤ 1000000) (hw : WfD nx l) (u g : Int) (Ag : Option Addr) (cg : Nat) (gs : List Int) (hg : CredC w Ag cg gs) (kd : Int) (path tgt data : ByteArray) (n m : Int) (hp : path.size ≤ 1048576) (ht : tgt.size ≤ 1048576) :
  Calls Tryz.prog 85 #[.agg #[.int .i64 nx, v], .agg #[.int .i64 u, .int .i64 g, .slice Ag gs.length cg], .agg #[.int .i64 kd, .string path, .string tgt, .int .i64 n, .int .i64 m, .string data]] w (DoP w k) := by
 have hu26 := Tryz.underlying26
 have hu29 := Tryz.underlying29
 have hu33 := Tryz.underlying33
 have hu37 := Tryz.underlying37
 have hu94 := Tryz.underlying94
 have hu98 := Tryz.underlying98
 have hu24 := Tryz.underlying24
 have hu35 := Tryz.underlying35
 have hs := hz.small (by omega)
 obtain ⟨A, c, rfl, hc, hC⟩ := hv.reads
 have hm := hC.2.1
 have HL := zM hs.1
 have HV := zM hv
 have HW := zM hw
 have HSm := zM hs
 have HZ := zM hz
 have HKk := zM hk
 have HGc := zM hg
 have HS := zM (St.start w none)
 have HPth := zM hp
 have HTgt := zM ht
 clear hv hs hw hz hg hc hC hk
 go_enter Tryz.func85, Tryz.ntmps85
 go_upto_if 19 with (first | ((with_reducible refine gD 3 rfl ?_); refine sB #[.int .i64 nx, .slice A l.length c] 26 HS ?_; clear HS; intro g3 w3 HS _) | ((with_reducible refine gD 4 rfl ?_); refine sB #[.int .i64 u, .int .i64 g, .slice Ag gs.length cg] 29 HS ?_; clear HS; intro g4 w4 HS _) | ((with_reducible refine gD 5 rfl ?_); refine sB #[.int .i64 kd, .string path, .string tgt, .int .i64 n, .int .i64 m, .string data] 98 HS ?_; clear HS; intro g5 w5 HS _) | ((with_reducible refine gD 6 rfl ?_); refine sB #[.int .i64 0, .slice none 0 0] 26 HS ?_; clear HS; intro g6 w6 HS _) | ((with_reducible refine gD 7 rfl ?_); refine sB #[.int .i64 0, .string ⟨#[]⟩] 94 HS ?_; clear HS; intro g7 w7 HS _; (try clear z0 z1); obtain ⟨z0, z1⟩ := HS.out.cells2 4 rfl; (try clear y0 y1 y2); obtain ⟨y0, y1, y2⟩ := HS.out.cells3 3 rfl; (try clear p0 p1 p2 p3 p4 p5); obtain ⟨p0, p1, p2, p3, p4, p5⟩ := HS.out.cells6 2 rfl) | (go_at_call 102; refine (there_any _ nx _ l (HV.out.keep HS.out.grown) HSm.out HW.out u g Ag cg gs (HGc.out.keep HS.out.grown) path false HPth.out).mono ?_; rintro e w9 ⟨pas, nms, pis, prs, rfl, hq, hb⟩; have HQs := zM hq; replace HS := zM (HS.out.calls hb); clear hq hb; ) | ((with_reducible refine gD 8 rfl ?_); refine sB #[.int .i64 0, .string ⟨#[]⟩, .int .i64 0, .int .i64 0] 33 HS ?_; clear HS; intro g8 w8 HS _) | ((with_reducible refine gS 33 8 rfl ?_); refine sS 0 [.int .i64 pas, .string nms, .int .i64 pis, .int .i64 prs] HS ?_; clear HS; intro w10 HS _; (try clear s0 s1 s2 s3); obtain ⟨s0, s1, s2, s3⟩ := HS.out.cells4 0 rfl))
 cases c1 : (prs != 0)
 case true =>
  clear s0 s1 s2 s3
  as_aux_lemma =>
   go_wp2
   have hne_ : g3 ∉ [g6, g7] := by simpa using (⟨HS.out.ne 5 2 rfl rfl (by decide), HS.out.ne 5 1 rfl rfl (by decide)⟩ : g3 ≠ g6 ∧ g3 ≠ g7)
   have hz0 := Kx.box HS.out 5 rfl hne_ 0 rfl
   have hz1 := Kx.box HS.out 5 rfl hne_ 1 rfl
   clear hne_
   have hne_ : g8 ∉ [g6, g7] := by simpa using (⟨HS.out.ne 0 2 rfl rfl (by decide), HS.out.ne 0 1 rfl rfl (by decide)⟩ : g8 ≠ g6 ∧ g8 ≠ g7)
   have hs0 := Kx.box HS.out 0 rfl hne_ 0 rfl
   have hs1 := Kx.box HS.out 0 rfl hne_ 1 rfl
   have hs2 := Kx.box HS.out 0 rfl hne_ 2 rfl
   have hs3 := Kx.box HS.out 0 rfl hne_ 3 rfl
   clear hne_
   try simp only [Act.put, List.setIfInBounds_toArray, List.set_cons_zero, List.set_cons_succ]
   refine wp_region_mix (KxS [g6, g7] w10) [([0, 1, 2, 3], 4), ([], 5)] [] (by kernel_rfl) (by kernel_rfl) (fun _ _ _ _ h => h) (KxS.drew _ _) ?_
   have hK := KxS.drew [g6, g7] w10
   replace HS := zM (HS.out.drew)
   refine mix_seg ?_
   simp only [pickO, List.map]
   repeat (go_big_quiet_step (fail))
   refine wpQuiet_nil ?_
   refine sS 2 [.int .i64 nx, .slice A l.length c] HS ?_; intro w11 n0_ n1_; clear HS; have HS := n0_; have HG := n1_; clear n0_ n1_
   refine ⟨hK.grow HG.out (by simp), fun hK => mix_seg ?_⟩
   clear HG
   simp only [pickO, List.map]
   repeat (go_big_quiet_step (fail))
   refine wpQuiet_nil ?_
   refine sS 1 [.int .i64 prs, .string ⟨#[]⟩] HS ?_; intro w12 n0_ n1_; clear HS; have HS := n0_; have HG := n1_; clear n0_ n1_
   refine ⟨hK.grow HG.out (by simp), fun hK => mix_end ?_⟩
   clear HG
   simp only [pickO, List.map]
   repeat (go_big_quiet_step (fail))
   refine wpQuiet_nil ?_
   go_wp2
   refine rVR 2 1 HS ?_
   exact doSame HV.out HW.out HZ.out HS.out.grown
 case false =>
 have HT := zM (spot_there HW.out HQs.out (by simpa using c1))
 (try clear z0 z1); obtain ⟨z0, z1⟩ := HS.out.cells2 5 rfl
 go_upto_if 27 with (first | (go_at_call 105; refine (dir_any _ nx pis _ l (HV.out.keep HS.out.grown) HSm.out).mono ?_; rintro e w11 ⟨rfl, hb⟩; replace HS := zM (HS.out.calls hb); clear hb; (try clear z0 z1); obtain ⟨z0, z1⟩ := HS.out.cells2 5 rfl; (try clear y0 y1 y2); obtain ⟨y0, y1, y2⟩ := HS.out.cells3 4 rfl; (try clear p0 p1 p2 p3 p4 p5); obtain ⟨p0, p1, p2, p3, p4, p5⟩ := HS.out.cells6 3 rfl))
 cases c2 : isDirB l pis
 case true =>
  as_aux_lemma =>
   go_wp2_with (first | ((with_reducible refine gS 26 6 rfl ?_); refine sS 2 [.int .i64 nx, .slice A l.length c] HS ?_; clear HS; intro w12 HS _) | ((with_reducible refine gS 94 7 rfl ?_); refine sS 1 [.int .i64 1, .string ⟨#[]⟩] HS ?_; clear HS; intro w13 HS _))
   refine rVR 2 1 HS ?_
   exact doSame HV.out HW.out HZ.out HS.out.grown
 case false =>
 have HN1 := zM (notRoot HW.out c2)
 have HI := zM (there_iff.1 HT.out.1)
 clear c2
 go_upto_if 39 with (first | (go_at_call 97; refine (new7_any _ nx _ l (HV.out.keep HS.out.grown) HSm.out HW.out u g Ag cg gs (HGc.out.keep HS.out.grown) tgt HTgt.out).mono ?_; rintro e w12 ⟨pat, nmt, pit, prt, pqt, rfl, hq, hb⟩; have HQt := zM hq; replace HS := zM (HS.out.calls hb); clear hq hb; ) | ((with_reducible refine gD 9 rfl ?_); refine sB #[.int .i64 0, .string ⟨#[]⟩, .int .i64 0, .int .i64 0] 33 HS ?_; clear HS; intro g9 w9 HS _) | ((with_reducible refine gS 33 9 rfl ?_); refine sS 0 [.int .i64 pat, .string nmt, .int .i64 pit, .int .i64 prt] HS ?_; clear HS; intro w13 HS _; (try clear t0 t1 t2 t3); obtain ⟨t0, t1, t2, t3⟩ := HS.out.cells4 0 rfl; (try clear z0 z1); obtain ⟨z0, z1⟩ := HS.out.cells2 6 rfl))
 cases c3 : (pqt != 0)
 case true =>
  as_aux_lemma =>
   go_wp2_with (first | ((with_reducible refine gS 26 6 rfl ?_); refine sS 3 [.int .i64 nx, .slice A l.length c] HS ?_; clear HS; intro w14 HS _) | ((with_reducible refine gS 94 7 rfl ?_); refine sS 2 [.int .i64 pqt, .string ⟨#[]⟩] HS ?_; clear HS; intro w15 HS _))
   refine rVR 3 2 HS ?_
   exact doSame HV.out HW.out HZ.out HS.out.grown
 case false =>
 have HK := zM (HQt.out (by simpa using c3))
 go_upto_if 50 with (first | (go_at_call 98; obtain ⟨A6, cA6, hN, hNd⟩ := node_any w nx pat _ l HV.out HSm.out HK.out.1.1; obtain ⟨x, hx⟩ : ∃ q, q = nodeI l (pat) := ⟨_, rfl⟩; rw [show iAt l (inoI l (pat)) = nodeI l (pat) from rfl, ← hx] at hN hNd; refine (hNd _ HS.out.grown).mono ?_; rintro e w14 ⟨rfl, hb⟩; have HNx := zM hN; have HXx := zM hx; replace HS := zM (HS.out.calls hb); clear hb hx hNd hN; ) | ((with_reducible refine gD 11 rfl ?_); refine sB #[.int .i64 0, .int .i64 0, .int .i64 0, .int .i64 0, .int .i64 0, .string ⟨#[]⟩, .slice none 0 0, .int .i64 0, .int .i64 0] 37 HS ?_; clear HS; intro g11 w11 HS _) | ((with_reducible refine gS 37 11 rfl ?_); refine sS 0 [.int .i64 x.f0, .int .i64 x.f1, .int .i64 x.f2, .int .i64 x.f3, .int .i64 x.f4, .string x.f5, .slice A6 x.f6.length cA6, .int .i64 x.f7, .int .i64 x.f8] HS ?_; clear HS; intro w15 HS _; (try clear q0 q1 q2 q3 q4 q5 q6 q7 q8); obtain ⟨q0, q1, q2, q3, q4, q5, q6, q7, q8⟩ := HS.out.cells9 0 rfl; (try clear y0 y1 y2); obtain ⟨y0, y1, y2⟩ := HS.out.cells3 6 rfl) | (go_at_call 56; refine (mayS_any u g Ag cg gs 3 x A6 cA6 _ (HGc.out.keep HS.out.grown).1 HGc.out.2 (Kd.R_reads' (HNx.out.keep HS.out.grown)).2.2 (Kd.R_reads' HNx.out).2.1).mono ?_; rintro e w16 ⟨rfl, hb⟩; generalize mayX u g gs 3 x = my; replace HS := zM (HS.out.call hb); clear hb; (try clear q0 q1 q2 q3 q4 q5 q6 q7 q8); obtain ⟨q0, q1, q2, q3, q4, q5, q6, q7, q8⟩ := HS.out.cells9 0 rfl; (try clear z0 z1); obtain ⟨z0, z1⟩ := HS.out.cells2 7 rfl))
 cases my
 case false =>
  as_aux_lemma =>
   go_wp2_with (first | ((with_reducible refine gS 26 6 rfl ?_); refine sS 4 [.int .i64 nx, .slice A l.length c] HS ?_; clear HS; intro w17 HS _) | ((with_reducible refine gS 94 7 rfl ?_); refine sS 3 [.int .i64 13, .string ⟨#[]⟩] HS ?_; clear HS; intro w18 HS _))
   refine rVR 4 3 HS ?_
   exact doSame HV.out HW.out HZ.out HS.out.grown
 case true =>
 by_cases c4 : (12 : Int) ≤ (x.f6.length : Int)
 ·
  as_aux_lemma =>
   go_wp2_with (first | ((with_reducible refine gS 26 6 rfl ?_); refine sS 4 [.int .i64 nx, .slice A l.length c] HS ?_; clear HS; intro w17 HS _) | ((with_reducible refine gS 94 7 rfl ?_); refine sS 3 [.int .i64 28, .string ⟨#[]⟩] HS ?_; clear HS; intro w18 HS _))
   refine rVR 4 3 HS ?_
   exact doSame HV.out HW.out HZ.out HS.out.grown
 go_upto_region 14 with (fail)
 have HBl := zM (fun p hp => blk_lt (HS.out.box p hp))
 have HLo := zM HS.out.grown.size
 have hne_ : g3 ∉ [g6, g7] := by simpa using (⟨HS.out.ne 7 4 rfl rfl (by decide), HS.out.ne 7 3 rfl rfl (by decide)⟩ : g3 ≠ g6 ∧ g3 ≠ g7)
 have hz0 := Kx.box HS.out 7 rfl hne_ 0 rfl
 have hz1 := Kx.box HS.out 7 rfl hne_ 1 rfl
 clear hne_
 have hne_ : g9 ∉ [g6, g7] := by simpa using (⟨HS.out.ne 1 4 rfl rfl (by decide), HS.out.ne 1 3 rfl rfl (by decide)⟩ : g9 ≠ g6 ∧ g9 ≠ g7)
 have ht0 := Kx.box HS.out 1 rfl hne_ 0 rfl
 have ht1 := Kx.box HS.out 1 rfl hne_ 1 rfl
 have ht2 := Kx.box HS.out 1 rfl hne_ 2 rfl
 have ht3 := Kx.box HS.out 1 rfl hne_ 3 rfl
 clear hne_
 have hne_ : g8 ∉ [g6, g7] := by simpa using (⟨HS.out.ne 2 4 rfl rfl (by decide), HS.out.ne 2 3 rfl rfl (by decide)⟩ : g8 ≠ g6 ∧ g8 ≠ g7)
 have hs0 := Kx.box HS.out 2 rfl hne_ 0 rfl
 have hs1 := Kx.box HS.out 2 rfl hne_ 1 rfl
 have hs2 := Kx.box HS.out 2 rfl hne_ 2 rfl
 have hs3 := Kx.box HS.out 2 rfl hne_ 3 rfl
 clear hne_
 try simp only [Act.put, List.setIfInBounds_toArray, List.set_cons_zero, List.set_cons_succ]
 refine wp_region_mix (KxS [g6, g7] w16) [([0, 1, 3, 4, 5, 6, 7, 8], 2), ([], 9), ([], 10), ([11, 12], 13), ([], 14)] [] (by kernel_rfl) (by kernel_rfl) (fun _ _ _ _ h => h) (KxS.drew _ _) ?_
 have hK := KxS.drew [g6, g7] w16
 replace HS := zM (HS.out.drew)
 refine mix_seg ?_
 simp only [pickO, List.map]
 repeat (go_big_quiet_step (fail))
 refine wpQuiet_nil ?_
 go_wp2_with (go_at_call 66; refine (copy_any _ nx _ l (HV.out.keep HS.out.grown) HSm.out).mono ?_; rintro e w50 ⟨vy, rfl, hY, hb⟩; have HBy := zM (fun b hb' => Nat.le_trans hK.size (Kd.S_base hY b hb')); have HY := zM (volO_copy hY); have HG := zM hb; replace HS := zM (HS.out.calls hb); clear hb hY)
 refine ⟨hK.grow HG.out (by simp), fun hK => mix_seg ?_⟩
 clear HG
 simp only [pickO, List.map]
 repeat (go_big_quiet_step (fail))
 refine wpQuiet_nil ?_
 go_wp2_with (go_at_call 100; refine (add_any _ nx pat pis nmt _ l HY.out HSm.out HK.out.1.1).mono ?_; rintro e w51 ⟨v51, ds, rfl, hp, hv', hg, hat⟩; have HP := zM hp; have HG := zM hg; have HBz := zM (own_lo HBy.out hK.size hat); have n0_ := zM (St.growN HS.out hg w16.heap.size HLo.out HBy.out HBl.out); have n1_ := zM (hv'); clear HS HY; have HS := n0_; have HY := n1_; clear n0_ n1_; clear hp hv' hg hat); have HA2 := zM (addWf HW.out HZ.out HK.out.1 (HW.out.noName HK.out.1 HK.out.2.1) HK.out.2.2 HI.out HN1.out HP.out)
 refine ⟨hK.grow HG.out (fun b hb => .inr (HBy.out b hb)), fun hK => mix_seg ?_⟩
 clear HG
 simp only [pickO, List.map]
 repeat (go_big_quiet_step (fail))
 refine wpQuiet_nil ?_
 have HBy := HBz; clear HBz; go_wp2_with (go_at_call 99; refine (try_do _ (k + 1) nx _ l (HV.out.keep HS.out.grown) HW.out (HZ.out.mono (Nat.le_succ _)) nx _ (withL l { nodeI l pat with f6 := ds }) HY.out HA2.out.1 HA2.out.2 (by have := HKk.out; omega)).mono ?_; rintro e w52 ⟨nxf, vf, lf, rf, rfl, hvf, hwf, hzf, hb⟩; obtain ⟨Af, cf, rfl⟩ := Kd.R_slice hvf; have HVf := zM hvf; have HWf := zM hwf; have HZf := zM hzf; have HG := zM hb; replace HS := zM (HS.out.calls hb); clear hvf hwf hzf hb)
 refine ⟨hK.grow HG.out (by simp), fun hK => mix_seg ?_⟩
 clear HG
 simp only [pickO, List.map]
 repeat (go_big_quiet_step (fail))
 refine wpQuiet_nil ?_
 refine sS 4 [.int .i64 nxf, .slice Af lf.length cf] HS ?_; intro w53 n0_ n1_; replace HVf := zM (R_box HVf.out (HS.out.get 4 rfl) (by decide) n1_.out); clear HS; have HS := n0_; have HG := n1_; clear n0_ n1_
 refine ⟨hK.grow HG.out (by simp), fun hK => mix_seg ?_⟩
 clear HG
 simp only [pickO, List.map]
 repeat (go_big_quiet_step (fail))
 refine wpQuiet_nil ?_
 refine sS 3 [.int .i64 rf, .string ⟨#[]⟩] HS ?_; intro w54 n0_ n1_; replace HVf := zM (R_box HVf.out (HS.out.get 3 rfl) (by decide) n1_.out); clear HS; have HS := n0_; have HG := n1_; clear n0_ n1_
 refine ⟨hK.grow HG.out (by simp), fun hK => mix_end ?_⟩
 clear HG
 simp only [pickO, List.map]
 repeat (go_big_quiet_step (fail))
 refine wpQuiet_nil ?_
 go_wp2
 refine rVR 4 3 HS ?_
 exact doNew HVf.out HWf.out HZf.out HS.out.grown
theorem remove_any (w : World) (nx : Int) (v : Value) (l : List S37) (k : Nat) (hv : VolO w v l) (hz : Sz k l) (hk : k ≤ 1000000) (hw : WfD nx l) (u g : Int) (Ag : Option Addr) (cg : Nat) (gs : List Int) (hg : CredC w Ag cg gs) (kd : Int) (path tgt data : ByteArray) (n m : Int) (hp : path.size ≤ 1048576) (hkd : kd = 2 ∨ kd = 8) :
  Calls Tryz.prog 84 #[.agg #[.int .i64 nx, v], .agg #[.int .i64 u, .int .i64 g, .slice Ag gs.length cg], .agg #[.int .i64 kd, .string path, .string tgt, .int .i64 n, .int .i64 m, .string data]] w (DoP w k) := by
 have hu26 := Tryz.underlying26
 have hu29 := Tryz.underlying29
 have hu33 := Tryz.underlying33
 have hu37 := Tryz.underlying37
 have hu94 := Tryz.underlying94
 have hu98 := Tryz.underlying98
 have hu24 := Tryz.underlying24
 have hu35 := Tryz.underlying35
 have hs := hz.small (by omega)
 obtain ⟨A, c, rfl, hc, hC⟩ := hv.reads
 have hm := hC.2.1
 have HL := zM hs.1
 have HV := zM hv
 have HW := zM hw
 have HSm := zM hs
 have HZ := zM hz
 have HKk := zM hk
 have HGc := zM hg
 have HS := zM (St.start w none)
 have HPth := zM hp
 have HKd := zM hkd
 clear hkd
 clear hv hs hw hz hg hc hC hk
 go_enter Tryz.func84, Tryz.ntmps84
 go_upto_if 18 with (first | ((with_reducible refine gD 3 rfl ?_); refine sB #[.int .i64 nx, .slice A l.length c] 26 HS ?_; clear HS; intro g3 w3 HS _) | ((with_reducible refine gD 4 rfl ?_); refine sB #[.int .i64 u, .int .i64 g, .slice Ag gs.length cg] 29 HS ?_; clear HS; intro g4 w4 HS _) | ((with_reducible refine gD 5 rfl ?_); refine sB #[.int .i64 kd, .string path, .string tgt, .int .i64 n, .int .i64 m, .string data] 98 HS ?_; clear HS; intro g5 w5 HS _) | ((with_reducible refine gD 6 rfl ?_); refine sB #[.int .i64 0, .slice none 0 0] 26 HS ?_; clear HS; intro g6 w6 HS _) | ((with_reducible refine gD 7 rfl ?_); refine sB #[.int .i64 0, .string ⟨#[]⟩] 94 HS ?_; clear HS; intro g7 w7 HS _; (try clear z0 z1); obtain ⟨z0, z1⟩ := HS.out.cells2 4 rfl; (try clear y0 y1 y2); obtain ⟨y0, y1, y2⟩ := HS.out.cells3 3 rfl; (try clear p0 p1 p2 p3 p4 p5); obtain ⟨p0, p1, p2, p3, p4, p5⟩ := HS.out.cells6 2 rfl) | (go_at_call 102; refine (there_any _ nx _ l (HV.out.keep HS.out.grown) HSm.out HW.out u g Ag cg gs (HGc.out.keep HS.out.grown) path false HPth.out).mono ?_; rintro e w9 ⟨pas, nms, pis, prs, rfl, hq, hb⟩; have HQs := zM hq; replace HS := zM (HS.out.calls hb); clear hq hb; ) | ((with_reducible refine gD 8 rfl ?_); refine sB #[.int .i64 0, .string ⟨#[]⟩, .int .i64 0, .int .i64 0] 33 HS ?_; clear HS; intro g8 w8 HS _) | ((with_reducible refine gS 33 8 rfl ?_); refine sS 0 [.int .i64 pas, .string nms, .int .i64 pis, .int .i64 prs] HS ?_; clear HS; intro w10 HS _; (try clear s0 s1 s2 s3); obtain ⟨s0, s1, s2, s3⟩ := HS.out.cells4 0 rfl))
 cases c1 : (prs != 0)
 case true =>
  clear s0 s1 s2 s3
  as_aux_lemma =>
   go_wp2
   have hne_ : g3 ∉ [g6, g7] := by simpa using (⟨HS.out.ne 5 2 rfl rfl (by decide), HS.out.ne 5 1 rfl rfl (by decide)⟩ : g3 ≠ g6 ∧ g3 ≠ g7)
   have hz0 := Kx.box HS.out 5 rfl hne_ 0 rfl
   have hz1 := Kx.box HS.out 5 rfl hne_ 1 rfl
   clear hne_
   have hne_ : g8 ∉ [g6, g7] := by simpa using (⟨HS.out.ne 0 2 rfl rfl (by decide), HS.out.ne 0 1 rfl rfl (by decide)⟩ : g8 ≠ g6 ∧ g8 ≠ g7)
   have hs0 := Kx.box HS.out 0 rfl hne_ 0 rfl
   have hs1 := Kx.box HS.out 0 rfl hne_ 1 rfl
   have hs2 := Kx.box HS.out 0 rfl hne_ 2 rfl
   have hs3 := Kx.box HS.out 0 rfl hne_ 3 rfl
   clear hne_
   try simp only [Act.put, List.setIfInBounds_toArray, List.set_cons_zero, List.set_cons_succ]
   refine wp_region_mix (KxS [g6, g7] w10) [([0, 1, 2, 3], 4), ([], 5)] [] (by kernel_rfl) (by kernel_rfl) (fun _ _ _ _ h => h) (KxS.drew _ _) ?_
   have hK := KxS.drew [g6, g7] w10
   replace HS := zM (HS.out.drew)
   refine mix_seg ?_
   simp only [pickO, List.map]
   repeat (go_big_quiet_step (fail))
   refine wpQuiet_nil ?_
   refine sS 2 [.int .i64 nx, .slice A l.length c] HS ?_; intro w11 n0_ n1_; clear HS; have HS := n0_; have HG := n1_; clear n0_ n1_
   refine ⟨hK.grow HG.out (by simp), fun hK => mix_seg ?_⟩
   clear HG
   simp only [pickO, List.map]
   repeat (go_big_quiet_step (fail))
   refine wpQuiet_nil ?_
   refine sS 1 [.int .i64 prs, .string ⟨#[]⟩] HS ?_; intro w12 n0_ n1_; clear HS; have HS := n0_; have HG := n1_; clear n0_ n1_
   refine ⟨hK.grow HG.out (by simp), fun hK => mix_end ?_⟩
   clear HG
   simp only [pickO, List.map]
   repeat (go_big_quiet_step (fail))
   refine wpQuiet_nil ?_
   go_wp2
   refine rVR 2 1 HS ?_
   exact doSame HV.out HW.out HZ.out HS.out.grown
 case false =>
 have hr0 : prs = 0 := by simpa using c1
 have HT := zM (spot_there HW.out HQs.out hr0)
 have HR0 := zM hr0
 clear hr0
 (try clear z0 z1); obtain ⟨z0, z1⟩ := HS.out.cells2 5 rfl
 go_upto_region 5 with (first | (go_at_call 98; obtain ⟨A6, cA6, hN, hNd⟩ := node_any w nx pis _ l HV.out HSm.out HT.out.1; obtain ⟨x, hx⟩ : ∃ q, q = nodeI l (pis) := ⟨_, rfl⟩; rw [show iAt l (inoI l (pis)) = nodeI l (pis) from rfl, ← hx] at hN hNd; refine (hNd _ HS.out.grown).mono ?_; rintro e w11 ⟨rfl, hb⟩; have HNx := zM hN; have HXx := zM hx; replace HS := zM (HS.out.calls hb); clear hb hx hNd hN; ) | ((with_reducible refine gD 9 rfl ?_); refine sB #[.int .i64 0, .int .i64 0, .int .i64 0, .int .i64 0, .int .i64 0, .string ⟨#[]⟩, .slice none 0 0, .int .i64 0, .int .i64 0] 37 HS ?_; clear HS; intro g9 w9 HS _) | ((with_reducible refine gS 37 9 rfl ?_); refine sS 0 [.int .i64 x.f0, .int .i64 x.f1, .int .i64 x.f2, .int .i64 x.f3, .int .i64 x.f4, .string x.f5, .slice A6 x.f6.length cA6, .int .i64 x.f7, .int .i64 x.f8] HS ?_; clear HS; intro w12 HS _; (try clear q0 q1 q2 q3 q4 q5 q6 q7 q8); obtain ⟨q0, q1, q2, q3, q4, q5, q6, q7, q8⟩ := HS.out.cells9 0 rfl; (try clear s0 s1 s2 s3); obtain ⟨s0, s1, s2, s3⟩ := HS.out.cells4 1 rfl; (try clear p0 p1 p2 p3 p4 p5); obtain ⟨p0, p1, p2, p3, p4, p5⟩ := HS.out.cells6 4 rfl; (try clear y0 y1 y2); obtain ⟨y0, y1, y2⟩ := HS.out.cells3 5 rfl; (try clear z0 z1); obtain ⟨z0, z1⟩ := HS.out.cells2 6 rfl))
 by_cases hn : nms.size = 0
 ·have e1 := nil_forms nms hn
  have hx2 : x.f1 = 2 := by rw [HXx.out]; exact (HQs.out.1 HR0.out (size_nil hn)).2
  clear hn
  rcases HKd.out with rfl | rfl
  ·
   as_aux_lemma =>
    go_wp2_with (first | ((with_reducible refine gS 26 6 rfl ?_); refine sS 3 [.int .i64 nx, .slice A l.length c] HS ?_; clear HS; intro w13 HS _) | ((with_reducible refine gS 94 7 rfl ?_); refine sS 2 [.int .i64 16, .string ⟨#[]⟩] HS ?_; clear HS; intro w14 HS _))
    refine rVR 3 2 HS ?_
    exact doSame HV.out HW.out HZ.out HS.out.grown
  ·
   as_aux_lemma =>
    go_wp2_with (first | ((with_reducible refine gS 26 6 rfl ?_); refine sS 3 [.int .i64 nx, .slice A l.length c] HS ?_; clear HS; intro w13 HS _) | ((with_reducible refine gS 94 7 rfl ?_); refine sS 2 [.int .i64 21, .string ⟨#[]⟩] HS ?_; clear HS; intro w14 HS _))
    refine rVR 3 2 HS ?_
    exact doSame HV.out HW.out HZ.out HS.out.grown
 have e1 := nil_not nms hn
 have e2 : (nms.toList != ([] : List UInt8)) = true := by simpa using e1
 have e3 : nms.toList.isEmpty = false := by simpa using e1
 have e4 : (nms.toList == ([] : List UInt8)) = false := by simpa using e1
 have HDk := zM (HQs.out.2.1 HR0.out (size_ne hn))
 clear hn
 go_upto_region 5 with (fail)
 try simp only [Act.put, List.setIfInBounds_toArray, List.set_cons_zero, List.set_cons_succ]
 go_cut [34] (fun v_ w' => ∃ b_ : Bool, v_ = .bool b_ ∧ w12 = w')
 case first =>
  as_aux_lemma =>
   cases k1 : (kd == 2)
   all_goals
    go_wp2
    go_meet
    case rel => exact ⟨_, rfl, rfl⟩
 case rest =>
 obtain ⟨b1, rfl, e_⟩ := hcut
 subst e_
 cases b1
 case true =>
  as_aux_lemma =>
   go_wp2_with (first | ((with_reducible refine gS 26 6 rfl ?_); refine sS 3 [.int .i64 nx, .slice A l.length c] HS ?_; clear HS; intro w13 HS _) | ((with_reducible refine gS 94 7 rfl ?_); refine sS 2 [.int .i64 16, .string ⟨#[]⟩] HS ?_; clear HS; intro w14 HS _))
   refine rVR 3 2 HS ?_
   exact doSame HV.out HW.out HZ.out HS.out.grown
 case false =>
 go_upto_region 7 with (fail)
 try simp only [Act.put, List.setIfInBounds_toArray, List.set_cons_zero, List.set_cons_succ]
 go_cut [44] (fun v_ w' => ∃ b_ : Bool, v_ = .bool b_ ∧ w12 = w')
 case first =>
  as_aux_lemma =>
   cases k1 : (kd == 2) <;> cases c2 : (x.f1 != 2)
   all_goals
    go_wp2
    go_meet
    case rel => exact ⟨_, rfl, rfl⟩
 case rest =>
 obtain ⟨b2, rfl, e_⟩ := hcut
 subst e_
 cases b2
 case true =>
  as_aux_lemma =>
   go_wp2_with (first | ((with_reducible refine gS 26 6 rfl ?_); refine sS 3 [.int .i64 nx, .slice A l.length c] HS ?_; clear HS; intro w13 HS _) | ((with_reducible refine gS 94 7 rfl ?_); refine sS 2 [.int .i64 20, .string ⟨#[]⟩] HS ?_; clear HS; intro w14 HS _))
   refine rVR 3 2 HS ?_
   exact doSame HV.out HW.out HZ.out HS.out.grown
 case false =>
 go_upto_region 9 with (fail)
 try simp only [Act.put, List.setIfInBounds_toArray, List.set_cons_zero, List.set_cons_succ]
 go_cut [54] (fun v_ w' => ∃ b_ : Bool, v_ = .bool b_ ∧ w12 = w')
 case first =>
  as_aux_lemma =>
   cases k1 : (kd == 8) <;> cases c2 : (x.f1 == 2)
   all_goals
    go_wp2
    go_meet
    case rel => exact ⟨_, rfl, rfl⟩
 case rest =>
 obtain ⟨b3, rfl, e_⟩ := hcut
 subst e_
 cases b3
 case true =>
  as_aux_lemma =>
   go_wp2_with (first | ((with_reducible refine gS 26 6 rfl ?_); refine sS 3 [.int .i64 nx, .slice A l.length c] HS ?_; clear HS; intro w13 HS _) | ((with_reducible refine gS 94 7 rfl ?_); refine sS 2 [.int .i64 21, .string ⟨#[]⟩] HS ?_; clear HS; intro w14 HS _))
   refine rVR 3 2 HS ?_
   exact doSame HV.out HW.out HZ.out HS.out.grown
 case false =>
 go_upto_if 64 with (first | (go_at_call 98; obtain ⟨B6, cB6, hN, hNd⟩ := node_any w nx pas _ l HV.out HSm.out HDk.out.1.1; obtain ⟨y, hx⟩ : ∃ q, q = nodeI l (pas) := ⟨_, rfl⟩; rw [show iAt l (inoI l (pas)) = nodeI l (pas) from rfl, ← hx] at hN hNd; refine (hNd _ HS.out.grown).mono ?_; rintro e w13 ⟨rfl, hb⟩; have HNy := zM hN; have HXy := zM hx; replace HS := zM (HS.out.calls hb); clear hb hx hNd hN; ) | ((with_reducible refine gD 10 rfl ?_); refine sB #[.int .i64 0, .int .i64 0, .int .i64 0, .int .i64 0, .int .i64 0, .string ⟨#[]⟩, .slice none 0 0, .int .i64 0, .int .i64 0] 37 HS ?_; clear HS; intro g10 w10 HS _) | ((with_reducible refine gS 37 10 rfl ?_); refine sS 0 [.int .i64 y.f0, .int .i64 y.f1, .int .i64 y.f2, .int .i64 y.f3, .int .i64 y.f4, .string y.f5, .slice B6 y.f6.length cB6, .int .i64 y.f7, .int .i64 y.f8] HS ?_; clear HS; intro w14 HS _; (try clear u0 u1 u2 u3 u4 u5 u6 u7 u8); obtain ⟨u0, u1, u2, u3, u4, u5, u6, u7, u8⟩ := HS.out.cells9 0 rfl; (try clear y0 y1 y2); obtain ⟨y0, y1, y2⟩ := HS.out.cells3 6 rfl) | (go_at_call 56; refine (mayS_any u g Ag cg gs 3 y B6 cB6 _ (HGc.out.keep HS.out.grown).1 HGc.out.2 (Kd.R_reads' (HNy.out.keep HS.out.grown)).2.2 (Kd.R_reads' HNy.out).2.1).mono ?_; rintro e w15 ⟨rfl, hb⟩; generalize mayX u g gs 3 y = my; replace HS := zM (HS.out.call hb); clear hb; (try clear u0 u1 u2 u3 u4 u5 u6 u7 u8); obtain ⟨u0, u1, u2, u3, u4, u5, u6, u7, u8⟩ := HS.out.cells9 0 rfl; (try clear q0 q1 q2 q3 q4 q5 q6 q7 q8); obtain ⟨q0, q1, q2, q3, q4, q5, q6, q7, q8⟩ := HS.out.cells9 1 rfl; (try clear y0 y1 y2); obtain ⟨y0, y1, y2⟩ := HS.out.cells3 6 rfl; (try clear z0 z1); obtain ⟨z0, z1⟩ := HS.out.cells2 7 rfl))
 cases my
 case false =>
  as_aux_lemma =>
   go_wp2_with (first | ((with_reducible refine gS 26 6 rfl ?_); refine sS 4 [.int .i64 nx, .slice A l.length c] HS ?_; clear HS; intro w16 HS _) | ((with_reducible refine gS 94 7 rfl ?_); refine sS 3 [.int .i64 13, .string ⟨#[]⟩] HS ?_; clear HS; intro w17 HS _))
   refine rVR 4 3 HS ?_
   exact doSame HV.out HW.out HZ.out HS.out.grown
 case true =>
 go_upto_if 71 with (first | (go_at_call 103; refine (take_any _ u g Ag cg gs (HGc.out.keep HS.out.grown) y x B6 A6 cB6 cA6).mono ?_; rintro e w16 ⟨bt, rfl, hb⟩; replace HS := zM (HS.out.calls hb); clear hb; (try clear q0 q1 q2 q3 q4 q5 q6 q7 q8); obtain ⟨q0, q1, q2, q3, q4, q5, q6, q7, q8⟩ := HS.out.cells9 1 rfl; (try clear z0 z1); obtain ⟨z0, z1⟩ := HS.out.cells2 7 rfl))
 cases bt
 case false =>
  as_aux_lemma =>
   go_wp2_with (first | ((with_reducible refine gS 26 6 rfl ?_); refine sS 4 [.int .i64 nx, .slice A l.length c] HS ?_; clear HS; intro w17 HS _) | ((with_reducible refine gS 94 7 rfl ?_); refine sS 3 [.int .i64 1, .string ⟨#[]⟩] HS ?_; clear HS; intro w18 HS _))
   refine rVR 4 3 HS ?_
   exact doSame HV.out HW.out HZ.out HS.out.grown
 case true =>
 by_cases c4 : (0 : Int) < (x.f6.length : Int)
 ·
  as_aux_lemma =>
   go_wp2_with (first | ((with_reducible refine gS 26 6 rfl ?_); refine sS 4 [.int .i64 nx, .slice A l.length c] HS ?_; clear HS; intro w17 HS _) | ((with_reducible refine gS 94 7 rfl ?_); refine sS 3 [.int .i64 39, .string ⟨#[]⟩] HS ?_; clear HS; intro w18 HS _))
   refine rVR 4 3 HS ?_
   exact doSame HV.out HW.out HZ.out HS.out.grown
 go_upto_region 18 with (fail)
 have HBl := zM (fun p hp => blk_lt (HS.out.box p hp))
 have HLo := zM HS.out.grown.size
 have hne_ : g3 ∉ [g6, g7] := by simpa using (⟨HS.out.ne 7 4 rfl rfl (by decide), HS.out.ne 7 3 rfl rfl (by decide)⟩ : g3 ≠ g6 ∧ g3 ≠ g7)
 have hz0 := Kx.box HS.out 7 rfl hne_ 0 rfl
 have hz1 := Kx.box HS.out 7 rfl hne_ 1 rfl
 clear hne_
 have hne_ : g8 ∉ [g6, g7] := by simpa using (⟨HS.out.ne 2 4 rfl rfl (by decide), HS.out.ne 2 3 rfl rfl (by decide)⟩ : g8 ≠ g6 ∧ g8 ≠ g7)
 have hs0 := Kx.box HS.out 2 rfl hne_ 0 rfl
 have hs1 := Kx.box HS.out 2 rfl hne_ 1 rfl
 have hs2 := Kx.box HS.out 2 rfl hne_ 2 rfl
 have hs3 := Kx.box HS.out 2 rfl hne_ 3 rfl
 clear hne_
 try simp only [Act.put, List.setIfInBounds_toArray, List.set_cons_zero, List.set_cons_succ]
 refine wp_region_mix (KxS [g6, g7] w16) [([0, 2, 3, 4, 5, 7], 1), ([], 6), ([], 8), ([], 9)] [] (by kernel_rfl) (by kernel_rfl) (fun _ _ _ _ h => h) (KxS.drew _ _) ?_
 have hK := KxS.drew [g6, g7] w16
 replace HS := zM (HS.out.drew)
 refine mix_seg ?_
 simp only [pickO, List.map]
 repeat (go_big_quiet_step (fail))
 refine wpQuiet_nil ?_
 go_wp2_with (go_at_call 66; refine (copy_any _ nx _ l (HV.out.keep HS.out.grown) HSm.out).mono ?_; rintro e w50 ⟨vy, rfl, hY, hb⟩; have HBy := zM (fun b hb' => Nat.le_trans hK.size (Kd.S_base hY b hb')); have HY := zM (volO_copy hY); have HG := zM hb; replace HS := zM (HS.out.calls hb); clear hb hY)
 refine ⟨hK.grow HG.out (by simp), fun hK => mix_seg ?_⟩
 clear HG
 simp only [pickO, List.map]
 repeat (go_big_quiet_step (fail))
 refine wpQuiet_nil ?_
 go_wp2_with (go_at_call 104; refine (drop_any _ nx pas nms _ l HY.out HSm.out HDk.out.1.1).mono ?_; rintro e w51 ⟨v51, ld, qd, rfl, hq, hl, hv', hg, hat⟩; have HD := zM (And.intro hq hl); have HG := zM hg; have HBz := zM (own_lo HBy.out hK.size hat); have n0_ := zM (St.growN HS.out hg w16.heap.size HLo.out HBy.out HBl.out); have n1_ := zM (hv'); clear HS HY; have HS := n0_; have HY := n1_; clear n0_ n1_; clear hq hl hv' hg hat); have HA2 := zM (dropWf HW.out HZ.out HDk.out.1.1 HD.out.1 HD.out.2); obtain ⟨Af, cf, rfl⟩ := Kd.R_slice HY.out
 refine ⟨hK.grow HG.out (fun b hb => .inr (HBy.out b hb)), fun hK => mix_seg ?_⟩
 clear HG
 simp only [pickO, List.map]
 repeat (go_big_quiet_step (fail))
 refine wpQuiet_nil ?_
 refine sS 4 [.int .i64 nx, .slice Af ld.length cf] HS ?_; intro w53 n0_ n1_; replace HY := zM (R_box HY.out (HS.out.get 4 rfl) (by decide) n1_.out); clear HS; have HS := n0_; have HG := n1_; clear n0_ n1_
 refine ⟨hK.grow HG.out (by simp), fun hK => mix_seg ?_⟩
 clear HG
 simp only [pickO, List.map]
 repeat (go_big_quiet_step (fail))
 refine wpQuiet_nil ?_
 refine sS 3 [.int .i64 0, .string ⟨#[]⟩] HS ?_; intro w54 n0_ n1_; replace HY := zM (R_box HY.out (HS.out.get 3 rfl) (by decide) n1_.out); clear HS; have HS := n0_; have HG := n1_; clear n0_ n1_
 refine ⟨hK.grow HG.out (by simp), fun hK => mix_end ?_⟩
 clear HG
 simp only [pickO, List.map]
 repeat (go_big_quiet_step (fail))
 refine wpQuiet_nil ?_
 go_wp2
 refine rVR 4 3 HS ?_
 exact doNew HY.out HA2.out.1 (HA2.out.2.1.mono (Nat.le_succ k)) HS.out.grown
def CallB (n : Int) (path tgt data : ByteArray) : Prop := path.size ≤ 60 ∧ tgt.size ≤ 60 ∧ data.size ≤ 64 ∧ (-1000000 ≤ n ∧ n ≤ 1000000)
def CallP (w : World) (n : Int) (path tgt data : ByteArray) (e : Ending) (w' : World) : Prop := ∃ b : Bool, e = .returned (.bool b) ∧ (b = true → CallB n path tgt data) ∧ w.grownBy w' none
theorem callok_any (w : World) (kd : Int) (path tgt data : ByteArray) (n m : Int) :
  Calls Tryz.prog 82 #[.agg #[.int .i64 kd, .string path, .string tgt, .int .i64 n, .int .i64 m, .string data]] w (CallP w n path tgt data) := by
 have hu98 := Tryz.underlying98
 have HS := zM (St.start w none)
 go_enter Tryz.func82, Tryz.ntmps82
 go_upto_region 1 with (first | ((with_reducible refine gD 1 rfl ?_); refine sB #[.int .i64 kd, .string path, .string tgt, .int .i64 n, .int .i64 m, .string data] 98 HS ?_; clear HS; intro g1 w1 HS _; (try clear p0 p1 p2 p3 p4 p5); obtain ⟨p0, p1, p2, p3, p4, p5⟩ := HS.out.cells6 0 rfl))
 try simp only [Act.put, List.setIfInBounds_toArray, List.set_cons_zero, List.set_cons_succ]
 generalize Value.agg #[.int .i64 kd, .string path, .string tgt, .int .i64 n, .int .i64 m, .string data] = vc_
 go_cut [36] (fun v_ w' => ∃ b_ : Bool, v_ = .bool b_ ∧ Aside0 (b_ = false → CallB n path tgt data) ∧ Aside0 (St w none w' [(g1, 98, #[.int .i64 kd, .string path, .string tgt, .int .i64 n, .int .i64 m, .string data])]))
 case first =>
  cases b1 : rgB kd 1 22
  case false =>
   go_wp2_with (first | (go_at_call 48; (with_reducible refine (l1In_any kd 1 22 _).mono ?_); rintro e w8 ⟨rfl, hb⟩; rw [b1]; replace HS := zM (HS.out.call hb.below); clear hb; (try clear p0 p1 p2 p3 p4 p5); obtain ⟨p0, p1, p2, p3, p4, p5⟩ := HS.out.cells6 0 rfl))
   go_meet
   case rel => exact ⟨_, rfl, ⟨fun h => by cases h⟩, HS⟩
  by_cases s1 : (60 : Int) < (path.size : Int)
  ·
   go_wp2_with (first | (go_at_call 48; (with_reducible refine (l1In_any kd 1 22 _).mono ?_); rintro e w8 ⟨rfl, hb⟩; rw [b1]; replace HS := zM (HS.out.call hb.below); clear hb; (try clear p0 p1 p2 p3 p4 p5); obtain ⟨p0, p1, p2, p3, p4, p5⟩ := HS.out.cells6 0 rfl))
   go_meet
   case rel => exact ⟨_, rfl, ⟨fun h => by cases h⟩, HS⟩
  by_cases s2 : (60 : Int) < (tgt.size : Int)
  ·
   go_wp2_with (first | (go_at_call 48; (with_reducible refine (l1In_any kd 1 22 _).mono ?_); rintro e w8 ⟨rfl, hb⟩; rw [b1]; replace HS := zM (HS.out.call hb.below); clear hb; (try clear p0 p1 p2 p3 p4 p5); obtain ⟨p0, p1, p2, p3, p4, p5⟩ := HS.out.cells6 0 rfl))
   go_meet
   case rel => exact ⟨_, rfl, ⟨fun h => by cases h⟩, HS⟩
  by_cases s3 : (64 : Int) < (data.size : Int)
  ·
   go_wp2_with (first | (go_at_call 48; (with_reducible refine (l1In_any kd 1 22 _).mono ?_); rintro e w8 ⟨rfl, hb⟩; rw [b1]; replace HS := zM (HS.out.call hb.below); clear hb; (try clear p0 p1 p2 p3 p4 p5); obtain ⟨p0, p1, p2, p3, p4, p5⟩ := HS.out.cells6 0 rfl))
   go_meet
   case rel => exact ⟨_, rfl, ⟨fun h => by cases h⟩, HS⟩
  cases b2 : rgB n (-1000000) 1000000
  case false =>
   go_wp2_with (first | (go_at_call 48; (with_reducible refine (l1In_any kd 1 22 _).mono ?_); rintro e w8 ⟨rfl, hb⟩; rw [b1]; replace HS := zM (HS.out.call hb.below); clear hb; (try clear p0 p1 p2 p3 p4 p5); obtain ⟨p0, p1, p2, p3, p4, p5⟩ := HS.out.cells6 0 rfl) | (go_at_call 48; (with_reducible refine (l1In_any n (-1000000) 1000000 _).mono ?_); rintro e w9 ⟨rfl, hb⟩; rw [b2]; replace HS := zM (HS.out.call hb.below); clear hb; (try clear p0 p1 p2 p3 p4 p5); obtain ⟨p0, p1, p2, p3, p4, p5⟩ := HS.out.cells6 0 rfl))
   go_meet
   case rel => exact ⟨_, rfl, ⟨fun h => by cases h⟩, HS⟩
  cases b3 : rgB m (-1000000) 1000000
  all_goals
   go_wp2_with (first | (go_at_call 48; (with_reducible refine (l1In_any kd 1 22 _).mono ?_); rintro e w8 ⟨rfl, hb⟩; rw [b1]; replace HS := zM (HS.out.call hb.below); clear hb; (try clear p0 p1 p2 p3 p4 p5); obtain ⟨p0, p1, p2, p3, p4, p5⟩ := HS.out.cells6 0 rfl) | (go_at_call 48; (with_reducible refine (l1In_any n (-1000000) 1000000 _).mono ?_); rintro e w9 ⟨rfl, hb⟩; rw [b2]; replace HS := zM (HS.out.call hb.below); clear hb; (try clear p0 p1 p2 p3 p4 p5); obtain ⟨p0, p1, p2, p3, p4, p5⟩ := HS.out.cells6 0 rfl) | (go_at_call 48; (with_reducible refine (l1In_any m (-1000000) 1000000 _).mono ?_); rintro e w10 ⟨rfl, hb⟩; rw [b3]; replace HS := zM (HS.out.call hb.below); clear hb; (try clear p0 p1 p2 p3 p4 p5); obtain ⟨p0, p1, p2, p3, p4, p5⟩ := HS.out.cells6 0 rfl))
   go_meet
   case rel => exact ⟨_, rfl, ⟨fun h => by first | (cases h; done) | exact ⟨by omega, by omega, by omega, of_decide_eq_true b2⟩⟩, HS⟩
 case rest =>
 clear HS
 obtain ⟨b4, rfl, HB, HS⟩ := hcut
 obtain ⟨w11, hw_⟩ : ∃ q, q = wc := ⟨_, rfl⟩
 subst hw_
 (try clear p0 p1 p2 p3 p4 p5); obtain ⟨p0, p1, p2, p3, p4, p5⟩ := HS.out.cells6 0 rfl
 go_upto_if 36 with (fail)
 cases b4
 case true =>
  go_wp2
  go_ret
  unfold CallP
  exact ⟨_, rfl, fun h => absurd h (by decide), HS.out.grown⟩
 case false =>
 go_upto_region 3 with (fail)
 try simp only [Act.put, List.setIfInBounds_toArray, List.set_cons_zero, List.set_cons_succ]
 go_cut [54] (fun v_ w' => ∃ b_ : Bool, v_ = .bool b_ ∧ w11 = w')
 case first =>
  by_cases hn : tgt.size = 0
  ·have e1 := nil_forms tgt hn
   clear hn
   go_wp2
   go_meet
   case rel => exact ⟨_, rfl, rfl⟩
  have e1 := nil_not tgt hn
  have e2 : (tgt.toList != ([] : List UInt8)) = true := by simpa using e1
  have e3 : tgt.toList.isEmpty = false := by simpa using e1
  have e4 : (tgt.toList == ([] : List UInt8)) = false := by simpa using e1
  clear hn
  cases k9 : (kd != 9) <;> cases k10 : (kd != 10) <;> cases k12 : (kd != 12)
  all_goals
   go_wp2
   go_meet
   case rel => exact ⟨_, rfl, rfl⟩
 case rest =>
 obtain ⟨b5, rfl, e_⟩ := hcut
 subst e_
 go_upto_if 54 with (fail)
 cases b5
 case true =>
  go_wp2
  go_ret
  unfold CallP
  exact ⟨_, rfl, fun h => absurd h (by decide), HS.out.grown⟩
 case false =>
 by_cases hn : data.size = 0
 ·have e1 := nil_forms data hn
  clear hn
  go_wp2
  go_ret
  unfold CallP
  exact ⟨_, rfl, fun _ => (by first | exact HB.out | exact HB.out rfl | exact HB.out trivial), HS.out.grown⟩
 have e1 := nil_not data hn
 have e2 : (data.toList != ([] : List UInt8)) = true := by simpa using e1
 have e3 : data.toList.isEmpty = false := by simpa using e1
 have e4 : (data.toList == ([] : List UInt8)) = false := by simpa using e1
 clear hn
 cases k5 : (kd == 5) <;> cases k6 : (kd == 6)
 all_goals
  go_wp2
  go_ret
  unfold CallP
  exact ⟨_, rfl, fun _ => (by first | exact HB.out | exact HB.out rfl | exact HB.out trivial), HS.out.grown⟩
end Go.Proofs.YtiopcpkfjikfdaaGreatDoor.PFnClean
