/- By hand: what the law reaches, walked as plain functions. -/
import Derived.Test.YtiopcpkfjikfdaaGreatDoorYA
import Derived.Deep.CutRange
set_option maxHeartbeats 8000000
set_option maxRecDepth 100000
namespace Go.Proofs.YtiopcpkfjikfdaaGreatDoor.PFnClean
open Go.RowKit Go.Proofs.YtiopcpkfjikfdaaGreatDoorW.PrintWords Go.Proofs.YtiopcpkfjikfdaaGreatDoorW.PrintLast Go.Proofs.YtiopcpkfjikfdaaGreatDoorW.PrintMore
open Go.Proofs.YtiopcpkfjikfdaaGreatDoorW.Mix
open Go.Proofs.YtiopcpkfjikfdaaGreatDoor.Mth Go.Proofs.YtiopcpkfjikfdaaGreatDoor.Str
set_option linter.unusedVariables false
set_option linter.unusedSimpArgs false
theorem rename_any (w : World) (nx : Int) (v : Value) (l : List S37) (k : Nat) (hv : VolO w v l) (hz : Sz k l) (hk : k ≤ 1000000) (hw : WfD nx l) (u g : Int) (Ag : Option Addr) (cg : Nat) (gs : List Int) (hg : CredC w Ag cg gs) (kd : Int) (path tgt data : ByteArray) (n m : Int) (hp : path.size ≤ 1048576) (ht : tgt.size ≤ 1048576) :
  Calls Tryz.prog 86 #[.agg #[.int .i64 nx, v], .agg #[.int .i64 u, .int .i64 g, .slice Ag gs.length cg], .agg #[.int .i64 kd, .string path, .string tgt, .int .i64 n, .int .i64 m, .string data]] w (DoP w k) := by
 have hu26 := Tryz.underlying26
 have hu29 := Tryz.underlying29
 have hu33 := Tryz.underlying33
 have hu37 := Tryz.underlying37
 have hu94 := Tryz.underlying94
 have hu98 := Tryz.underlying98
 have hu24 := Tryz.underlying24
 have hu35 := Tryz.underlying35
 have hs := hz.small (by omega)
 obtain ⟨A, c, rfl, hc, hC⟩ := hv.reads
 have hm := hC.2.1
 have HL := zM hs.1
 have HV := zM hv
 have HW := zM hw
 have HSm := zM hs
 have HZ := zM hz
 have HKk := zM hk
 have HGc := zM hg
 have HS := zM (St.start w none)
 have HPth := zM hp
 have HTgt := zM ht
 clear hv hs hw hz hg hc hC hk
 go_enter Tryz.func86, Tryz.ntmps86
 go_upto_if 22 with (first | ((with_reducible refine gD 3 rfl ?_); refine sB #[.int .i64 nx, .slice A l.length c] 26 HS ?_; clear HS; intro g3 w3 HS _) | ((with_reducible refine gD 4 rfl ?_); refine sB #[.int .i64 u, .int .i64 g, .slice Ag gs.length cg] 29 HS ?_; clear HS; intro g4 w4 HS _) | ((with_reducible refine gD 5 rfl ?_); refine sB #[.int .i64 kd, .string path, .string tgt, .int .i64 n, .int .i64 m, .string data] 98 HS ?_; clear HS; intro g5 w5 HS _) | ((with_reducible refine gD 6 rfl ?_); refine sB #[.int .i64 0, .slice none 0 0] 26 HS ?_; clear HS; intro g6 w6 HS _) | ((with_reducible refine gD 7 rfl ?_); refine sB #[.int .i64 0, .string ⟨#[]⟩] 94 HS ?_; clear HS; intro g7 w7 HS _; (try clear z0 z1); obtain ⟨z0, z1⟩ := HS.out.cells2 4 rfl; (try clear y0 y1 y2); obtain ⟨y0, y1, y2⟩ := HS.out.cells3 3 rfl; (try clear p0 p1 p2 p3 p4 p5); obtain ⟨p0, p1, p2, p3, p4, p5⟩ := HS.out.cells6 2 rfl) | (go_at_call 102; refine (there_any _ nx _ l (HV.out.keep HS.out.grown) HSm.out HW.out u g Ag cg gs (HGc.out.keep HS.out.grown) path false HPth.out).mono ?_; rintro e w9 ⟨pas, nms, pis, prs, rfl, hq, hb⟩; have HQs := zM hq; replace HS := zM (HS.out.calls hb); clear hq hb; ) | ((with_reducible refine gD 8 rfl ?_); refine sB #[.int .i64 0, .string ⟨#[]⟩, .int .i64 0, .int .i64 0] 33 HS ?_; clear HS; intro g8 w8 HS _) | ((with_reducible refine gS 33 8 rfl ?_); refine sS 0 [.int .i64 pas, .string nms, .int .i64 pis, .int .i64 prs] HS ?_; clear HS; intro w10 HS _; (try clear s0 s1 s2 s3); obtain ⟨s0, s1, s2, s3⟩ := HS.out.cells4 0 rfl))
 cases c1 : (prs != 0)
 case true =>
  clear s0 s1 s2 s3
  as_aux_lemma =>
   go_wp2
   have hne_ : g3 ∉ [g6, g7] := by simpa using (⟨HS.out.ne 5 2 rfl rfl (by decide), HS.out.ne 5 1 rfl rfl (by decide)⟩ : g3 ≠ g6 ∧ g3 ≠ g7)
   have hz0 := Kx.box HS.out 5 rfl hne_ 0 rfl
   have hz1 := Kx.box HS.out 5 rfl hne_ 1 rfl
   clear hne_
   have hne_ : g8 ∉ [g6, g7] := by simpa using (⟨HS.out.ne 0 2 rfl rfl (by decide), HS.out.ne 0 1 rfl rfl (by decide)⟩ : g8 ≠ g6 ∧ g8 ≠ g7)
   have hs0 := Kx.box HS.out 0 rfl hne_ 0 rfl
   have hs1 := Kx.box HS.out 0 rfl hne_ 1 rfl
   have hs2 := Kx.box HS.out 0 rfl hne_ 2 rfl
   have hs3 := Kx.box HS.out 0 rfl hne_ 3 rfl
   clear hne_
   try simp only [Act.put, List.setIfInBounds_toArray, List.set_cons_zero, List.set_cons_succ]
   refine wp_region_mix (KxS [g6, g7] w10) [([0, 1, 2, 3], 4), ([], 5)] [] (by kernel_rfl) (by kernel_rfl) (fun _ _ _ _ h => h) (KxS.drew _ _) ?_
   have hK := KxS.drew [g6, g7] w10
   replace HS := zM (HS.out.drew)
   refine mix_seg ?_
   simp only [pickO, List.map]
   repeat (go_big_quiet_step (fail))
   refine wpQuiet_nil ?_
   refine sS 2 [.int .i64 nx, .slice A l.length c] HS ?_; intro w11 n0_ n1_; clear HS; have HS := n0_; have HG := n1_; clear n0_ n1_
   refine ⟨hK.grow HG.out (by simp), fun hK => mix_seg ?_⟩
   clear HG
   simp only [pickO, List.map]
   repeat (go_big_quiet_step (fail))
   refine wpQuiet_nil ?_
   refine sS 1 [.int .i64 prs, .string ⟨#[]⟩] HS ?_; intro w12 n0_ n1_; clear HS; have HS := n0_; have HG := n1_; clear n0_ n1_
   refine ⟨hK.grow HG.out (by simp), fun hK => mix_end ?_⟩
   clear HG
   simp only [pickO, List.map]
   repeat (go_big_quiet_step (fail))
   refine wpQuiet_nil ?_
   go_wp2
   refine rVR 2 1 HS ?_
   exact doSame HV.out HW.out HZ.out HS.out.grown
 case false =>
 have hr0 : prs = 0 := by simpa using c1
 have HR0 := zM hr0
 clear hr0
 (try clear z0 z1); obtain ⟨z0, z1⟩ := HS.out.cells2 5 rfl
 (try clear y0 y1 y2); obtain ⟨y0, y1, y2⟩ := HS.out.cells3 4 rfl
 (try clear p0 p1 p2 p3 p4 p5); obtain ⟨p0, p1, p2, p3, p4, p5⟩ := HS.out.cells6 3 rfl
 go_upto_region 5 with (first | (go_at_call 102; refine (there_any _ nx _ l (HV.out.keep HS.out.grown) HSm.out HW.out u g Ag cg gs (HGc.out.keep HS.out.grown) tgt false HTgt.out).mono ?_; rintro e w11 ⟨pat, nmt, pit, prt, rfl, hq, hb⟩; have HQt := zM hq; replace HS := zM (HS.out.calls hb); clear hq hb; ) | ((with_reducible refine gD 9 rfl ?_); refine sB #[.int .i64 0, .string ⟨#[]⟩, .int .i64 0, .int .i64 0] 33 HS ?_; clear HS; intro g9 w9 HS _) | ((with_reducible refine gS 33 9 rfl ?_); refine sS 0 [.int .i64 pat, .string nmt, .int .i64 pit, .int .i64 prt] HS ?_; clear HS; intro w12 HS _; (try clear t0 t1 t2 t3); obtain ⟨t0, t1, t2, t3⟩ := HS.out.cells4 0 rfl; (try clear s0 s1 s2 s3); obtain ⟨s0, s1, s2, s3⟩ := HS.out.cells4 1 rfl; (try clear z0 z1); obtain ⟨z0, z1⟩ := HS.out.cells2 6 rfl))
 try simp only [Act.put, List.setIfInBounds_toArray, List.set_cons_zero, List.set_cons_succ]
 go_cut [44] from 44 to 44 (fun v_ w' => ∃ b_ : Bool, v_ = .bool b_ ∧ Aside0 (b_ = false → prt = 0 ∨ prt = 2) ∧ w12 = w')
 case first =>
  as_aux_lemma =>
   by_cases hn : nmt.size = 0
   ·have e1 := nil_forms nmt hn
    clear hn
    cases r0 : (prt != 0) <;> cases r2 : (prt != 2)
    all_goals
     go_wp2
     go_meet
     case rel => exact ⟨_, rfl, ⟨fun h => by first | (cases h; done) | exact .inl (by simpa using r0) | exact .inr (by simpa using r2)⟩, rfl⟩
   have e1 := nil_not nmt hn
   have e2 : (nmt.toList != ([] : List UInt8)) = true := by simpa using e1
   have e3 : nmt.toList.isEmpty = false := by simpa using e1
   have e4 : (nmt.toList == ([] : List UInt8)) = false := by simpa using e1
   clear hn
   cases r0 : (prt != 0) <;> cases r2 : (prt != 2)
   all_goals
    go_wp2
    go_meet
    case rel => exact ⟨_, rfl, ⟨fun h => by first | (cases h; done) | exact .inl (by simpa using r0) | exact .inr (by simpa using r2)⟩, rfl⟩
 case rest =>
 obtain ⟨b4, rfl, HRt, e_⟩ := hcut
 subst e_
 go_upto_if 44 with (fail)
 cases b4
 case true =>
  clear t0 t1 t2 t3 s0 s1 s2 s3
  as_aux_lemma =>
   go_wp2
   have hne_ : g3 ∉ [g6, g7] := by simpa using (⟨HS.out.ne 6 3 rfl rfl (by decide), HS.out.ne 6 2 rfl rfl (by decide)⟩ : g3 ≠ g6 ∧ g3 ≠ g7)
   have hz0 := Kx.box HS.out 6 rfl hne_ 0 rfl
   have hz1 := Kx.box HS.out 6 rfl hne_ 1 rfl
   clear hne_
   have hne_ : g9 ∉ [g6, g7] := by simpa using (⟨HS.out.ne 0 3 rfl rfl (by decide), HS.out.ne 0 2 rfl rfl (by decide)⟩ : g9 ≠ g6 ∧ g9 ≠ g7)
   have hs0 := Kx.box HS.out 0 rfl hne_ 0 rfl
   have hs1 := Kx.box HS.out 0 rfl hne_ 1 rfl
   have hs2 := Kx.box HS.out 0 rfl hne_ 2 rfl
   have hs3 := Kx.box HS.out 0 rfl hne_ 3 rfl
   clear hne_
   try simp only [Act.put, List.setIfInBounds_toArray, List.set_cons_zero, List.set_cons_succ]
   refine wp_region_mix (KxS [g6, g7] w12) [([0, 1, 2, 3], 4), ([], 5)] [] (by kernel_rfl) (by kernel_rfl) (fun _ _ _ _ h => h) (KxS.drew _ _) ?_
   have hK := KxS.drew [g6, g7] w12
   replace HS := zM (HS.out.drew)
   refine mix_seg ?_
   simp only [pickO, List.map]
   repeat (go_big_quiet_step (fail))
   refine wpQuiet_nil ?_
   refine sS 3 [.int .i64 nx, .slice A l.length c] HS ?_; intro w13 n0_ n1_; clear HS; have HS := n0_; have HG := n1_; clear n0_ n1_
   refine ⟨hK.grow HG.out (by simp), fun hK => mix_seg ?_⟩
   clear HG
   simp only [pickO, List.map]
   repeat (go_big_quiet_step (fail))
   refine wpQuiet_nil ?_
   refine sS 2 [.int .i64 prt, .string ⟨#[]⟩] HS ?_; intro w14 n0_ n1_; clear HS; have HS := n0_; have HG := n1_; clear n0_ n1_
   refine ⟨hK.grow HG.out (by simp), fun hK => mix_end ?_⟩
   clear HG
   simp only [pickO, List.map]
   repeat (go_big_quiet_step (fail))
   refine wpQuiet_nil ?_
   go_wp2
   refine rVR 3 2 HS ?_
   exact doSame HV.out HW.out HZ.out HS.out.grown
 case false =>
 go_upto_region 7 with (fail)
 try simp only [Act.put, List.setIfInBounds_toArray, List.set_cons_zero, List.set_cons_succ]
 go_cut [56] from 56 to 56 (fun v_ w' => ∃ b_ : Bool, v_ = .bool b_ ∧ Aside0 (b_ = false → nms ≠ ⟨#[]⟩ ∧ nmt ≠ ⟨#[]⟩) ∧ w12 = w')
 case first =>
  as_aux_lemma =>
   by_cases hn : nms.size = 0
   ·have e1 := nil_forms nms hn
    clear hn
    go_wp2
    go_meet
    case rel => exact ⟨_, rfl, ⟨fun h => by cases h⟩, rfl⟩
   have HNs := zM (size_ne hn)
   have e1 := nil_not nms hn
   have e2 : (nms.toList != ([] : List UInt8)) = true := by simpa using e1
   have e3 : nms.toList.isEmpty = false := by simpa using e1
   have e4 : (nms.toList == ([] : List UInt8)) = false := by simpa using e1
   clear hn
   by_cases hn : nmt.size = 0
   ·have f1 := nil_forms nmt hn
    clear hn
    go_wp2
    go_meet
    case rel => exact ⟨_, rfl, ⟨fun h => by cases h⟩, rfl⟩
   have HNt := zM (size_ne hn)
   have f1 := nil_not nmt hn
   have f2 : (nmt.toList != ([] : List UInt8)) = true := by simpa using f1
   have f3 : nmt.toList.isEmpty = false := by simpa using f1
   have f4 : (nmt.toList == ([] : List UInt8)) = false := by simpa using f1
   clear hn
   go_wp2
   go_meet
   case rel => exact ⟨_, rfl, ⟨fun h => ⟨HNs.out, HNt.out⟩⟩, rfl⟩
 case rest =>
 obtain ⟨b5, rfl, HNn, e_⟩ := hcut
 subst e_
 go_upto_if 56 with (fail)
 cases b5
 case true =>
  as_aux_lemma =>
   go_wp2_with (first | ((with_reducible refine gS 26 6 rfl ?_); refine sS 3 [.int .i64 nx, .slice A l.length c] HS ?_; clear HS; intro w13 HS _) | ((with_reducible refine gS 94 7 rfl ?_); refine sS 2 [.int .i64 16, .string ⟨#[]⟩] HS ?_; clear HS; intro w14 HS _))
   refine rVR 3 2 HS ?_
   exact doSame HV.out HW.out HZ.out HS.out.grown
 case false =>
 have hnn : nms ≠ ⟨#[]⟩ ∧ nmt ≠ ⟨#[]⟩ := by first | exact HNn.out | exact HNn.out rfl | exact HNn.out trivial
 have hrt : prt = 0 ∨ prt = 2 := by first | exact HRt.out | exact HRt.out rfl | exact HRt.out trivial
 have HS1 := zM (HQs.out.2.1 HR0.out hnn.1)
 have HT1 := zM (show KindD l pat ∧ pit = stepI l pat nmt ∧ nmt.size ≤ 8 from by
  rcases hrt with h | h
  ·have q := HQt.out.2.1 h hnn.2
   exact ⟨q.1, q.2.1, q.2.2.2.1⟩
  ·have q := HQt.out.2.2 h hnn.2
   exact ⟨q.1, q.2.1.trans q.2.2.1.symm, q.2.2.2⟩)
 have HI := zM (show (∃ y ∈ l, y.f0 = pis) ∧ pis ≠ 1 from by
  have q := HW.out.step (p := nms) HS1.out.1 (by rw [← HS1.out.2.1]; exact HS1.out.2.2.1)
  rw [← HS1.out.2.1] at q
  exact ⟨q.1, q.2.1⟩)
 clear hnn hrt
 go_upto_region 10 with (first | (go_at_call 98; obtain ⟨A6, cA6, hN, hNd⟩ := node_any w nx pas _ l HV.out HSm.out HS1.out.1.1; obtain ⟨xa, hx⟩ : ∃ q, q = nodeI l (pas) := ⟨_, rfl⟩; rw [show iAt l (inoI l (pas)) = nodeI l (pas) from rfl, ← hx] at hN hNd; refine (hNd _ HS.out.grown).mono ?_; rintro e w13 ⟨rfl, hb⟩; have HNxa := zM hN; have HXxa := zM hx; replace HS := zM (HS.out.calls hb); clear hb hx hNd hN; ) | ((with_reducible refine gD 10 rfl ?_); refine sB #[.int .i64 0, .int .i64 0, .int .i64 0, .int .i64 0, .int .i64 0, .string ⟨#[]⟩, .slice none 0 0, .int .i64 0, .int .i64 0] 37 HS ?_; clear HS; intro g10 w10 HS _) | ((with_reducible refine gS 37 10 rfl ?_); refine sS 0 [.int .i64 xa.f0, .int .i64 xa.f1, .int .i64 xa.f2, .int .i64 xa.f3, .int .i64 xa.f4, .string xa.f5, .slice A6 xa.f6.length cA6, .int .i64 xa.f7, .int .i64 xa.f8] HS ?_; clear HS; intro w14 HS _; (try clear t0 t1 t2 t3); obtain ⟨t0, t1, t2, t3⟩ := HS.out.cells4 1 rfl; (try clear s0 s1 s2 s3); obtain ⟨s0, s1, s2, s3⟩ := HS.out.cells4 2 rfl; (try clear z0 z1); obtain ⟨z0, z1⟩ := HS.out.cells2 7 rfl))
 go_upto_region 11 with (first | (go_at_call 98; obtain ⟨B6, cB6, hN, hNd⟩ := node_any w nx pat _ l HV.out HSm.out HT1.out.1.1; obtain ⟨xb, hx⟩ : ∃ q, q = nodeI l (pat) := ⟨_, rfl⟩; rw [show iAt l (inoI l (pat)) = nodeI l (pat) from rfl, ← hx] at hN hNd; refine (hNd _ HS.out.grown).mono ?_; rintro e w15 ⟨rfl, hb⟩; have HNxb := zM hN; have HXxb := zM hx; replace HS := zM (HS.out.calls hb); clear hb hx hNd hN; ) | ((with_reducible refine gD 11 rfl ?_); refine sB #[.int .i64 0, .int .i64 0, .int .i64 0, .int .i64 0, .int .i64 0, .string ⟨#[]⟩, .slice none 0 0, .int .i64 0, .int .i64 0] 37 HS ?_; clear HS; intro g11 w11 HS _) | ((with_reducible refine gS 37 11 rfl ?_); refine sS 0 [.int .i64 xb.f0, .int .i64 xb.f1, .int .i64 xb.f2, .int .i64 xb.f3, .int .i64 xb.f4, .string xb.f5, .slice B6 xb.f6.length cB6, .int .i64 xb.f7, .int .i64 xb.f8] HS ?_; clear HS; intro w16 HS _; (try clear s0 s1 s2 s3); obtain ⟨s0, s1, s2, s3⟩ := HS.out.cells4 3 rfl; (try clear z0 z1); obtain ⟨z0, z1⟩ := HS.out.cells2 8 rfl))
 go_upto_region 12 with (first | (go_at_call 98; obtain ⟨N6, cN6, hN, hNd⟩ := node_any w nx pis _ l HV.out HSm.out (there_of HI.out.1); obtain ⟨xn, hx⟩ : ∃ q, q = nodeI l (pis) := ⟨_, rfl⟩; rw [show iAt l (inoI l (pis)) = nodeI l (pis) from rfl, ← hx] at hN hNd; refine (hNd _ HS.out.grown).mono ?_; rintro e w17 ⟨rfl, hb⟩; have HNxn := zM hN; have HXxn := zM hx; replace HS := zM (HS.out.calls hb); clear hb hx hNd hN; ) | ((with_reducible refine gD 12 rfl ?_); refine sB #[.int .i64 0, .int .i64 0, .int .i64 0, .int .i64 0, .int .i64 0, .string ⟨#[]⟩, .slice none 0 0, .int .i64 0, .int .i64 0] 37 HS ?_; clear HS; intro g12 w12 HS _) | ((with_reducible refine gS 37 12 rfl ?_); refine sS 0 [.int .i64 xn.f0, .int .i64 xn.f1, .int .i64 xn.f2, .int .i64 xn.f3, .int .i64 xn.f4, .string xn.f5, .slice N6 xn.f6.length cN6, .int .i64 xn.f7, .int .i64 xn.f8] HS ?_; clear HS; intro w18 HS _; (try clear e0 e1 e2 e3 e4 e5 e6 e7 e8); obtain ⟨e0, e1, e2, e3, e4, e5, e6, e7, e8⟩ := HS.out.cells9 2 rfl; (try clear f0 f1 f2 f3 f4 f5 f6 f7 f8); obtain ⟨f0, f1, f2, f3, f4, f5, f6, f7, f8⟩ := HS.out.cells9 1 rfl; (try clear y0 y1 y2); obtain ⟨y0, y1, y2⟩ := HS.out.cells3 8 rfl))
 try simp only [Act.put, List.setIfInBounds_toArray, List.set_cons_zero, List.set_cons_succ]
 go_cut [80] from 80 to 80 (fun v_ w' => ∃ b_ : Bool, v_ = .bool b_ ∧ Aside0 (St w none w' [(g12, 37, #[.int .i64 xn.f0, .int .i64 xn.f1, .int .i64 xn.f2, .int .i64 xn.f3, .int .i64 xn.f4, .string xn.f5, .slice N6 xn.f6.length cN6, .int .i64 xn.f7, .int .i64 xn.f8]), (g11, 37, #[.int .i64 xb.f0, .int .i64 xb.f1, .int .i64 xb.f2, .int .i64 xb.f3, .int .i64 xb.f4, .string xb.f5, .slice B6 xb.f6.length cB6, .int .i64 xb.f7, .int .i64 xb.f8]), (g10, 37, #[.int .i64 xa.f0, .int .i64 xa.f1, .int .i64 xa.f2, .int .i64 xa.f3, .int .i64 xa.f4, .string xa.f5, .slice A6 xa.f6.length cA6, .int .i64 xa.f7, .int .i64 xa.f8]), (g9, 33, #[.int .i64 pat, .string nmt, .int .i64 pit, .int .i64 prt]), (g8, 33, #[.int .i64 pas, .string nms, .int .i64 pis, .int .i64 prs]), (g7, 94, #[.int .i64 0, .string ⟨#[]⟩]), (g6, 26, #[.int .i64 0, .slice none 0 0]), (g5, 98, #[.int .i64 kd, .string path, .string tgt, .int .i64 n, .int .i64 m, .string data]), (g4, 29, #[.int .i64 u, .int .i64 g, .slice Ag gs.length cg]), (g3, 26, #[.int .i64 nx, .slice A l.length c])]))
 case first =>
  as_aux_lemma =>
   go_wp2_with (first | (go_at_call 56; (with_reducible show Calls _ _ #[_, .agg #[.int .i64 xa.f0, _, _, _, _, _, _, _, _], _] _ _); refine (mayS_any u g Ag cg gs 3 xa A6 cA6 _ (HGc.out.keep HS.out.grown).1 HGc.out.2 (Kd.R_reads' (HNxa.out.keep HS.out.grown)).2.2 (Kd.R_reads' HNxa.out).2.1).mono ?_; rintro e w19 ⟨rfl, hb⟩; generalize mayX u g gs 3 xa = my1; replace HS := zM (HS.out.call hb); clear hb; (try clear f0 f1 f2 f3 f4 f5 f6 f7 f8); obtain ⟨f0, f1, f2, f3, f4, f5, f6, f7, f8⟩ := HS.out.cells9 1 rfl; (try clear y0 y1 y2); obtain ⟨y0, y1, y2⟩ := HS.out.cells3 8 rfl; (cases my1)) | (go_at_call 56; (with_reducible show Calls _ _ #[_, .agg #[.int .i64 xb.f0, _, _, _, _, _, _, _, _], _] _ _); refine (mayS_any u g Ag cg gs 3 xb B6 cB6 _ (HGc.out.keep HS.out.grown).1 HGc.out.2 (Kd.R_reads' (HNxb.out.keep HS.out.grown)).2.2 (Kd.R_reads' HNxb.out).2.1).mono ?_; rintro e w20 ⟨rfl, hb⟩; generalize mayX u g gs 3 xb = my2; replace HS := zM (HS.out.call hb); clear hb; ))
   all_goals
    go_meet
    case rel => exact ⟨_, rfl, HS⟩
 case rest =>
 clear HS
 obtain ⟨b6, rfl, HS⟩ := hcut
 obtain ⟨w21, hw_⟩ : ∃ q, q = wc := ⟨_, rfl⟩
 subst hw_
 (try clear z0 z1); obtain ⟨z0, z1⟩ := HS.out.cells2 9 rfl
 (try clear y0 y1 y2); obtain ⟨y0, y1, y2⟩ := HS.out.cells3 8 rfl
 (try clear e0 e1 e2 e3 e4 e5 e6 e7 e8); obtain ⟨e0, e1, e2, e3, e4, e5, e6, e7, e8⟩ := HS.out.cells9 2 rfl
 (try clear n0 n1 n2 n3 n4 n5 n6 n7 n8); obtain ⟨n0, n1, n2, n3, n4, n5, n6, n7, n8⟩ := HS.out.cells9 0 rfl
 go_upto_if 80 with (fail)
 cases b6
 case true =>
  as_aux_lemma =>
   go_wp2_with (first | ((with_reducible refine gS 26 6 rfl ?_); refine sS 6 [.int .i64 nx, .slice A l.length c] HS ?_; clear HS; intro w22 HS _) | ((with_reducible refine gS 94 7 rfl ?_); refine sS 5 [.int .i64 13, .string ⟨#[]⟩] HS ?_; clear HS; intro w23 HS _))
   refine rVR 6 5 HS ?_
   exact doSame HV.out HW.out HZ.out HS.out.grown
 case false =>
 go_upto_if 87 with (first | (go_at_call 103; refine (take_any _ u g Ag cg gs (HGc.out.keep HS.out.grown) xa xn A6 N6 cA6 cN6).mono ?_; rintro e w22 ⟨bt, rfl, hb⟩; replace HS := zM (HS.out.calls hb); clear hb; (try clear z0 z1); obtain ⟨z0, z1⟩ := HS.out.cells2 9 rfl; (try clear n0 n1 n2 n3 n4 n5 n6 n7 n8); obtain ⟨n0, n1, n2, n3, n4, n5, n6, n7, n8⟩ := HS.out.cells9 0 rfl; (try clear t0 t1 t2 t3); obtain ⟨t0, t1, t2, t3⟩ := HS.out.cells4 3 rfl; (try clear s0 s1 s2 s3); obtain ⟨s0, s1, s2, s3⟩ := HS.out.cells4 4 rfl))
 cases bt
 case false =>
  as_aux_lemma =>
   go_wp2_with (first | ((with_reducible refine gS 26 6 rfl ?_); refine sS 6 [.int .i64 nx, .slice A l.length c] HS ?_; clear HS; intro w23 HS _) | ((with_reducible refine gS 94 7 rfl ?_); refine sS 5 [.int .i64 1, .string ⟨#[]⟩] HS ?_; clear HS; intro w24 HS _))
   refine rVR 6 5 HS ?_
   exact doSame HV.out HW.out HZ.out HS.out.grown
 case true =>
 go_upto_region 16 with (fail)
 try simp only [Act.put, List.setIfInBounds_toArray, List.set_cons_zero, List.set_cons_succ]
 go_cut [100] from 100 to 100 (fun v_ w' => ∃ b_ : Bool, v_ = .bool b_ ∧ Aside0 (St w none w' [(g12, 37, #[.int .i64 xn.f0, .int .i64 xn.f1, .int .i64 xn.f2, .int .i64 xn.f3, .int .i64 xn.f4, .string xn.f5, .slice N6 xn.f6.length cN6, .int .i64 xn.f7, .int .i64 xn.f8]), (g11, 37, #[.int .i64 xb.f0, .int .i64 xb.f1, .int .i64 xb.f2, .int .i64 xb.f3, .int .i64 xb.f4, .string xb.f5, .slice B6 xb.f6.length cB6, .int .i64 xb.f7, .int .i64 xb.f8]), (g10, 37, #[.int .i64 xa.f0, .int .i64 xa.f1, .int .i64 xa.f2, .int .i64 xa.f3, .int .i64 xa.f4, .string xa.f5, .slice A6 xa.f6.length cA6, .int .i64 xa.f7, .int .i64 xa.f8]), (g9, 33, #[.int .i64 pat, .string nmt, .int .i64 pit, .int .i64 prt]), (g8, 33, #[.int .i64 pas, .string nms, .int .i64 pis, .int .i64 prs]), (g7, 94, #[.int .i64 0, .string ⟨#[]⟩]), (g6, 26, #[.int .i64 0, .slice none 0 0]), (g5, 98, #[.int .i64 kd, .string path, .string tgt, .int .i64 n, .int .i64 m, .string data]), (g4, 29, #[.int .i64 u, .int .i64 g, .slice Ag gs.length cg]), (g3, 26, #[.int .i64 nx, .slice A l.length c])]))
 case first =>
  as_aux_lemma =>
   cases kn : (xn.f1 == 2)
   all_goals
    go_wp2_with (go_at_call 106; refine (inside_any _ nx pat pis _ l (HV.out.keep HS.out.grown) HSm.out).mono ?_; rintro e w23 ⟨bi, rfl, hb⟩; replace HS := zM (HS.out.calls hb); clear hb)
    go_meet
    case rel => exact ⟨_, rfl, HS⟩
 case rest =>
 clear HS
 obtain ⟨b7, rfl, HS⟩ := hcut
 obtain ⟨w24, hw_⟩ : ∃ q, q = wc := ⟨_, rfl⟩
 subst hw_
 (try clear z0 z1); obtain ⟨z0, z1⟩ := HS.out.cells2 9 rfl
 (try clear t0 t1 t2 t3); obtain ⟨t0, t1, t2, t3⟩ := HS.out.cells4 3 rfl
 (try clear s0 s1 s2 s3); obtain ⟨s0, s1, s2, s3⟩ := HS.out.cells4 4 rfl
 go_upto_if 100 with (fail)
 cases b7
 case true =>
  as_aux_lemma =>
   go_wp2_with (first | ((with_reducible refine gS 26 6 rfl ?_); refine sS 6 [.int .i64 nx, .slice A l.length c] HS ?_; clear HS; intro w25 HS _) | ((with_reducible refine gS 94 7 rfl ?_); refine sS 5 [.int .i64 22, .string ⟨#[]⟩] HS ?_; clear HS; intro w26 HS _))
   refine rVR 6 5 HS ?_
   exact doSame HV.out HW.out HZ.out HS.out.grown
 case false =>
 go_upto_if 107 with (first | (go_at_call 66; refine (copy_any _ nx _ l (HV.out.keep HS.out.grown) HSm.out).mono ?_; rintro e w28 ⟨vy, rfl, hY, hb⟩; obtain ⟨gy, cy, rfl⟩ := (volO_copy hY).some_ HW.out.head; have H10 := zM (show g10 ≠ gy from by have h1 := blk_lt (HS.out.get 2 rfl); have h2 := Kd.S_base hY gy rfl; omega); have H11 := zM (show g11 ≠ gy from by have h1 := blk_lt (HS.out.get 1 rfl); have h2 := Kd.S_base hY gy rfl; omega); have H12 := zM (show g12 ≠ gy from by have h1 := blk_lt (HS.out.get 0 rfl); have h2 := Kd.S_base hY gy rfl; omega); have HGy := zM (Nat.le_trans HS.out.grown.size (Kd.S_base hY gy rfl)); have HY := zM (volO_copy hY); replace HS := zM (HS.out.calls hb); clear hb hY) | ((with_reducible refine gD 13 rfl ?_); refine sB #[.int .i64 0, .slice none 0 0] 26 HS ?_; intro g13 w13 n0_ n1_; have hy_ := zM (VolO.keep HY.out (grown_below n1_.out.1 none)); clear HY; have HY := hy_; clear hy_; clear HS; have HS := n0_; clear n0_ n1_) | ((with_reducible refine gS 26 13 rfl ?_); refine sS 0 [.int .i64 nx, .slice (some ⟨gy, 0, none⟩) l.length cy] HS ?_; intro w29 n0_ n1_; replace HY := zM (R_box HY.out (HS.out.get 0 rfl) (by decide) n1_.out); clear HS; have HS := n0_; clear n0_ n1_; (try clear t0 t1 t2 t3); obtain ⟨t0, t1, t2, t3⟩ := HS.out.cells4 4 rfl; (try clear s0 s1 s2 s3); obtain ⟨s0, s1, s2, s3⟩ := HS.out.cells4 5 rfl; (try clear z0 z1); obtain ⟨z0, z1⟩ := HS.out.cells2 10 rfl; (try clear f0 f1 f2 f3 f4 f5 f6 f7 f8); obtain ⟨f0, f1, f2, f3, f4, f5, f6, f7, f8⟩ := HS.out.cells9 2 rfl))
 try simp only [Act.put, List.setIfInBounds_toArray, List.set_cons_zero, List.set_cons_succ]
 replace HS : Aside0 (St w none w29 [(g13, 26, #[.int .i64 nx, .slice (some ⟨gy, 0, none⟩) l.length cy]), (g12, 37, #[.int .i64 xn.f0, .int .i64 xn.f1, .int .i64 xn.f2, .int .i64 xn.f3, .int .i64 xn.f4, .string xn.f5, .slice N6 xn.f6.length cN6, .int .i64 xn.f7, .int .i64 xn.f8]), (g11, 37, #[.int .i64 xb.f0, .int .i64 xb.f1, .int .i64 xb.f2, .int .i64 xb.f3, .int .i64 xb.f4, .string xb.f5, .slice B6 xb.f6.length cB6, .int .i64 xb.f7, .int .i64 xb.f8]), (g10, 37, #[.int .i64 xa.f0, .int .i64 xa.f1, .int .i64 xa.f2, .int .i64 xa.f3, .int .i64 xa.f4, .string xa.f5, .slice A6 xa.f6.length cA6, .int .i64 xa.f7, .int .i64 xa.f8]), (g9, 33, #[.int .i64 pat, .string nmt, .int .i64 pit, .int .i64 prt]), (g8, 33, #[.int .i64 pas, .string nms, .int .i64 pis, .int .i64 prs]), (g7, 94, #[.int .i64 0, .string ⟨#[]⟩]), (g6, 26, #[.int .i64 0, .slice none 0 0]), (g5, 98, #[.int .i64 kd, .string path, .string tgt, .int .i64 n, .int .i64 m, .string data]), (g4, 29, #[.int .i64 u, .int .i64 g, .slice Ag gs.length cg]), (g3, 26, #[.int .i64 nx, .slice A l.length c])]) := HS
 go_cut [] from 105 to 175 (fun w' => ∃ (v1 : Value) (l1 : List S37), Aside0 (VolO w' v1 l1) ∧ Aside0 (RnP k nx l1 pat pas pis nmt) ∧ Aside0 (∀ b, v1.ownBlock = some b → w.heap.size ≤ b ∧ ∀ p ∈ [g13, g12, g11, g10, g9, g8, g7, g6, g5, g4, g3], p ≠ b) ∧ Aside0 (St w none w' [(g13, 26, #[.int .i64 nx, v1]), (g12, 37, #[.int .i64 xn.f0, .int .i64 xn.f1, .int .i64 xn.f2, .int .i64 xn.f3, .int .i64 xn.f4, .string xn.f5, .slice N6 xn.f6.length cN6, .int .i64 xn.f7, .int .i64 xn.f8]), (g11, 37, #[.int .i64 xb.f0, .int .i64 xb.f1, .int .i64 xb.f2, .int .i64 xb.f3, .int .i64 xb.f4, .string xb.f5, .slice B6 xb.f6.length cB6, .int .i64 xb.f7, .int .i64 xb.f8]), (g10, 37, #[.int .i64 xa.f0, .int .i64 xa.f1, .int .i64 xa.f2, .int .i64 xa.f3, .int .i64 xa.f4, .string xa.f5, .slice A6 xa.f6.length cA6, .int .i64 xa.f7, .int .i64 xa.f8]), (g9, 33, #[.int .i64 pat, .string nmt, .int .i64 pit, .int .i64 prt]), (g8, 33, #[.int .i64 pas, .string nms, .int .i64 pis, .int .i64 prs]), (g7, 94, #[.int .i64 0, .string ⟨#[]⟩]), (g6, 26, #[.int .i64 0, .slice none 0 0]), (g5, 98, #[.int .i64 kd, .string path, .string tgt, .int .i64 n, .int .i64 m, .string data]), (g4, 29, #[.int .i64 u, .int .i64 g, .slice Ag gs.length cg]), (g3, 26, #[.int .i64 nx, .slice A l.length c])]))
 case first =>
  as_aux_lemma =>
   by_cases hp0 : (0 : Int) < pit
   case neg =>
    have HZ0 := zM (show stepI l pat nmt = 0 from Decidable.byContradiction fun h => by
     obtain ⟨y, hy, e⟩ := (HW.out.step HT1.out.1 h).1
     have h1 := (HW.out.rng y hy).1
     rw [e, ← HT1.out.2.1] at h1
     omega)
    go_upto_region 32 with (fail)
    try simp only [Act.put, List.setIfInBounds_toArray, List.set_cons_zero, List.set_cons_succ]
    go_cut [173] from 173 to 173 (fun v_ w' => ∃ b_ : Bool, v_ = .bool b_ ∧ w29 = w')
    case first =>
     as_aux_lemma =>
      cases d1 : (pas != pat) <;> by_cases d2 : (12 : Int) ≤ (xb.f6.length : Int)
      all_goals
       go_wp2
       go_meet
       case rel => exact ⟨_, rfl, rfl⟩
    case rest =>
    obtain ⟨b8, rfl, e_⟩ := hcut
    subst e_
    go_upto_if 173 with (fail)
    cases b8
    case true =>
     (try clear z0 z1); obtain ⟨z0, z1⟩ := HS.out.cells2 10 rfl
     as_aux_lemma =>
      go_wp2_with (first | ((with_reducible refine gS 26 6 rfl ?_); refine sS 7 [.int .i64 nx, .slice A l.length c] HS ?_; clear HS; intro w30 HS _) | ((with_reducible refine gS 94 7 rfl ?_); refine sS 6 [.int .i64 28, .string ⟨#[]⟩] HS ?_; clear HS; intro w31 HS _))
      refine rVR 7 6 HS ?_
      exact doSame HV.out HW.out HZ.out HS.out.grown
    case false =>
     have HNy := zM (St.ne_typ HS.out (Kd.R_typed HY.out gy rfl) (by simp only [List.forall_mem_cons]; exact ⟨fun h => absurd h (by decide), fun _ => H12.out, fun _ => H11.out, fun _ => H10.out, fun h => absurd h (by decide), fun h => absurd h (by decide), fun h => absurd h (by decide), fun h => absurd h (by decide), fun h => absurd h (by decide), fun h => absurd h (by decide), fun h => absurd h (by decide), by simp⟩))
     go_wp2
     go_meet
     case rel => exact ⟨_, l, HY, ⟨⟨HW.out, HZ.out, HT1.out.1, HW.out.noName HT1.out.1 HZ0.out, HI.out.1, there_iff.1 HS1.out.1.1⟩⟩, ⟨fun b hb => by
      obtain rfl : gy = b := Option.some.inj hb
      exact ⟨HGy.out, ne_of_bs HNy.out⟩⟩, HS⟩
   have HA0 := zM (show stepI l pat nmt ≠ 0 from by rw [← HT1.out.2.1]; omega)
   go_upto_if 112 with (fail)
   cases e1 : (pit == pis)
   case true =>
    as_aux_lemma =>
     go_wp2_with (first | ((with_reducible refine gS 26 6 rfl ?_); refine sS 7 [.int .i64 nx, .slice A l.length c] HS ?_; clear HS; intro w30 HS _) | ((with_reducible refine gS 94 7 rfl ?_); refine sS 6 [.int .i64 0, .string ⟨#[]⟩] HS ?_; clear HS; intro w31 HS _))
     refine rVR 7 6 HS ?_
     exact doSame HV.out HW.out HZ.out HS.out.grown
   case false =>
   have HE1 := zM (show stepI l pat nmt ≠ pis from by rw [← HT1.out.2.1]; simpa using e1)
   have HPi := zM (show inoI l pit < l.length from by rw [HT1.out.2.1]; exact there_of (HW.out.step HT1.out.1 HA0.out).1)
   go_upto_region 23 with (first | (go_at_call 98; obtain ⟨O6, cO6, hN, hNd⟩ := node_any w nx pit _ l HV.out HSm.out HPi.out; obtain ⟨xo, hx⟩ : ∃ q, q = nodeI l (pit) := ⟨_, rfl⟩; rw [show iAt l (inoI l (pit)) = nodeI l (pit) from rfl, ← hx] at hN hNd; refine (hNd _ HS.out.grown).mono ?_; rintro e w30 ⟨rfl, hb⟩; have HNxo := zM hN; have HXxo := zM hx; have n0_ := zM (HS.out.calls hb); have n1_ := zM (VolO.keep HY.out hb); clear HS HY; have HS := n0_; have HY := n1_; clear n0_ n1_; clear hb hx hNd hN; ) | ((with_reducible refine gD 14 rfl ?_); refine sB #[.int .i64 0, .int .i64 0, .int .i64 0, .int .i64 0, .int .i64 0, .string ⟨#[]⟩, .slice none 0 0, .int .i64 0, .int .i64 0] 37 HS ?_; intro g14 w14 n0_ n1_; have hy_ := zM (Kd.R_below (Kd.R_mono (Kd.R_bound HY.out) (ok' := fun k => k ≠ g14) (fun k hk => by have h1 := hk.2.2.1; have h2 := n1_.out.2; omega)) n1_.out.1); have H14 := zM (show g14 ≠ gy from fun e => by have h1 := Kd.R_lt HY.out gy rfl; have h2 := n1_.out.2; omega); clear HY; have HY := hy_; clear hy_; clear HS; have HS := n0_; clear n0_ n1_) | ((with_reducible refine gS 37 14 rfl ?_); refine sS 0 [.int .i64 xo.f0, .int .i64 xo.f1, .int .i64 xo.f2, .int .i64 xo.f3, .int .i64 xo.f4, .string xo.f5, .slice O6 xo.f6.length cO6, .int .i64 xo.f7, .int .i64 xo.f8] HS ?_; intro w31 n0_ n1_; have hy_ := zM (show VolO w31 _ l from Kd.R_mono (Kd.R_grown HY.out n1_.out (fun k hk he => hk (by injection he))) (fun _ _ => trivial)); clear HY; have HY := hy_; clear hy_; clear HS; have HS := n0_; clear n0_ n1_; (try clear n0 n1 n2 n3 n4 n5 n6 n7 n8); obtain ⟨n0, n1, n2, n3, n4, n5, n6, n7, n8⟩ := HS.out.cells9 2 rfl; (try clear o0 o1 o2 o3 o4 o5 o6 o7 o8); obtain ⟨o0, o1, o2, o3, o4, o5, o6, o7, o8⟩ := HS.out.cells9 0 rfl; (try clear f0 f1 f2 f3 f4 f5 f6 f7 f8); obtain ⟨f0, f1, f2, f3, f4, f5, f6, f7, f8⟩ := HS.out.cells9 3 rfl; (try clear y0 y1 y2); obtain ⟨y0, y1, y2⟩ := HS.out.cells3 10 rfl; (try clear z0 z1); obtain ⟨z0, z1⟩ := HS.out.cells2 11 rfl))
   go_upto_if 123 with (first | (go_at_call 103; refine (take_any _ u g Ag cg gs (HGc.out.keep HS.out.grown) xb xo B6 O6 cB6 cO6).mono ?_; rintro e w32 ⟨bt2, rfl, hb⟩; have n0_ := zM (HS.out.calls hb); have n1_ := zM (VolO.keep HY.out hb); clear HS HY; have HS := n0_; have HY := n1_; clear n0_ n1_; clear hb; (try clear n0 n1 n2 n3 n4 n5 n6 n7 n8); obtain ⟨n0, n1, n2, n3, n4, n5, n6, n7, n8⟩ := HS.out.cells9 2 rfl; (try clear o0 o1 o2 o3 o4 o5 o6 o7 o8); obtain ⟨o0, o1, o2, o3, o4, o5, o6, o7, o8⟩ := HS.out.cells9 0 rfl; (try clear z0 z1); obtain ⟨z0, z1⟩ := HS.out.cells2 11 rfl; (try clear t0 t1 t2 t3); obtain ⟨t0, t1, t2, t3⟩ := HS.out.cells4 5 rfl; (try clear v0 v1); obtain ⟨v0, v1⟩ := HS.out.cells2 1 rfl))
   cases bt2
   case false =>
    as_aux_lemma =>
     go_wp2_with (first | ((with_reducible refine gS 26 6 rfl ?_); refine sS 8 [.int .i64 nx, .slice A l.length c] HS ?_; clear HS; intro w33 HS _) | ((with_reducible refine gS 94 7 rfl ?_); refine sS 7 [.int .i64 1, .string ⟨#[]⟩] HS ?_; clear HS; intro w34 HS _))
     refine rVR 8 7 HS ?_
     exact doSame HV.out HW.out HZ.out HS.out.grown
   case true =>
   go_upto_region 25 with (fail)
   try simp only [Act.put, List.setIfInBounds_toArray, List.set_cons_zero, List.set_cons_succ]
   go_cut [133] from 133 to 133 (fun v_ w' => ∃ b_ : Bool, v_ = .bool b_ ∧ Aside0 (b_ = false → (xn.f1 == 2) = true → (xo.f1 != 2) = false) ∧ w32 = w')
   case first =>
    as_aux_lemma =>
     cases kn : (xn.f1 == 2) <;> cases ko : (xo.f1 != 2)
     all_goals
      go_wp2
      go_meet
      case rel => exact ⟨_, rfl, ⟨fun h hk => by first | (cases h; done) | exact absurd (kn.symm.trans hk) (by decide) | exact ko⟩, rfl⟩
   case rest =>
   obtain ⟨b9, rfl, F1, e_⟩ := hcut
   subst e_
   go_upto_if 133 with (fail)
   cases b9
   case true =>
    as_aux_lemma =>
     go_wp2_with (first | ((with_reducible refine gS 26 6 rfl ?_); refine sS 8 [.int .i64 nx, .slice A l.length c] HS ?_; clear HS; intro w33 HS _) | ((with_reducible refine gS 94 7 rfl ?_); refine sS 7 [.int .i64 20, .string ⟨#[]⟩] HS ?_; clear HS; intro w34 HS _))
     refine rVR 8 7 HS ?_
     exact doSame HV.out HW.out HZ.out HS.out.grown
   case false =>
   go_upto_region 27 with (fail)
   try simp only [Act.put, List.setIfInBounds_toArray, List.set_cons_zero, List.set_cons_succ]
   go_cut [144] from 144 to 144 (fun v_ w' => ∃ b_ : Bool, v_ = .bool b_ ∧ Aside0 (b_ = false → (xn.f1 == 2) = true → xo.f6.length = 0) ∧ w32 = w')
   case first =>
    as_aux_lemma =>
     cases kn : (xn.f1 == 2) <;> by_cases lo : (0 : Int) < (xo.f6.length : Int)
     all_goals
      go_wp2
      go_meet
      case rel => exact ⟨_, rfl, ⟨fun h hk => by first | (cases h; done) | exact absurd (kn.symm.trans hk) (by decide) | omega | (exfalso; simp [lo] at h; done) | (exfalso; have hq_ := of_decide_eq_false h; omega)⟩, rfl⟩
   case rest =>
   obtain ⟨b10, rfl, F2, e_⟩ := hcut
   subst e_
   go_upto_if 144 with (fail)
   cases b10
   case true =>
    as_aux_lemma =>
     go_wp2_with (first | ((with_reducible refine gS 26 6 rfl ?_); refine sS 8 [.int .i64 nx, .slice A l.length c] HS ?_; clear HS; intro w33 HS _) | ((with_reducible refine gS 94 7 rfl ?_); refine sS 7 [.int .i64 39, .string ⟨#[]⟩] HS ?_; clear HS; intro w34 HS _))
     refine rVR 8 7 HS ?_
     exact doSame HV.out HW.out HZ.out HS.out.grown
   case false =>
   go_upto_region 29 with (fail)
   try simp only [Act.put, List.setIfInBounds_toArray, List.set_cons_zero, List.set_cons_succ]
   go_cut [154] from 154 to 154 (fun v_ w' => ∃ b_ : Bool, v_ = .bool b_ ∧ Aside0 (b_ = false → (xn.f1 != 2) = true → (xo.f1 == 2) = false) ∧ w32 = w')
   case first =>
    as_aux_lemma =>
     cases kn : (xn.f1 != 2) <;> cases ko : (xo.f1 == 2)
     all_goals
      go_wp2
      go_meet
      case rel => exact ⟨_, rfl, ⟨fun h hk => by first | (cases h; done) | exact absurd (kn.symm.trans hk) (by decide) | exact ko⟩, rfl⟩
   case rest =>
   obtain ⟨b11, rfl, F3, e_⟩ := hcut
   subst e_
   go_upto_if 154 with (fail)
   cases b11
   case true =>
    as_aux_lemma =>
     go_wp2_with (first | ((with_reducible refine gS 26 6 rfl ?_); refine sS 8 [.int .i64 nx, .slice A l.length c] HS ?_; clear HS; intro w33 HS _) | ((with_reducible refine gS 94 7 rfl ?_); refine sS 7 [.int .i64 21, .string ⟨#[]⟩] HS ?_; clear HS; intro w34 HS _))
     refine rVR 8 7 HS ?_
     exact doSame HV.out HW.out HZ.out HS.out.grown
   case false =>
   have HO := zM (show xo.f6 = [] ∨ xo.f1 ≠ 2 from by
    cases kn : (xn.f1 == 2) with
    | true => exact .inl (List.eq_nil_of_length_eq_zero (by first | exact F2.out kn | exact F2.out rfl kn | exact F2.out trivial kn))
    | false =>
     have h1 : (xn.f1 != 2) = true := by simpa using kn
     have h2 : (xo.f1 == 2) = false := by first | exact F3.out h1 | exact F3.out rfl h1 | exact F3.out trivial h1
     exact .inr (by simpa using h2))
   have HOx := zM (show ∀ d : Int, KindD l d → (nodeI l d).f6 ≠ [] → stepI l pat nmt ≠ d from fun d hd hf e => by
    have h1 : xo = nodeI l d := by rw [HXxo.out, HT1.out.2.1, e]
    rcases HO.out with h | h
    ·exact hf (h1 ▸ h)
    ·exact h (h1 ▸ hd.2))
   have HE2 := zM (HOx.out pat HT1.out.1 (step_names HW.out HT1.out.1 HA0.out))
   have HE3 := zM (HOx.out pas HS1.out.1 (step_names HW.out HS1.out.1 (by rw [← HS1.out.2.1]; exact HS1.out.2.2.1)))
   have HP0 := zM HS1.out.2.2.1
   replace HS : Aside0 (St w none w32 [(g14, 37, #[.int .i64 xo.f0, .int .i64 xo.f1, .int .i64 xo.f2, .int .i64 xo.f3, .int .i64 xo.f4, .string xo.f5, .slice O6 xo.f6.length cO6, .int .i64 xo.f7, .int .i64 xo.f8]), (g13, 26, #[.int .i64 nx, .slice (some ⟨gy, 0, none⟩) l.length cy]), (g12, 37, #[.int .i64 xn.f0, .int .i64 xn.f1, .int .i64 xn.f2, .int .i64 xn.f3, .int .i64 xn.f4, .string xn.f5, .slice N6 xn.f6.length cN6, .int .i64 xn.f7, .int .i64 xn.f8]), (g11, 37, #[.int .i64 xb.f0, .int .i64 xb.f1, .int .i64 xb.f2, .int .i64 xb.f3, .int .i64 xb.f4, .string xb.f5, .slice B6 xb.f6.length cB6, .int .i64 xb.f7, .int .i64 xb.f8]), (g10, 37, #[.int .i64 xa.f0, .int .i64 xa.f1, .int .i64 xa.f2, .int .i64 xa.f3, .int .i64 xa.f4, .string xa.f5, .slice A6 xa.f6.length cA6, .int .i64 xa.f7, .int .i64 xa.f8]), (g9, 33, #[.int .i64 pat, .string nmt, .int .i64 pit, .int .i64 prt]), (g8, 33, #[.int .i64 pas, .string nms, .int .i64 pis, .int .i64 prs]), (g7, 94, #[.int .i64 0, .string ⟨#[]⟩]), (g6, 26, #[.int .i64 0, .slice none 0 0]), (g5, 98, #[.int .i64 kd, .string path, .string tgt, .int .i64 n, .int .i64 m, .string data]), (g4, 29, #[.int .i64 u, .int .i64 g, .slice Ag gs.length cg]), (g3, 26, #[.int .i64 nx, .slice A l.length c])]) := HS
   have HNy := zM (St.ne_typ HS.out (Kd.R_typed HY.out gy rfl) (by simp only [List.forall_mem_cons]; exact ⟨fun _ => H14.out, fun h => absurd h (by decide), fun _ => H12.out, fun _ => H11.out, fun _ => H10.out, fun h => absurd h (by decide), fun h => absurd h (by decide), fun h => absurd h (by decide), fun h => absurd h (by decide), fun h => absurd h (by decide), fun h => absurd h (by decide), fun h => absurd h (by decide), by simp⟩))
   have HBl := zM (fun p hp => blk_lt (HS.out.box p hp))
   go_wp2_with (first | (go_at_call 104; refine (drop_any _ nx pat nmt _ l HY.out HSm.out HT1.out.1.1).mono ?_; rintro e w41 ⟨v1, l1, q1, rfl, hq, hl, hv', hg, hat⟩; have HRn := zM (rn_drop HW.out HZ.out HT1.out.1 HA0.out HS1.out.1 HI.out.1 HP0.out HE1.out HE2.out HE3.out hq hl); have HOw := zM (show ∀ b, v1.ownBlock = some b → w.heap.size ≤ b ∧ ∀ p ∈ [g13, g12, g11, g10, g9, g8, g7, g6, g5, g4, g3], p ≠ b from fun b hb => ⟨(hat b hb).elim (fun h => by rw [← Option.some.inj h]; exact HGy.out) (fun h => Nat.le_trans HS.out.grown.size h), fun q hq_ => (hat b hb).elim (fun h => (by rw [← Option.some.inj h]; exact ne_of_bs HNy.out q (List.mem_cons_of_mem _ hq_))) (fun h => ne_of_bs (lt_ne HBl.out h) q (List.mem_cons_of_mem _ hq_))⟩); obtain ⟨A1, c1, rfl⟩ := Kd.R_slice hv'; have HY1 := zM hv'; replace HS := zM (HS.out.grow hg (fun b hb => .inr (by obtain rfl : gy = b := Option.some.inj hb; exact HGy.out)) (fun p hp he => HNy.out p hp (Option.some.inj he).symm)); clear hq hl hv' hg hat) | ((with_reducible refine gS 26 13 rfl ?_); refine sS 1 [.int .i64 nx, .slice A1 l1.length c1] HS ?_; intro w42 n0_ n1_; replace HY1 := zM (R_box HY1.out (HS.out.get 1 rfl) (by decide) n1_.out); clear HS; have HS := n0_; clear n0_ n1_))
   go_meet
   case rel => exact ⟨_, l1, HY1, HRn, HOw, ⟨HS.out.tail⟩⟩
 case rest =>
 clear HS HY
 obtain ⟨v1, l1, HY, HRn, HOw, HS⟩ := hcut
 obtain ⟨g1, c1, rfl⟩ := VolO.some_ HY.out HRn.out.wf.head
 obtain ⟨w50, hw_⟩ : ∃ q, q = wc := ⟨_, rfl⟩
 subst hw_
 replace HOw := zM (HOw.out g1 rfl)
 (try clear v0 v1); obtain ⟨v0, v1⟩ := HS.out.cells2 0 rfl
 (try clear t0 t1 t2 t3); obtain ⟨t0, t1, t2, t3⟩ := HS.out.cells4 4 rfl
 (try clear s0 s1 s2 s3); obtain ⟨s0, s1, s2, s3⟩ := HS.out.cells4 5 rfl
 go_upto_region 35 with (first | (go_at_call 100; refine (add_any _ nx pat pis nmt _ l1 HY.out (HRn.out.sz.small (by have := HKk.out; omega)) HRn.out.dir.1).mono ?_; rintro e w51 ⟨v2, ds, rfl, hp, hv', hg, hat⟩; have HA2 := zM (addWf HRn.out.wf HRn.out.sz HRn.out.dir HRn.out.no HT1.out.2.2 HRn.out.id HI.out.2 hp); have HSr := zM (withL_there (x := { nodeI l1 pat with f6 := ds }) HRn.out.src); generalize withL l1 { nodeI l1 pat with f6 := ds } = l2 at hv' HA2 HSr; obtain ⟨g2, c2, rfl⟩ := VolO.some_ hv' HA2.out.1.head; have HBl := zM (fun p hp => blk_lt (HS.out.box p hp)); have HOw2 := zM (show w.heap.size ≤ g2 ∧ ∀ p ∈ [g13, g12, g11, g10, g9, g8, g7, g6, g5, g4, g3], p ≠ g2 from (hat g2 rfl).elim (fun h => by (obtain rfl : g1 = g2 := Option.some.inj h); exact HOw.out) (fun h => ⟨Nat.le_trans HS.out.grown.size h, ne_of_bs (lt_ne HBl.out h)⟩)); have HY2 := zM hv'; replace HS := zM (HS.out.grow hg (fun b hb => .inr (by obtain rfl : g1 = b := Option.some.inj hb; exact HOw.out.1)) (fun p hp he => St.ne_of HS.out HOw.out.2 p hp (Option.some.inj he).symm)); clear hp hv' hg hat HBl) | ((with_reducible refine gS 26 13 rfl ?_); refine sS 0 [.int .i64 nx, .slice (some ⟨g2, 0, none⟩) l2.length c2] HS ?_; intro w52 n0_ n1_; replace HY2 := zM (R_box HY2.out (HS.out.get 0 rfl) (by decide) n1_.out); clear HS; have HS := n0_; clear n0_ n1_; (try clear z0 z1); obtain ⟨z0, z1⟩ := HS.out.cells2 10 rfl; (try clear v0 v1); obtain ⟨v0, v1⟩ := HS.out.cells2 0 rfl))
 replace HS : Aside0 (St w none w52 [(g13, 26, #[.int .i64 nx, .slice (some ⟨g2, 0, none⟩) l2.length c2]), (g12, 37, #[.int .i64 xn.f0, .int .i64 xn.f1, .int .i64 xn.f2, .int .i64 xn.f3, .int .i64 xn.f4, .string xn.f5, .slice N6 xn.f6.length cN6, .int .i64 xn.f7, .int .i64 xn.f8]), (g11, 37, #[.int .i64 xb.f0, .int .i64 xb.f1, .int .i64 xb.f2, .int .i64 xb.f3, .int .i64 xb.f4, .string xb.f5, .slice B6 xb.f6.length cB6, .int .i64 xb.f7, .int .i64 xb.f8]), (g10, 37, #[.int .i64 xa.f0, .int .i64 xa.f1, .int .i64 xa.f2, .int .i64 xa.f3, .int .i64 xa.f4, .string xa.f5, .slice A6 xa.f6.length cA6, .int .i64 xa.f7, .int .i64 xa.f8]), (g9, 33, #[.int .i64 pat, .string nmt, .int .i64 pit, .int .i64 prt]), (g8, 33, #[.int .i64 pas, .string nms, .int .i64 pis, .int .i64 prs]), (g7, 94, #[.int .i64 0, .string ⟨#[]⟩]), (g6, 26, #[.int .i64 0, .slice none 0 0]), (g5, 98, #[.int .i64 kd, .string path, .string tgt, .int .i64 n, .int .i64 m, .string data]), (g4, 29, #[.int .i64 u, .int .i64 g, .slice Ag gs.length cg]), (g3, 26, #[.int .i64 nx, .slice A l.length c])]) := HS
 clear HY
 have HY := HY2
 clear HY2
 have HGy := zM HOw2.out.1
 have HNy := zM (St.ne_of HS.out HOw2.out.2)
 have HBl := zM (fun p hp => blk_lt (HS.out.box p hp))
 have HLo := zM HS.out.grown.size
 have HNl := zM (fun p hp => And.intro (HNy.out p hp) (HBl.out p hp))
 have HBy := zM (fun b (hb : (Value.slice (some ⟨g2, 0, none⟩) l2.length c2).ownBlock = some b) => (Or.inl (by simp only [Value.ownBlock, Option.some.injEq] at hb; exact hb.symm) : b = g2 ∨ w52.heap.size ≤ b))
 have hne_ : g3 ∉ [g6, g7, g2] := by simpa using (⟨HS.out.ne 10 7 rfl rfl (by decide), HS.out.ne 10 6 rfl rfl (by decide), HNy.out _ (List.mem_of_getElem? (i := 10) rfl)⟩ : g3 ≠ g6 ∧ g3 ≠ g7 ∧ g3 ≠ g2)
 have hz0 := Kx.box HS.out 10 rfl hne_ 0 rfl
 have hz1 := Kx.box HS.out 10 rfl hne_ 1 rfl
 clear hne_
 have hne_ : g13 ∉ [g6, g7, g2] := by simpa using (⟨HS.out.ne 0 7 rfl rfl (by decide), HS.out.ne 0 6 rfl rfl (by decide), HNy.out _ (List.mem_of_getElem? (i := 0) rfl)⟩ : g13 ≠ g6 ∧ g13 ≠ g7 ∧ g13 ≠ g2)
 have hv0 := Kx.box HS.out 0 rfl hne_ 0 rfl
 have hv1 := Kx.box HS.out 0 rfl hne_ 1 rfl
 clear hne_
 have hne_ : g8 ∉ [g6, g7, g2] := by simpa using (⟨HS.out.ne 5 7 rfl rfl (by decide), HS.out.ne 5 6 rfl rfl (by decide), HNy.out _ (List.mem_of_getElem? (i := 5) rfl)⟩ : g8 ≠ g6 ∧ g8 ≠ g7 ∧ g8 ≠ g2)
 have hs0 := Kx.box HS.out 5 rfl hne_ 0 rfl
 have hs1 := Kx.box HS.out 5 rfl hne_ 1 rfl
 have hs2 := Kx.box HS.out 5 rfl hne_ 2 rfl
 have hs3 := Kx.box HS.out 5 rfl hne_ 3 rfl
 clear hne_
 try simp only [Act.put, List.setIfInBounds_toArray, List.set_cons_zero, List.set_cons_succ]
 refine wp_region_mix (KxS [g6, g7, g2] w52) [([0, 1, 2, 3, 4, 5], 6), ([], 7), ([8, 9], 10), ([], 11)] [] (by kernel_rfl) (by kernel_rfl) (fun _ _ _ _ h => h) (KxS.drew _ _) ?_
 have hK := KxS.drew [g6, g7, g2] w52
 replace HS := zM (HS.out.drew)
 refine mix_seg ?_
 simp only [pickO, List.map]
 repeat (go_big_quiet_step (fail))
 refine wpQuiet_nil ?_
 go_wp2_with (go_at_call 104; refine (drop_any _ nx pas nms _ l2 (VolO.keep HY.out (grown_below (below_drew1 (Below.refl _ _)) none)) (HA2.out.2.small (by have := HKk.out; omega)) (there_of HSr.out)).mono ?_; rintro e w60 ⟨v60, ld, qd, rfl, hq, hl, hv', hg, hat⟩; have HA3 := zM (dropWf HA2.out.1 HA2.out.2 (there_of HSr.out) hq hl); have HG := zM hg; have HBz := zM (ownM2 HBy.out hK.size hat); have n0_ := zM (St.growM HS.out hg g2 w52.heap.size HGy.out HLo.out HBy.out HNl.out); have n1_ := zM (hv'); clear HS HY; have HS := n0_; have HY := n1_; clear n0_ n1_; clear hq hl hv' hg hat)
 refine ⟨hK.grow HG.out (fun b hb => (HBy.out b hb).imp (fun e => by simp [e]) id), fun hK => mix_seg ?_⟩
 clear HG
 simp only [pickO, List.map]
 repeat (go_big_quiet_step (fail))
 refine wpQuiet_nil ?_
 have HBy := HBz; clear HBz; go_wp2_with (go_at_call 99; refine (try_do _ (k + 1) nx _ l (HV.out.keep HS.out.grown) HW.out (HZ.out.mono (Nat.le_succ _)) nx _ _ HY.out HA3.out.1 HA3.out.2.1 (by have := HKk.out; omega)).mono ?_; rintro e w61 ⟨nxf, vf, lf, rf, rfl, hvf, hwf, hzf, hb⟩; obtain ⟨Af, cf, rfl⟩ := Kd.R_slice hvf; have HVf := zM hvf; have HWf := zM hwf; have HZf := zM hzf; have HG := zM hb; replace HS := zM (HS.out.calls hb); clear hvf hwf hzf hb)
 refine ⟨hK.grow HG.out (by simp), fun hK => mix_seg ?_⟩
 clear HG
 simp only [pickO, List.map]
 repeat (go_big_quiet_step (fail))
 refine wpQuiet_nil ?_
 refine sS 7 [.int .i64 nxf, .slice Af lf.length cf] HS ?_; intro w62 n0_ n1_; replace HVf := zM (R_box HVf.out (HS.out.get 7 rfl) (by decide) n1_.out); clear HS; have HS := n0_; have HG := n1_; clear n0_ n1_
 refine ⟨hK.grow HG.out (by simp), fun hK => mix_seg ?_⟩
 clear HG
 simp only [pickO, List.map]
 repeat (go_big_quiet_step (fail))
 refine wpQuiet_nil ?_
 refine sS 6 [.int .i64 rf, .string ⟨#[]⟩] HS ?_; intro w63 n0_ n1_; replace HVf := zM (R_box HVf.out (HS.out.get 6 rfl) (by decide) n1_.out); clear HS; have HS := n0_; have HG := n1_; clear n0_ n1_
 refine ⟨hK.grow HG.out (by simp), fun hK => mix_end ?_⟩
 clear HG
 simp only [pickO, List.map]
 repeat (go_big_quiet_step (fail))
 refine wpQuiet_nil ?_
 go_wp2
 refine rVR 7 6 HS ?_
 exact doNew HVf.out HWf.out HZf.out HS.out.grown
end Go.Proofs.YtiopcpkfjikfdaaGreatDoor.PFnClean
