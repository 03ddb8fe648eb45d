/- By hand: what the law reaches, walked as plain functions. -/
import Derived.Test.YtiopcpkfjikfdaaGreatDoorYA
set_option maxHeartbeats 8000000
set_option maxRecDepth 100000
namespace Go.Proofs.YtiopcpkfjikfdaaGreatDoor.PFnClean
open Go.RowKit Go.Proofs.YtiopcpkfjikfdaaGreatDoorW.PrintWords Go.Proofs.YtiopcpkfjikfdaaGreatDoorW.PrintLast Go.Proofs.YtiopcpkfjikfdaaGreatDoorW.PrintMore
open Go.Proofs.YtiopcpkfjikfdaaGreatDoorW.Mix
open Go.Proofs.YtiopcpkfjikfdaaGreatDoor.Mth Go.Proofs.YtiopcpkfjikfdaaGreatDoor.Str
set_option linter.unusedVariables false
set_option linter.unusedSimpArgs false
theorem make_any (w : World) (nx : Int) (v : Value) (l : List S37) (k : Nat) (hv : VolO w v l) (hz : Sz k l) (hk : k ≤ 1000000) (hw : WfD nx l) (u g : Int) (Ag : Option Addr) (cg : Nat) (gs : List Int) (hg : CredC w Ag cg gs) (kd : Int) (path tgt data : ByteArray) (n m : Int) (hp : path.size ≤ 1048576) (ht : tgt.size ≤ 1048000) :
  Calls Tryz.prog 83 #[.agg #[.int .i64 nx, v], .agg #[.int .i64 u, .int .i64 g, .slice Ag gs.length cg], .agg #[.int .i64 kd, .string path, .string tgt, .int .i64 n, .int .i64 m, .string data]] w (DoP w k) := by
 have hu26 := Tryz.underlying26
 have hu29 := Tryz.underlying29
 have hu33 := Tryz.underlying33
 have hu37 := Tryz.underlying37
 have hu94 := Tryz.underlying94
 have hu98 := Tryz.underlying98
 have hu24 := Tryz.underlying24
 have hu35 := Tryz.underlying35
 have hs := hz.small (by omega)
 obtain ⟨A, c, rfl, hc, hC⟩ := hv.reads
 have hm := hC.2.1
 have HL := zM hs.1
 have HV := zM hv
 have HW := zM hw
 have HSm := zM hs
 have HZ := zM hz
 have HKk := zM hk
 have HGc := zM hg
 have HS := zM (St.start w none)
 have HPth := zM hp
 have HTgt := zM ht
 clear hv hs hw hz hg hc hC hk
 go_enter Tryz.func83, Tryz.ntmps83
 go_upto_region 1 with (first | ((with_reducible refine gD 3 rfl ?_); refine sB #[.int .i64 nx, .slice A l.length c] 26 HS ?_; clear HS; intro g3 w3 HS _) | ((with_reducible refine gD 4 rfl ?_); refine sB #[.int .i64 u, .int .i64 g, .slice Ag gs.length cg] 29 HS ?_; clear HS; intro g4 w4 HS _) | ((with_reducible refine gD 5 rfl ?_); refine sB #[.int .i64 kd, .string path, .string tgt, .int .i64 n, .int .i64 m, .string data] 98 HS ?_; clear HS; intro g5 w5 HS _) | ((with_reducible refine gD 6 rfl ?_); refine sB #[.int .i64 0, .slice none 0 0] 26 HS ?_; clear HS; intro g6 w6 HS _) | ((with_reducible refine gD 7 rfl ?_); refine sB #[.int .i64 0, .string ⟨#[]⟩] 94 HS ?_; clear HS; intro g7 w7 HS _; (try clear z0 z1); obtain ⟨z0, z1⟩ := HS.out.cells2 4 rfl; (try clear y0 y1 y2); obtain ⟨y0, y1, y2⟩ := HS.out.cells3 3 rfl; (try clear p0 p1 p2 p3 p4 p5); obtain ⟨p0, p1, p2, p3, p4, p5⟩ := HS.out.cells6 2 rfl))
 try simp only [Act.put, List.setIfInBounds_toArray, List.set_cons_zero, List.set_cons_succ]
 generalize Value.agg #[.int .i64 kd, .string path, .string tgt, .int .i64 n, .int .i64 m, .string data] = vc_
 go_cut [32] (fun v_ w' => ∃ bb : Bool, v_ = .bool bb ∧ Aside0 (bb = false → kd = 10 → 1 ≤ tgt.size) ∧ Aside0 (St w none w' [(g7, 94, #[.int .i64 0, .string ⟨#[]⟩]), (g6, 26, #[.int .i64 0, .slice none 0 0]), (g5, 98, #[.int .i64 kd, .string path, .string tgt, .int .i64 n, .int .i64 m, .string data]), (g4, 29, #[.int .i64 u, .int .i64 g, .slice Ag gs.length cg]), (g3, 26, #[.int .i64 nx, .slice A l.length c])]))
 case first =>
  cases b1 : tgB tgt <;> cases b2 : rgB n 0 2047 <;> cases k1 : (kd == 10)
  all_goals
   have k1n := congrArg not k1
   change (kd != 10) = _ at k1n
   simp only [Bool.not_true, Bool.not_false] at k1n
   go_wp2_with (first | (go_at_call 75; (with_reducible refine (targetS_any tgt (Nat.le_trans HTgt.out (by decide)) _).mono ?_); rintro e w8 ⟨rfl, hb⟩; rw [b1]; replace HS := zM (HS.out.call hb.below); clear hb; (try clear p0 p1 p2 p3 p4 p5); obtain ⟨p0, p1, p2, p3, p4, p5⟩ := HS.out.cells6 2 rfl) | (go_at_call 48; (with_reducible refine (l1In_any n 0 2047 _).mono ?_); rintro e w9 ⟨rfl, hb⟩; rw [b2]; replace HS := zM (HS.out.call hb.below); clear hb; (try clear p0 p1 p2 p3 p4 p5); obtain ⟨p0, p1, p2, p3, p4, p5⟩ := HS.out.cells6 2 rfl))
   go_meet
   case rel => exact ⟨_, rfl, ⟨fun h1 h2 => by first | exact tg_size b1 | (cases h1; done) | (rw [h2] at k1; exact absurd k1 (by decide))⟩, HS⟩
 case rest =>
 clear HS
 obtain ⟨bb, rfl, HTs, HS⟩ := hcut
 obtain ⟨w10, hw_⟩ : ∃ q, q = wc := ⟨_, rfl⟩
 subst hw_
 (try clear z0 z1); obtain ⟨z0, z1⟩ := HS.out.cells2 4 rfl
 (try clear y0 y1 y2); obtain ⟨y0, y1, y2⟩ := HS.out.cells3 3 rfl
 (try clear p0 p1 p2 p3 p4 p5); obtain ⟨p0, p1, p2, p3, p4, p5⟩ := HS.out.cells6 2 rfl
 go_upto_if 32 with (fail)
 cases bb
 case true =>
  as_aux_lemma =>
   go_wp2_with (first | ((with_reducible refine gS 26 6 rfl ?_); refine sS 1 [.int .i64 nx, .slice A l.length c] HS ?_; clear HS; intro w12 HS _) | ((with_reducible refine gS 94 7 rfl ?_); refine sS 0 [.int .i64 22, .string ⟨#[]⟩] HS ?_; clear HS; intro w13 HS _))
   refine rVR 1 0 HS ?_
   exact doSame HV.out HW.out HZ.out HS.out.grown
 case false =>
 go_upto_if 44 with (first | (go_at_call 97; refine (new7_any _ nx _ l (HV.out.keep HS.out.grown) HSm.out HW.out u g Ag cg gs (HGc.out.keep HS.out.grown) path HPth.out).mono ?_; rintro e w11 ⟨pat, nmt, pit, prt, pqt, rfl, hq, hb⟩; have HQt := zM hq; replace HS := zM (HS.out.calls hb); clear hq hb; ) | ((with_reducible refine gD 8 rfl ?_); refine sB #[.int .i64 0, .string ⟨#[]⟩, .int .i64 0, .int .i64 0] 33 HS ?_; clear HS; intro g8 w8 HS _) | ((with_reducible refine gS 33 8 rfl ?_); refine sS 0 [.int .i64 pat, .string nmt, .int .i64 pit, .int .i64 prt] HS ?_; clear HS; intro w12 HS _; (try clear t0 t1 t2 t3); obtain ⟨t0, t1, t2, t3⟩ := HS.out.cells4 0 rfl; (try clear z0 z1); obtain ⟨z0, z1⟩ := HS.out.cells2 5 rfl))
 cases c1 : (pqt != 0)
 case true =>
  as_aux_lemma =>
   go_wp2_with (first | ((with_reducible refine gS 26 6 rfl ?_); refine sS 2 [.int .i64 nx, .slice A l.length c] HS ?_; clear HS; intro w14 HS _) | ((with_reducible refine gS 94 7 rfl ?_); refine sS 1 [.int .i64 pqt, .string ⟨#[]⟩] HS ?_; clear HS; intro w15 HS _))
   refine rVR 2 1 HS ?_
   exact doSame HV.out HW.out HZ.out HS.out.grown
 case false =>
 have HK := zM (HQt.out (by simpa using c1))
 go_upto_if 55 with (first | (go_at_call 98; obtain ⟨A6, cA6, hN, hNd⟩ := node_any w nx pat _ l HV.out HSm.out HK.out.1.1; obtain ⟨x, hx⟩ : ∃ q, q = nodeI l (pat) := ⟨_, rfl⟩; rw [show iAt l (inoI l (pat)) = nodeI l (pat) from rfl, ← hx] at hN hNd; refine (hNd _ HS.out.grown).mono ?_; rintro e w13 ⟨rfl, hb⟩; have HNx := zM hN; have HXx := zM hx; replace HS := zM (HS.out.calls hb); clear hb hx hNd hN; ) | ((with_reducible refine gD 10 rfl ?_); refine sB #[.int .i64 0, .int .i64 0, .int .i64 0, .int .i64 0, .int .i64 0, .string ⟨#[]⟩, .slice none 0 0, .int .i64 0, .int .i64 0] 37 HS ?_; clear HS; intro g10 w10 HS _) | ((with_reducible refine gS 37 10 rfl ?_); refine sS 0 [.int .i64 x.f0, .int .i64 x.f1, .int .i64 x.f2, .int .i64 x.f3, .int .i64 x.f4, .string x.f5, .slice A6 x.f6.length cA6, .int .i64 x.f7, .int .i64 x.f8] HS ?_; clear HS; intro w14 HS _; (try clear ee0 ee1 ee2 ee3 ee4 ee5 ee6 ee7 ee8); obtain ⟨ee0, ee1, ee2, ee3, ee4, ee5, ee6, ee7, ee8⟩ := HS.out.cells9 0 rfl; (try clear y0 y1 y2); obtain ⟨y0, y1, y2⟩ := HS.out.cells3 5 rfl) | (go_at_call 56; refine (mayS_any u g Ag cg gs 3 x A6 cA6 _ (HGc.out.keep HS.out.grown).1 HGc.out.2 (Kd.R_reads' (HNx.out.keep HS.out.grown)).2.2 (Kd.R_reads' HNx.out).2.1).mono ?_; rintro e w15 ⟨rfl, hb⟩; generalize mayX u g gs 3 x = my; replace HS := zM (HS.out.call hb); clear hb; (try clear ee0 ee1 ee2 ee3 ee4 ee5 ee6 ee7 ee8); obtain ⟨ee0, ee1, ee2, ee3, ee4, ee5, ee6, ee7, ee8⟩ := HS.out.cells9 0 rfl; (try clear z0 z1); obtain ⟨z0, z1⟩ := HS.out.cells2 6 rfl; (try clear y0 y1 y2); obtain ⟨y0, y1, y2⟩ := HS.out.cells3 5 rfl; (try clear p0 p1 p2 p3 p4 p5); obtain ⟨p0, p1, p2, p3, p4, p5⟩ := HS.out.cells6 4 rfl))
 cases my
 case false =>
  as_aux_lemma =>
   go_wp2_with (first | ((with_reducible refine gS 26 6 rfl ?_); refine sS 3 [.int .i64 nx, .slice A l.length c] HS ?_; clear HS; intro w17 HS _) | ((with_reducible refine gS 94 7 rfl ?_); refine sS 2 [.int .i64 13, .string ⟨#[]⟩] HS ?_; clear HS; intro w18 HS _))
   refine rVR 3 2 HS ?_
   exact doSame HV.out HW.out HZ.out HS.out.grown
 case true =>
 go_upto_region 9 with (fail)
 try simp only [Act.put, List.setIfInBounds_toArray, List.set_cons_zero, List.set_cons_succ]
 go_cut [72] (fun v_ w' => ∃ b_ : Bool, v_ = .bool b_ ∧ Aside0 (b_ = false → nx < 100000) ∧ w15 = w')
 case first =>
  by_cases d1 : (12 : Int) ≤ (x.f6.length : Int) <;> by_cases d2 : (24 : Int) ≤ (l.length : Int) <;> by_cases d3 : (100000 : Int) ≤ nx
  all_goals
   go_wp2
   go_meet
   case rel => exact ⟨_, rfl, ⟨fun h => by first | omega | exact absurd h (by simp)⟩, rfl⟩
 case rest =>
 obtain ⟨b4, rfl, HNx, e_⟩ := hcut
 subst e_
 go_upto_if 72 with (fail)
 cases b4
 case true =>
  as_aux_lemma =>
   go_wp2_with (first | ((with_reducible refine gS 26 6 rfl ?_); refine sS 3 [.int .i64 nx, .slice A l.length c] HS ?_; clear HS; intro w17 HS _) | ((with_reducible refine gS 94 7 rfl ?_); refine sS 2 [.int .i64 28, .string ⟨#[]⟩] HS ?_; clear HS; intro w18 HS _))
   refine rVR 3 2 HS ?_
   exact doSame HV.out HW.out HZ.out HS.out.grown
 case false =>
 go_upto_if 86 with (first | ((with_reducible refine gD 11 rfl ?_); refine sB #[.int .i64 0, .int .i64 0, .int .i64 0, .int .i64 0, .int .i64 0, .string ⟨#[]⟩, .slice none 0 0, .int .i64 0, .int .i64 0] 37 HS ?_; clear HS; intro g11 w11 HS _) | ((with_reducible refine gS 37 11 rfl ?_); refine sS 0 [.int .i64 nx, .int .i64 1, .int .i64 n, .int .i64 u, .int .i64 g, .string ⟨#[]⟩, .slice none 0 0, .int .i64 0, .int .i64 0] HS ?_; clear HS; intro w17 HS _; (try clear r0 r1 r2 r3 r4 r5 r6 r7 r8); obtain ⟨r0, r1, r2, r3, r4, r5, r6, r7, r8⟩ := HS.out.cells9 0 rfl; (try clear p0 p1 p2 p3 p4 p5); obtain ⟨p0, p1, p2, p3, p4, p5⟩ := HS.out.cells6 5 rfl))
 try simp only [Act.put, List.setIfInBounds_toArray, List.set_cons_zero, List.set_cons_succ]
 go_cut [] (fun w' => ∃ q1 : Int, Aside0 (q1 ≠ 3) ∧ Aside0 (St w none w' [(g11, 37, #[.int .i64 nx, .int .i64 q1, .int .i64 n, .int .i64 u, .int .i64 g, .string ⟨#[]⟩, .slice none 0 0, .int .i64 0, .int .i64 0]), (g10, 37, #[.int .i64 x.f0, .int .i64 x.f1, .int .i64 x.f2, .int .i64 x.f3, .int .i64 x.f4, .string x.f5, .slice A6 x.f6.length cA6, .int .i64 x.f7, .int .i64 x.f8]), (g8, 33, #[.int .i64 pat, .string nmt, .int .i64 pit, .int .i64 prt]), (g7, 94, #[.int .i64 0, .string ⟨#[]⟩]), (g6, 26, #[.int .i64 0, .slice none 0 0]), (g5, 98, #[.int .i64 kd, .string path, .string tgt, .int .i64 n, .int .i64 m, .string data]), (g4, 29, #[.int .i64 u, .int .i64 g, .slice Ag gs.length cg]), (g3, 26, #[.int .i64 nx, .slice A l.length c])]))
 case first =>
  cases k1 : (kd == 1)
  all_goals
   go_wp2_with (first | ((with_reducible refine gS 3 87 rfl ?_); refine sS 0 [.int .i64 2] HS ?_; clear HS; intro w18 HS _))
   go_meet
   case rel => exact ⟨_, ⟨by decide⟩, HS⟩
 case rest =>
 clear HS
 obtain ⟨q1, HQ1, HS⟩ := hcut
 obtain ⟨w20, hw_⟩ : ∃ q, q = wc := ⟨_, rfl⟩
 subst hw_
 (try clear r0 r1 r2 r3 r4 r5 r6 r7 r8); obtain ⟨r0, r1, r2, r3, r4, r5, r6, r7, r8⟩ := HS.out.cells9 0 rfl
 (try clear p0 p1 p2 p3 p4 p5); obtain ⟨p0, p1, p2, p3, p4, p5⟩ := HS.out.cells6 5 rfl
 go_upto_if 90 with (fail)
 try simp only [Act.put, List.setIfInBounds_toArray, List.set_cons_zero, List.set_cons_succ]
 go_cut [] (fun w' => ∃ (q1 q2 : Int) (d5 : ByteArray), Aside0 ((q1 = 3 → 1 ≤ d5.size) ∧ d5.size ≤ 1048000) ∧ Aside0 (St w none w' [(g11, 37, #[.int .i64 nx, .int .i64 q1, .int .i64 q2, .int .i64 u, .int .i64 g, .string d5, .slice none 0 0, .int .i64 0, .int .i64 0]), (g10, 37, #[.int .i64 x.f0, .int .i64 x.f1, .int .i64 x.f2, .int .i64 x.f3, .int .i64 x.f4, .string x.f5, .slice A6 x.f6.length cA6, .int .i64 x.f7, .int .i64 x.f8]), (g8, 33, #[.int .i64 pat, .string nmt, .int .i64 pit, .int .i64 prt]), (g7, 94, #[.int .i64 0, .string ⟨#[]⟩]), (g6, 26, #[.int .i64 0, .slice none 0 0]), (g5, 98, #[.int .i64 kd, .string path, .string tgt, .int .i64 n, .int .i64 m, .string data]), (g4, 29, #[.int .i64 u, .int .i64 g, .slice Ag gs.length cg]), (g3, 26, #[.int .i64 nx, .slice A l.length c])]))
 case first =>
  cases k1 : (kd == 10)
  case true =>
   go_wp2_with (first | ((with_reducible refine gS 3 91 rfl ?_); refine sS 0 [.int .i64 3] HS ?_; clear HS; intro w21 HS _; (try clear r0 r1 r2 r3 r4 r5 r6 r7 r8); obtain ⟨r0, r1, r2, r3, r4, r5, r6, r7, r8⟩ := HS.out.cells9 0 rfl) | ((with_reducible refine gS 3 92 rfl ?_); refine sS 0 [.int .i64 511] HS ?_; clear HS; intro w22 HS _; (try clear r0 r1 r2 r3 r4 r5 r6 r7 r8); obtain ⟨r0, r1, r2, r3, r4, r5, r6, r7, r8⟩ := HS.out.cells9 0 rfl; (try clear p0 p1 p2 p3 p4 p5); obtain ⟨p0, p1, p2, p3, p4, p5⟩ := HS.out.cells6 5 rfl) | ((with_reducible refine gS 9 95 rfl ?_); refine sS 0 [.string tgt] HS ?_; clear HS; intro w23 HS _))
   go_meet
   case rel => exact ⟨_, _, _, ⟨fun _ => (by have hk : kd = 10 := (by simpa using k1); first | exact HTs.out hk | exact HTs.out rfl hk | exact HTs.out trivial hk), HTgt.out⟩, HS⟩
  case false =>
   go_wp2
   go_meet
   case rel => exact ⟨q1, n, ⟨#[]⟩, ⟨fun h => absurd h HQ1.out, by decide⟩, HS⟩
 case rest =>
 clear HS HQ1
 obtain ⟨q1, q2, d5, HQ1, HS⟩ := hcut
 obtain ⟨w24, hw_⟩ : ∃ q, q = wc := ⟨_, rfl⟩
 subst hw_
 (try clear r0 r1 r2 r3 r4 r5 r6 r7 r8); obtain ⟨r0, r1, r2, r3, r4, r5, r6, r7, r8⟩ := HS.out.cells9 0 rfl
 (try clear ee0 ee1 ee2 ee3 ee4 ee5 ee6 ee7 ee8); obtain ⟨ee0, ee1, ee2, ee3, ee4, ee5, ee6, ee7, ee8⟩ := HS.out.cells9 1 rfl
 go_upto_if 99 with (fail)
 try simp only [Act.put, List.setIfInBounds_toArray, List.set_cons_zero, List.set_cons_succ]
 go_cut [] (fun w' => ∃ (q2 q4 : Int), Aside0 (St w none w' [(g11, 37, #[.int .i64 nx, .int .i64 q1, .int .i64 q2, .int .i64 u, .int .i64 q4, .string d5, .slice none 0 0, .int .i64 0, .int .i64 0]), (g10, 37, #[.int .i64 x.f0, .int .i64 x.f1, .int .i64 x.f2, .int .i64 x.f3, .int .i64 x.f4, .string x.f5, .slice A6 x.f6.length cA6, .int .i64 x.f7, .int .i64 x.f8]), (g8, 33, #[.int .i64 pat, .string nmt, .int .i64 pit, .int .i64 prt]), (g7, 94, #[.int .i64 0, .string ⟨#[]⟩]), (g6, 26, #[.int .i64 0, .slice none 0 0]), (g5, 98, #[.int .i64 kd, .string path, .string tgt, .int .i64 n, .int .i64 m, .string data]), (g4, 29, #[.int .i64 u, .int .i64 g, .slice Ag gs.length cg]), (g3, 26, #[.int .i64 nx, .slice A l.length c])]))
 case first =>
  cases k1 : (Go.bits .and .i64 x.f2 1024 != 0) <;> cases k2 : (q1 == 2)
  all_goals
   go_wp2_with (first | ((with_reducible refine gS 3 102 rfl ?_); refine sS 0 [.int .i64 x.f4] HS ?_; clear HS; intro w25 HS _; (try clear r0 r1 r2 r3 r4 r5 r6 r7 r8); obtain ⟨r0, r1, r2, r3, r4, r5, r6, r7, r8⟩ := HS.out.cells9 0 rfl) | ((with_reducible refine gS 3 109 rfl ?_); refine sS 0 [_] HS ?_; clear HS; intro w26 HS _))
   go_meet
   case rel => exact ⟨_, _, HS⟩
 case rest =>
 clear HS
 obtain ⟨q2, q4, HS⟩ := hcut
 have hnw : wrap64 (nx + 1) = nx + 1 := by have h1 : nx < 100000 := (by first | exact HNx.out | exact HNx.out rfl | exact HNx.out trivial); have h2 := HW.out.nx2; exact w64 (by omega) (by omega)
 obtain ⟨w27, hw_⟩ : ∃ q, q = wc := ⟨_, rfl⟩
 subst hw_
 (try clear z0 z1); obtain ⟨z0, z1⟩ := HS.out.cells2 7 rfl
 go_upto_region 24 with (first | (go_at_call 66; refine (copy_any _ nx _ l (HV.out.keep HS.out.grown) HSm.out).mono ?_; rintro e w28 ⟨vy, rfl, hY, hb⟩; obtain ⟨gy, cy, rfl⟩ := (volO_copy hY).some_ HW.out.head; have H10 := zM (show g10 ≠ gy from by have h1 := blk_lt (HS.out.get 1 rfl); have h2 := Kd.S_base hY gy rfl; omega); have H11 := zM (show g11 ≠ gy from by have h1 := blk_lt (HS.out.get 0 rfl); have h2 := Kd.S_base hY gy rfl; omega); have HGy := zM (Nat.le_trans HS.out.grown.size (Kd.S_base hY gy rfl)); have HY := zM (volO_copy hY); replace HS := zM (HS.out.calls hb); clear hb hY) | ((with_reducible refine gD 12 rfl ?_); refine sB #[.int .i64 0, .slice none 0 0] 26 HS ?_; intro g12 w12 n0_ n1_; have hy_ := zM (VolO.keep HY.out (grown_below n1_.out.1 none)); clear HY; have HY := hy_; clear hy_; clear HS; have HS := n0_; clear n0_ n1_) | ((with_reducible refine gS 26 12 rfl ?_); refine sS 0 [.int .i64 nx, .slice (some ⟨gy, 0, none⟩) l.length cy] HS ?_; intro w29 n0_ n1_; replace HY := zM (R_box HY.out (HS.out.get 0 rfl) (by decide) n1_.out); clear HS; have HS := n0_; clear n0_ n1_; (try clear v0 v1); obtain ⟨v0, v1⟩ := HS.out.cells2 0 rfl) | ((with_reducible refine gS 3 115 rfl ?_); refine st_store (u := .int .i64 (nx + 1)) rfl rfl 3 (.tmp 115) (.tmp 114) rfl 0 [.int .i64 (nx + 1)] rfl (by first | rfl | (show Value.int .i64 (wrap64 (nx + 1)) = _; rw [hnw])) rfl (by kernel_rfl) rfl HS.out rfl rfl ?_; intro w30 n0_ n1_; replace HY := zM (R_box HY.out (HS.out.get 0 rfl) (by decide) n1_.out); clear HS; have HS := n0_; clear n0_ n1_))
 replace HS : Aside0 (St w none w30 [(g12, 26, #[.int .i64 (nx + 1), .slice (some ⟨gy, 0, none⟩) l.length cy]), (g11, 37, #[.int .i64 nx, .int .i64 q1, .int .i64 q2, .int .i64 u, .int .i64 q4, .string d5, .slice none 0 0, .int .i64 0, .int .i64 0]), (g10, 37, #[.int .i64 x.f0, .int .i64 x.f1, .int .i64 x.f2, .int .i64 x.f3, .int .i64 x.f4, .string x.f5, .slice A6 x.f6.length cA6, .int .i64 x.f7, .int .i64 x.f8]), (g8, 33, #[.int .i64 pat, .string nmt, .int .i64 pit, .int .i64 prt]), (g7, 94, #[.int .i64 0, .string ⟨#[]⟩]), (g6, 26, #[.int .i64 0, .slice none 0 0]), (g5, 98, #[.int .i64 kd, .string path, .string tgt, .int .i64 n, .int .i64 m, .string data]), (g4, 29, #[.int .i64 u, .int .i64 g, .slice Ag gs.length cg]), (g3, 26, #[.int .i64 nx, .slice A l.length c])]) := HS
 have HBl := zM (fun p hp => blk_lt (HS.out.box p hp))
 have HLo := zM HS.out.grown.size
 have HNy := zM (St.ne_typ HS.out (Kd.R_typed HY.out gy rfl) (by simp only [List.forall_mem_cons]; exact ⟨fun h => absurd h (by decide), fun _ => H11.out, fun _ => H10.out, fun h => absurd h (by decide), fun h => absurd h (by decide), fun h => absurd h (by decide), fun h => absurd h (by decide), fun h => absurd h (by decide), fun h => absurd h (by decide), by simp⟩))
 have HNl := zM (fun p hp => And.intro (HNy.out p hp) (HBl.out p hp))
 have HBy := zM (fun b (hb : (Value.slice (some ⟨gy, 0, none⟩) l.length cy).ownBlock = some b) => (Or.inl (by simp only [Value.ownBlock, Option.some.injEq] at hb; exact hb.symm) : b = gy ∨ w30.heap.size ≤ b))
 have HMw := zM (makeWf HW.out HZ.out HK.out.1 HK.out.2.1 HK.out.2.2 (⟨nx, q1, q2, u, q4, d5, [], 0, 0⟩ : S37) rfl rfl HQ1.out.1 HQ1.out.2 HKk.out)
 have hne_ : g3 ∉ [g6, g7, gy] := by simpa using (⟨HS.out.ne 8 5 rfl rfl (by decide), HS.out.ne 8 4 rfl rfl (by decide), HNy.out _ (List.mem_of_getElem? (i := 8) rfl)⟩ : g3 ≠ g6 ∧ g3 ≠ g7 ∧ g3 ≠ gy)
 have hz0 := Kx.box HS.out 8 rfl hne_ 0 rfl
 have hz1 := Kx.box HS.out 8 rfl hne_ 1 rfl
 clear hne_
 have hne_ : g12 ∉ [g6, g7, gy] := by simpa using (⟨HS.out.ne 0 5 rfl rfl (by decide), HS.out.ne 0 4 rfl rfl (by decide), HNy.out _ (List.mem_of_getElem? (i := 0) rfl)⟩ : g12 ≠ g6 ∧ g12 ≠ g7 ∧ g12 ≠ gy)
 have hv0 := Kx.box HS.out 0 rfl hne_ 0 rfl
 have hv1 := Kx.box HS.out 0 rfl hne_ 1 rfl
 clear hne_
 have hne_ : g11 ∉ [g6, g7, gy] := by simpa using (⟨HS.out.ne 1 5 rfl rfl (by decide), HS.out.ne 1 4 rfl rfl (by decide), HNy.out _ (List.mem_of_getElem? (i := 1) rfl)⟩ : g11 ≠ g6 ∧ g11 ≠ g7 ∧ g11 ≠ gy)
 have hr0 := Kx.box HS.out 1 rfl hne_ 0 rfl
 have hr1 := Kx.box HS.out 1 rfl hne_ 1 rfl
 have hr2 := Kx.box HS.out 1 rfl hne_ 2 rfl
 have hr3 := Kx.box HS.out 1 rfl hne_ 3 rfl
 have hr4 := Kx.box HS.out 1 rfl hne_ 4 rfl
 have hr5 := Kx.box HS.out 1 rfl hne_ 5 rfl
 have hr6 := Kx.box HS.out 1 rfl hne_ 6 rfl
 have hr7 := Kx.box HS.out 1 rfl hne_ 7 rfl
 have hr8 := Kx.box HS.out 1 rfl hne_ 8 rfl
 clear hne_
 have hne_ : g8 ∉ [g6, g7, gy] := by simpa using (⟨HS.out.ne 3 5 rfl rfl (by decide), HS.out.ne 3 4 rfl rfl (by decide), HNy.out _ (List.mem_of_getElem? (i := 3) rfl)⟩ : g8 ≠ g6 ∧ g8 ≠ g7 ∧ g8 ≠ gy)
 have ht0 := Kx.box HS.out 3 rfl hne_ 0 rfl
 have ht1 := Kx.box HS.out 3 rfl hne_ 1 rfl
 have ht2 := Kx.box HS.out 3 rfl hne_ 2 rfl
 have ht3 := Kx.box HS.out 3 rfl hne_ 3 rfl
 clear hne_
 try simp only [Act.put, List.setIfInBounds_toArray, List.set_cons_zero, List.set_cons_succ]
 refine wp_region_mix (KxS [g6, g7, gy] w30) [([0, 1, 2, 4, 5, 6, 7, 8, 9], 3), ([], 10), ([], 11), ([12, 13], 14), ([], 15)] [] (by kernel_rfl) (by kernel_rfl) (fun _ _ _ _ h => h) (KxS.drew _ _) ?_
 have hK := KxS.drew [g6, g7, gy] w30
 replace HS := zM (HS.out.drew)
 refine mix_seg ?_
 simp only [pickO, List.map]
 repeat (go_big_quiet_step (fail))
 refine wpQuiet_nil ?_
 go_wp2_with (go_at_call 101; refine (with_any _ (nx + 1) _ l (VolO.keep HY.out (grown_below (below_drew1 (Below.refl _ _)) none)) HSm.out (⟨nx, q1, q2, u, q4, d5, [], 0, 0⟩ : S37) none 0 (Kd.R_nil _ _ _ _ _)).mono ?_; rintro e w51 ⟨v51, rfl, hv', hg, hat⟩; have HG := zM hg; have HBz := zM (ownM1 HBy.out hK.size hat); have n0_ := zM (St.growM HS.out hg gy w30.heap.size HGy.out HLo.out HBy.out HNl.out); have n1_ := zM (hv'); clear HS HY; have HS := n0_; have HY := n1_; clear n0_ n1_; clear hv' hg hat)
 refine ⟨hK.grow HG.out (fun b hb => (HBy.out b hb).imp (fun e => by simp [e]) id), fun hK => mix_seg ?_⟩
 clear HG
 simp only [pickO, List.map]
 repeat (go_big_quiet_step (fail))
 refine wpQuiet_nil ?_
 have HBy := HBz; clear HBz; go_wp2_with (go_at_call 100; refine (add_any _ (nx + 1) pat nx nmt _ _ HY.out HMw.out.1 HMw.out.2.1).mono ?_; rintro e w52 ⟨v52, ds, rfl, hp, hv', hg, hat⟩; have HP := zM hp; have HG := zM hg; have HBz := zM (ownM2 HBy.out hK.size hat); have n0_ := zM (St.growM HS.out hg gy w30.heap.size HGy.out HLo.out HBy.out HNl.out); have n1_ := zM (hv'); clear HS HY; have HS := n0_; have HY := n1_; clear n0_ n1_; clear hp hv' hg hat); have HA2 := zM (HMw.out.2.2 ds HP.out)
 refine ⟨hK.grow HG.out (fun b hb => (HBy.out b hb).imp (fun e => by simp [e]) id), fun hK => mix_seg ?_⟩
 clear HG
 simp only [pickO, List.map]
 repeat (go_big_quiet_step (fail))
 refine wpQuiet_nil ?_
 have HBy := HBz; clear HBz; go_wp2_with (go_at_call 99; refine (try_do _ (k + 1) nx _ l (HV.out.keep HS.out.grown) HW.out (HZ.out.mono (Nat.le_succ _)) (nx + 1) _ _ HY.out HA2.out.1 HA2.out.2 (by have := HKk.out; omega)).mono ?_; rintro e w53 ⟨nxf, vf, lf, rf, rfl, hvf, hwf, hzf, hb⟩; obtain ⟨Af, cf, rfl⟩ := Kd.R_slice hvf; have HVf := zM hvf; have HWf := zM hwf; have HZf := zM hzf; have HG := zM hb; replace HS := zM (HS.out.calls hb); clear hvf hwf hzf hb)
 refine ⟨hK.grow HG.out (by simp), fun hK => mix_seg ?_⟩
 clear HG
 simp only [pickO, List.map]
 repeat (go_big_quiet_step (fail))
 refine wpQuiet_nil ?_
 refine sS 5 [.int .i64 nxf, .slice Af lf.length cf] HS ?_; intro w54 n0_ n1_; replace HVf := zM (R_box HVf.out (HS.out.get 5 rfl) (by decide) n1_.out); clear HS; have HS := n0_; have HG := n1_; clear n0_ n1_
 refine ⟨hK.grow HG.out (by simp), fun hK => mix_seg ?_⟩
 clear HG
 simp only [pickO, List.map]
 repeat (go_big_quiet_step (fail))
 refine wpQuiet_nil ?_
 refine sS 4 [.int .i64 rf, .string ⟨#[]⟩] HS ?_; intro w55 n0_ n1_; replace HVf := zM (R_box HVf.out (HS.out.get 4 rfl) (by decide) n1_.out); clear HS; have HS := n0_; have HG := n1_; clear n0_ n1_
 refine ⟨hK.grow HG.out (by simp), fun hK => mix_end ?_⟩
 clear HG
 simp only [pickO, List.map]
 repeat (go_big_quiet_step (fail))
 refine wpQuiet_nil ?_
 go_wp2
 refine rVR 5 4 HS ?_
 exact doNew HVf.out HWf.out HZf.out HS.out.grown
end Go.Proofs.YtiopcpkfjikfdaaGreatDoor.PFnClean
