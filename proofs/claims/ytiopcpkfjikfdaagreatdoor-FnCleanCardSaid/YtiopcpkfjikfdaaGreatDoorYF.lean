/- By hand: what the law reaches, walked as plain functions. -/
import Derived.Test.YtiopcpkfjikfdaaGreatDoorYD
import Derived.Test.YtiopcpkfjikfdaaGreatDoorYC
import Derived.Test.YtiopcpkfjikfdaaGreatDoorYB
import Derived.Deep.CutRange
set_option maxHeartbeats 8000000
set_option maxRecDepth 100000
namespace Go.Proofs.YtiopcpkfjikfdaaGreatDoor.PFnClean
open Go.RowKit Go.Proofs.YtiopcpkfjikfdaaGreatDoorW.PrintWords Go.Proofs.YtiopcpkfjikfdaaGreatDoorW.PrintLast Go.Proofs.YtiopcpkfjikfdaaGreatDoorW.PrintMore
open Go.Proofs.YtiopcpkfjikfdaaGreatDoorW.Mix
open Go.Proofs.YtiopcpkfjikfdaaGreatDoor.Mth Go.Proofs.YtiopcpkfjikfdaaGreatDoor.Str
set_option linter.unusedVariables false
set_option linter.unusedSimpArgs false
def TellP (w : World) (e : Ending) (w' : World) : Prop := ∃ (r : Int) (s : ByteArray), e = .returned (.agg #[.int .i64 r, .string s]) ∧ w.grownBy w' none
theorem tell_any (w : World) (nx : Int) (v : Value) (l : List S37) (k : Nat) (hv : VolO w v l) (hz : Sz k l) (hk : k ≤ 1000000) (hw : WfD nx l) (u g : Int) (Ag : Option Addr) (cg : Nat) (gs : List Int) (hg : CredC w Ag cg gs) (kd : Int) (path tgt data : ByteArray) (n m : Int) (hp : path.size ≤ 1048576) :
  Calls Tryz.prog 89 #[.agg #[.int .i64 nx, v], .agg #[.int .i64 u, .int .i64 g, .slice Ag gs.length cg], .agg #[.int .i64 kd, .string path, .string tgt, .int .i64 n, .int .i64 m, .string data]] w (TellP w) := by
 have hu26 := Tryz.underlying26
 have hu29 := Tryz.underlying29
 have hu33 := Tryz.underlying33
 have hu37 := Tryz.underlying37
 have hu94 := Tryz.underlying94
 have hu98 := Tryz.underlying98
 have hu35 := Tryz.underlying35
 have hs := hz.small (by omega)
 obtain ⟨A, c, rfl, hc, hC⟩ := hv.reads
 have hm := hC.2.1
 have HL := zM hs.1
 have HV := zM hv
 have HW := zM hw
 have HSm := zM hs
 have HZ := zM hz
 have HKk := zM hk
 have HGc := zM hg
 have HS := zM (St.start w none)
 have HPth := zM hp
 clear hv hs hw hz hg hc hC hk
 have hu59 := Tryz.underlying59
 have hu22 := Tryz.underlying22
 go_enter Tryz.func89, Tryz.ntmps89
 go_upto_if 18 with (first | ((with_reducible refine gD 3 rfl ?_); refine sB #[.int .i64 nx, .slice A l.length c] 26 HS ?_; clear HS; intro g3 w3 HS _) | ((with_reducible refine gD 4 rfl ?_); refine sB #[.int .i64 u, .int .i64 g, .slice Ag gs.length cg] 29 HS ?_; clear HS; intro g4 w4 HS _) | ((with_reducible refine gD 5 rfl ?_); refine sB #[.int .i64 kd, .string path, .string tgt, .int .i64 n, .int .i64 m, .string data] 98 HS ?_; clear HS; intro g5 w5 HS _) | ((with_reducible refine gD 6 rfl ?_); refine sB #[.int .i64 0, .string ⟨#[]⟩] 94 HS ?_; clear HS; intro g6 w6 HS _; (try clear p0 p1 p2 p3 p4 p5); obtain ⟨p0, p1, p2, p3, p4, p5⟩ := HS.out.cells6 1 rfl; (try clear z0 z1); obtain ⟨z0, z1⟩ := HS.out.cells2 3 rfl))
 cases k18 : (kd == 18)
 case true =>
  as_aux_lemma =>
   go_wp2
   clear z0 z1
   have hne_ : g3 ∉ [g6] := by simpa using HS.out.ne 3 0 rfl rfl (by decide)
   have hz0 := Kx.box HS.out 3 rfl hne_ 0 rfl
   have hz1 := Kx.box HS.out 3 rfl hne_ 1 rfl
   clear hne_
   try simp only [Act.put, List.setIfInBounds_toArray, List.set_cons_zero, List.set_cons_succ]
   refine wp_region_mix (KxS [g6] w6) [([0, 1, 2, 5], 3), ([4], 6), ([], 7), ([8, 9], 10)] [] (by kernel_rfl) (by kernel_rfl) (fun _ _ _ _ h => h) (KxS.drew _ _) ?_
   have hK := KxS.drew [g6] w6
   replace HS := zM (HS.out.drew)
   refine mix_seg ?_
   simp only [pickO, List.map]
   repeat (go_big_quiet_step (fail))
   refine wpQuiet_nil ?_
   go_wp2_with (go_at_call 108; refine (dec_any _ _).mono ?_; rintro e w30 ⟨r1, rfl, hz, hb⟩; have HG := zM hb; have Zr1 := zM hz; replace HS := zM (HS.out.calls hb); clear hb hz); have hz1 : (r1).size + ((⟨#[32]⟩ : ByteArray)).size ≤ 9223372036854775807 := (by (have h32 : (⟨#[32]⟩ : ByteArray).size = 1 := rfl); have := Zr1.out; (simp only [ByteArray.size_append, h32]) <;> omega)
   refine ⟨hK.grow HG.out (by simp), fun hK => mix_seg ?_⟩
   clear HG
   simp only [pickO, List.map]
   repeat (go_big_quiet_step (fail))
   refine wpQuiet_nil ?_
   go_wp2_with (go_at_call 52; refine (bytesS_any nx A c l _ (Kd.R_reads' (HV.out.keep HS.out.grown)).2.2 (Kd.R_reads' HV.out).2.1 HSm.out).mono ?_; rintro e w31 ⟨rfl, hb⟩; have HG := zM (grown_below hb none); generalize ((totalN l : Nat) : Int) = tn; replace HS := zM (HS.out.call hb); clear hb)
   refine ⟨hK.grow HG.out (by simp), fun hK => mix_seg ?_⟩
   clear HG
   simp only [pickO, List.map]
   repeat (go_big_quiet_step (fail))
   refine wpQuiet_nil ?_
   go_wp2_with (go_at_call 108; refine (dec_any _ _).mono ?_; rintro e w32 ⟨r2, rfl, hz, hb⟩; have HG := zM hb; have Zr2 := zM hz; replace HS := zM (HS.out.calls hb); clear hb hz); have hz2 : ((r1 ++ (⟨#[32]⟩ : ByteArray))).size + (r2).size ≤ 9223372036854775807 := (by (have h32 : (⟨#[32]⟩ : ByteArray).size = 1 := rfl); have := Zr1.out; have := Zr2.out; (simp only [ByteArray.size_append, h32]) <;> omega)
   refine ⟨hK.grow HG.out (by simp), fun hK => mix_seg ?_⟩
   clear HG
   simp only [pickO, List.map]
   repeat (go_big_quiet_step (fail))
   refine wpQuiet_nil ?_
   refine sS 0 [.int .i64 0, .string _] HS ?_; intro w33 n0_ n1_; clear HS; have HS := n0_; have HG := n1_; clear n0_ n1_
   refine ⟨hK.grow HG.out (by simp), fun hK => mix_end ?_⟩
   clear HG
   simp only [pickO, List.map]
   repeat (go_big_quiet_step (fail))
   refine wpQuiet_nil ?_
   go_wp2
   refine rC 0 HS ?_
   unfold TellP
   exact ⟨_, _, rfl, HS.out.grown⟩
 case false =>
 go_upto_region 3 with (fail)
 try simp only [Act.put, List.setIfInBounds_toArray, List.set_cons_zero, List.set_cons_succ]
 generalize Value.agg #[.int .i64 kd, .string path, .string tgt, .int .i64 n, .int .i64 m, .string data] = vc_
 go_cut [52] from 52 to 52 (fun v_ w' => ∃ b_ : Bool, v_ = .bool b_ ∧ Aside0 (St w none w' [(g6, 94, #[.int .i64 0, .string ⟨#[]⟩]), (g5, 98, #[.int .i64 kd, .string path, .string tgt, .int .i64 n, .int .i64 m, .string data]), (g4, 29, #[.int .i64 u, .int .i64 g, .slice Ag gs.length cg]), (g3, 26, #[.int .i64 nx, .slice A l.length c])]))
 case first =>
  as_aux_lemma =>
   by_cases k14 : kd = 14
   ·subst k14
    cases n0 : (n != 0) <;> cases n1 : (n != 1)
    all_goals
     go_wp2
     go_meet
     case rel => exact ⟨_, rfl, HS⟩
   have m14 : (kd == 14) = false := by simpa using k14
   by_cases k17 : kd = 17
   ·subst k17
    go_wp2_with (go_at_call 48; (with_reducible refine (l1In_any n 0 7 _).mono ?_); rintro e w8 ⟨rfl, hb⟩; generalize rgB n 0 7 = b1; replace HS := zM (HS.out.call hb.below); clear hb)
    go_meet
    case rel => exact ⟨_, rfl, HS⟩
   have m17 : (kd == 17) = false := by simpa using k17
   clear k14 k17
   go_wp2
   go_meet
   case rel => exact ⟨_, rfl, HS⟩
 case rest =>
 clear HS
 obtain ⟨b1, rfl, HS⟩ := hcut
 obtain ⟨w9, hw_⟩ : ∃ q, q = wc := ⟨_, rfl⟩
 subst hw_
 (try clear z0 z1); obtain ⟨z0, z1⟩ := HS.out.cells2 3 rfl
 (try clear y0 y1 y2); obtain ⟨y0, y1, y2⟩ := HS.out.cells3 2 rfl
 (try clear p0 p1 p2 p3 p4 p5); obtain ⟨p0, p1, p2, p3, p4, p5⟩ := HS.out.cells6 1 rfl
 go_upto_if 52 with (fail)
 cases b1
 case true =>
  as_aux_lemma =>
   go_wp2_with (first | ((with_reducible refine gS 94 6 rfl ?_); refine sS 0 [.int .i64 22, .string ⟨#[]⟩] HS ?_; clear HS; intro w10 HS _))
   refine rC 0 HS ?_
   unfold TellP
   exact ⟨_, _, rfl, HS.out.grown⟩
 case false =>
 go_upto_region 5 with (fail)
 try simp only [Act.put, List.setIfInBounds_toArray, List.set_cons_zero, List.set_cons_succ]
 go_cut [7] from 7 to 7 (fun v_ w' => ∃ (g7 : Nat) (pas : Int) (nms : ByteArray) (pis prs : Int), v_ = .pointer (some ⟨g7, 0, none⟩) ∧ Aside0 (prs = 0 → inoI l pis < l.length) ∧ Aside0 (St w none w' [(g7, 33, #[.int .i64 pas, .string nms, .int .i64 pis, .int .i64 prs]), (g6, 94, #[.int .i64 0, .string ⟨#[]⟩]), (g5, 98, #[.int .i64 kd, .string path, .string tgt, .int .i64 n, .int .i64 m, .string data]), (g4, 29, #[.int .i64 u, .int .i64 g, .slice Ag gs.length cg]), (g3, 26, #[.int .i64 nx, .slice A l.length c])]))
 case first =>
  as_aux_lemma =>
   have hq : (kd != 11) = false ∨ ((kd != 11) = true ∧ (kd != 14) = true) ∨ ((kd != 11) = true ∧ (kd != 14) = false ∧ (n == 0) = true) ∨ ((kd != 11) = true ∧ (kd != 14) = false ∧ (n == 0) = false) := by
    cases (kd != 11) <;> cases (kd != 14) <;> cases (n == 0) <;> simp
   rcases hq with q11 | ⟨q11, q14⟩ | ⟨q11, q14, q0⟩ | ⟨q11, q14, q0⟩
   all_goals
    go_wp2_with (first | (go_at_call 102; refine (there_any _ nx _ l (HV.out.keep HS.out.grown) HSm.out HW.out u g Ag cg gs (HGc.out.keep HS.out.grown) path _ HPth.out).mono ?_; rintro e w10 ⟨pas, nms, pis, prs, rfl, hq, hb⟩; have HQs := zM hq; replace HS := zM (HS.out.calls hb); clear hq hb; have HT := zM (fun h => (spot_there HW.out HQs.out h).1)) | ((with_reducible refine gD 7 rfl ?_); refine sB #[.int .i64 0, .string ⟨#[]⟩, .int .i64 0, .int .i64 0] 33 HS ?_; clear HS; intro g7 w7 HS _) | ((with_reducible refine gS 33 7 rfl ?_); refine sS 0 [.int .i64 pas, .string nms, .int .i64 pis, .int .i64 prs] HS ?_; clear HS; intro w11 HS _))
    go_meet
    case rel => exact ⟨_, _, _, _, _, rfl, HT, HS⟩
 case rest =>
 clear HS
 obtain ⟨g7, pas, nms, pis, prs, rfl, HT, HS⟩ := hcut
 obtain ⟨w12, hw_⟩ : ∃ q, q = wc := ⟨_, rfl⟩
 subst hw_
 (try clear z0 z1); obtain ⟨z0, z1⟩ := HS.out.cells2 4 rfl
 (try clear y0 y1 y2); obtain ⟨y0, y1, y2⟩ := HS.out.cells3 3 rfl
 (try clear p0 p1 p2 p3 p4 p5); obtain ⟨p0, p1, p2, p3, p4, p5⟩ := HS.out.cells6 2 rfl
 (try clear s0 s1 s2 s3); obtain ⟨s0, s1, s2, s3⟩ := HS.out.cells4 0 rfl
 go_upto_if 74 with (fail)
 cases c1 : (prs != 0)
 case true =>
  as_aux_lemma =>
   go_wp2_with (first | ((with_reducible refine gS 94 6 rfl ?_); refine sS 1 [.int .i64 prs, .string ⟨#[]⟩] HS ?_; clear HS; intro w13 HS _))
   refine rC 1 HS ?_
   unfold TellP
   exact ⟨_, _, rfl, HS.out.grown⟩
 case false =>
 have HI := zM (HT.out (by simpa using c1))
 go_upto_region 9 with (first | (go_at_call 98; obtain ⟨A6, cA6, hN, hNd⟩ := node_any w nx pis _ l HV.out HSm.out HI.out; obtain ⟨x, hx⟩ : ∃ q, q = nodeI l (pis) := ⟨_, rfl⟩; rw [show iAt l (inoI l (pis)) = nodeI l (pis) from rfl, ← hx] at hN hNd; refine (hNd _ HS.out.grown).mono ?_; rintro e w13 ⟨rfl, hb⟩; have HNx := zM hN; have HXx := zM hx; replace HS := zM (HS.out.calls hb); clear hb hx hNd hN; ) | ((with_reducible refine gD 8 rfl ?_); refine sB #[.int .i64 0, .int .i64 0, .int .i64 0, .int .i64 0, .int .i64 0, .string ⟨#[]⟩, .slice none 0 0, .int .i64 0, .int .i64 0] 37 HS ?_; clear HS; intro g8 w8 HS _) | ((with_reducible refine gS 37 8 rfl ?_); refine sS 0 [.int .i64 x.f0, .int .i64 x.f1, .int .i64 x.f2, .int .i64 x.f3, .int .i64 x.f4, .string x.f5, .slice A6 x.f6.length cA6, .int .i64 x.f7, .int .i64 x.f8] HS ?_; clear HS; intro w14 HS _; (try clear q0 q1 q2 q3 q4 q5 q6 q7 q8); obtain ⟨q0, q1, q2, q3, q4, q5, q6, q7, q8⟩ := HS.out.cells9 0 rfl; (try clear z0 z1); obtain ⟨z0, z1⟩ := HS.out.cells2 5 rfl; (try clear y0 y1 y2); obtain ⟨y0, y1, y2⟩ := HS.out.cells3 4 rfl; (try clear p0 p1 p2 p3 p4 p5); obtain ⟨p0, p1, p2, p3, p4, p5⟩ := HS.out.cells6 3 rfl))
 have HXm := zM (show x ∈ l from by rw [HXx.out]; exact (there_ex HI.out).1)
 by_cases k4 : kd = 4
 ·subst k4
  cases kn : (x.f1 == 2)
  case true =>
   as_aux_lemma =>
    go_wp2_with (first | ((with_reducible refine gS 94 6 rfl ?_); refine sS 2 [.int .i64 21, .string ⟨#[]⟩] HS ?_; clear HS; intro w15 HS _))
    refine rC 2 HS ?_
    unfold TellP
    exact ⟨_, _, rfl, HS.out.grown⟩
  case false =>
  go_upto_if 94 with (first | (go_at_call 56; refine (mayS_any u g Ag cg gs 4 x A6 cA6 _ (HGc.out.keep HS.out.grown).1 HGc.out.2 (Kd.R_reads' (HNx.out.keep HS.out.grown)).2.2 (Kd.R_reads' HNx.out).2.1).mono ?_; rintro e w15 ⟨rfl, hb⟩; generalize mayX u g gs 4 x = my; replace HS := zM (HS.out.call hb); clear hb; (try clear q0 q1 q2 q3 q4 q5 q6 q7 q8); obtain ⟨q0, q1, q2, q3, q4, q5, q6, q7, q8⟩ := HS.out.cells9 0 rfl; (try clear p0 p1 p2 p3 p4 p5); obtain ⟨p0, p1, p2, p3, p4, p5⟩ := HS.out.cells6 3 rfl))
  cases my
  case false =>
   as_aux_lemma =>
    go_wp2_with (first | ((with_reducible refine gS 94 6 rfl ?_); refine sS 2 [.int .i64 13, .string ⟨#[]⟩] HS ?_; clear HS; intro w16 HS _))
    refine rC 2 HS ?_
    unfold TellP
    exact ⟨_, _, rfl, HS.out.grown⟩
  case true =>
  by_cases n0 : n < 0
  ·
   as_aux_lemma =>
    go_wp2_with (first | ((with_reducible refine gS 94 6 rfl ?_); refine sS 2 [.int .i64 22, .string ⟨#[]⟩] HS ?_; clear HS; intro w16 HS _))
    refine rC 2 HS ?_
    unfold TellP
    exact ⟨_, _, rfl, HS.out.grown⟩
  by_cases m0 : m < 0
  ·
   as_aux_lemma =>
    go_wp2_with (first | ((with_reducible refine gS 94 6 rfl ?_); refine sS 2 [.int .i64 22, .string ⟨#[]⟩] HS ?_; clear HS; intro w16 HS _))
    refine rC 2 HS ?_
    unfold TellP
    exact ⟨_, _, rfl, HS.out.grown⟩
  obtain ⟨a, rfl⟩ : ∃ a : Nat, n = (a : Int) := ⟨n.toNat, by omega⟩
  have HX5 := zM (HSm.out.2.2.1 x HXm.out)
  have hx5 : x.f5.size ≤ 9223372036854775807 := by have := HX5.out; omega
  go_wp2_with (first | (refine Kd.R_lit (Kd.int .u8) (w0 := w) w.heap.size 5 rfl (N := 105) rfl (xs := ([] : List Int)) (inner := []) (ok := fun _ => True) (okp := fun _ => True) ?hr (Reps.none _ _) (fun _ hk => hk) trivial (below_grown HS.out.grown) HS.out.grown.size (by simp) ?_; (case hr => first | (go_simp; done) | (go_simp; rfl)); intro v17 w17 hR _ hg _; have HR := zM hR; replace HS := zM (HS.out.calls hg); clear hR hg; (try clear p0 p1 p2 p3 p4 p5); obtain ⟨p0, p1, p2, p3, p4, p5⟩ := HS.out.cells6 3 rfl))
  obtain ⟨N, hN⟩ : ∃ N, N = max a x.f5.size := ⟨_, rfl⟩
  have HNn := zM (show a ≤ N ∧ x.f5.size ≤ N from by omega)
  clear hN n0 m0
  go_loopg [10, 11] (N - a) (fun kq v10 v11 w' => ∃ (i : Nat) (xs : List Int) (u10 : Value), u10 = v10 ∧ v11 = .int .i64 (i : Int) ∧ Aside0 (i + kq = N ∧ xs.length ≤ i) ∧ Aside0 (Kd.R (Kd.int .u8) 5 w' w.heap.size (fun _ => True) u10 xs) ∧ Aside0 (St w none w' [(g8, 37, #[.int .i64 x.f0, .int .i64 x.f1, .int .i64 x.f2, .int .i64 x.f3, .int .i64 x.f4, .string x.f5, .slice A6 x.f6.length cA6, .int .i64 x.f7, .int .i64 x.f8]), (g7, 33, #[.int .i64 pas, .string nms, .int .i64 pis, .int .i64 prs]), (g6, 94, #[.int .i64 0, .string ⟨#[]⟩]), (g5, 98, #[.int .i64 4, .string path, .string tgt, .int .i64 (a : Int), .int .i64 m, .string data]), (g4, 29, #[.int .i64 u, .int .i64 g, .slice Ag gs.length cg]), (g3, 26, #[.int .i64 nx, .slice A l.length c])]))
  case atStart => exact ⟨a, [], _, rfl, rfl, ⟨by have := HNn.out; omega, by simp⟩, HR, HS⟩
  case round =>
   clear HS HR
   obtain ⟨i, xs, u10, rfl, rfl, HK, HR, HS⟩ := hrel
   (try clear p0 p1 p2 p3 p4 p5); obtain ⟨p0, p1, p2, p3, p4, p5⟩ := HS.out.cells6 3 rfl
   (try clear q0 q1 q2 q3 q4 q5 q6 q7 q8); obtain ⟨q0, q1, q2, q3, q4, q5, q6, q7, q8⟩ := HS.out.cells9 0 rfl
   by_cases h1 : (i : Int) < (x.f5.size : Int)
   ·by_cases h2 : (i : Int) < wrap64 ((a : Int) + m)
    ·cases gk with
     | zero => have := HK.out; have := HNn.out; omega
     | succ k1 =>
     have HI2 := zM h1
     have hw1 : wrap64 ((i : Int) + 1) = ((i + 1 : Nat) : Int) := by have := HX5.out; rw [w64 (by omega) (by omega)]; omega
     go_wp2_with (first | (refine gate_builtin (b := .append) (xs := #[.tmp 124, .tmp 129]) rfl ?_; at_builtin; refine Kd.R_append (Kd.int .u8) (w0 := w) w.heap.size rfl (.tmp 124) (.tmp 129) 22 5 (.int .u8 0) 1 rfl hu22 info5 rfl (by decide) (by decide) u10 xs _ [_] (fun _ => True) (fun _ => False) rfl rfl rfl (fun _ h => h.elim) (fun _ _ => trivial) HR.out (below_grown HS.out.grown) HS.out.grown.size (by have := HK.out; have := HI2.out; have := HX5.out; omega) ?_; intro v20 w20 hR _ hg _; have n0_ := zM (HS.out.growT hg (fun b hb => .inr (Kd.R_base HR.out b hb)) (Kd.R_typed HR.out) rfl); have n1_ := zM (hR); clear HS HR; have HS := n0_; have HR := n1_; clear n0_ n1_; clear hR hg))
     go_roundg k1
     case measure => have := HK.out; omega
     case rel => exact ⟨i + 1, _, _, rfl, by first | rfl | rw [hw1], ⟨by have := HK.out; omega, by rw [List.length_append, List.length_singleton]; have := HK.out; omega⟩, HR, HS⟩
    ·have hcv := own_string (P := Tryz.prog) Tryz.underlying22 Tryz.underlying5 Tryz.underlying9 (Kd.own_of_R HR.out)
     as_aux_lemma =>
      go_wp2_with (first | ((with_reducible refine gS 94 6 rfl ?_); refine sS 2 [.int .i64 0, .string (strOfNums xs)] HS ?_; clear HS; intro w30 HS _))
      refine rC 2 HS ?_
      unfold TellP
      exact ⟨_, _, rfl, HS.out.grown⟩
   ·have hcv := own_string (P := Tryz.prog) Tryz.underlying22 Tryz.underlying5 Tryz.underlying9 (Kd.own_of_R HR.out)
    as_aux_lemma =>
     go_wp2_with (first | ((with_reducible refine gS 94 6 rfl ?_); refine sS 2 [.int .i64 0, .string (strOfNums xs)] HS ?_; clear HS; intro w30 HS _))
     refine rC 2 HS ?_
     unfold TellP
     exact ⟨_, _, rfl, HS.out.grown⟩
 by_cases k11 : kd = 11
 ·subst k11
  cases k3 : (x.f1 != 3)
  case true =>
   as_aux_lemma =>
    go_wp2_with (first | ((with_reducible refine gS 94 6 rfl ?_); refine sS 2 [.int .i64 22, .string ⟨#[]⟩] HS ?_; clear HS; intro w15 HS _))
    refine rC 2 HS ?_
    unfold TellP
    exact ⟨_, _, rfl, HS.out.grown⟩
  case false =>
   as_aux_lemma =>
    go_wp2_with (first | ((with_reducible refine gS 94 6 rfl ?_); refine sS 2 [.int .i64 0, .string x.f5] HS ?_; clear HS; intro w15 HS _))
    refine rC 2 HS ?_
    unfold TellP
    exact ⟨_, _, rfl, HS.out.grown⟩
 by_cases k13 : kd = 13
 ·subst k13
  cases kn : (x.f1 == 2)
  case false =>
   as_aux_lemma =>
    go_wp2_with (first | ((with_reducible refine gS 94 6 rfl ?_); refine sS 2 [.int .i64 20, .string ⟨#[]⟩] HS ?_; clear HS; intro w15 HS _))
    refine rC 2 HS ?_
    unfold TellP
    exact ⟨_, _, rfl, HS.out.grown⟩
  case true =>
  go_upto_if 151 with (first | (go_at_call 56; refine (mayS_any u g Ag cg gs 4 x A6 cA6 _ (HGc.out.keep HS.out.grown).1 HGc.out.2 (Kd.R_reads' (HNx.out.keep HS.out.grown)).2.2 (Kd.R_reads' HNx.out).2.1).mono ?_; rintro e w15 ⟨rfl, hb⟩; generalize mayX u g gs 4 x = my; replace HS := zM (HS.out.call hb); clear hb; (try clear q0 q1 q2 q3 q4 q5 q6 q7 q8); obtain ⟨q0, q1, q2, q3, q4, q5, q6, q7, q8⟩ := HS.out.cells9 0 rfl))
  cases my
  case false =>
   as_aux_lemma =>
    go_wp2_with (first | ((with_reducible refine gS 94 6 rfl ?_); refine sS 2 [.int .i64 13, .string ⟨#[]⟩] HS ?_; clear HS; intro w16 HS _))
    refine rC 2 HS ?_
    unfold TellP
    exact ⟨_, _, rfl, HS.out.grown⟩
  case true =>
  have HX6 := zM (HSm.out.2.1 x HXm.out)
  have hx6 : x.f6.length ≤ 9223372036854775807 := by have := HX6.out; omega
  go_wp2
  go_loopg [12, 13] x.f6.length (fun kq v12 v13 w' => ∃ (j : Nat) (t : ByteArray), v12 = .string t ∧ v13 = .int .i64 (j : Int) ∧ Aside0 (j + kq = x.f6.length) ∧ Aside0 (t.size ≤ j * 1048577) ∧ Aside0 (St w none w' [(g8, 37, #[.int .i64 x.f0, .int .i64 x.f1, .int .i64 x.f2, .int .i64 x.f3, .int .i64 x.f4, .string x.f5, .slice A6 x.f6.length cA6, .int .i64 x.f7, .int .i64 x.f8]), (g7, 33, #[.int .i64 pas, .string nms, .int .i64 pis, .int .i64 prs]), (g6, 94, #[.int .i64 0, .string ⟨#[]⟩]), (g5, 98, #[.int .i64 13, .string path, .string tgt, .int .i64 n, .int .i64 m, .string data]), (g4, 29, #[.int .i64 u, .int .i64 g, .slice Ag gs.length cg]), (g3, 26, #[.int .i64 nx, .slice A l.length c])]))
  case atStart => exact ⟨0, ⟨#[]⟩, rfl, rfl, ⟨by simp⟩, ⟨by decide⟩, HS⟩
  case round =>
   clear HS
   obtain ⟨j, t, rfl, rfl, HK, HTz, HS⟩ := hrel
   (try clear q0 q1 q2 q3 q4 q5 q6 q7 q8); obtain ⟨q0, q1, q2, q3, q4, q5, q6, q7, q8⟩ := HS.out.cells9 0 rfl
   by_cases hj : j < x.f6.length
   ·cases gk with
    | zero => have := HK.out; omega
    | succ k1 =>
    have hji : (j : Int) < (x.f6.length : Int) := by omega
    have hw1 : wrap64 ((j : Int) + 1) = ((j + 1 : Nat) : Int) := by have := HX6.out; rw [w64 (by omega) (by omega)]; omega
    have HJ := zM (show j * 1048577 ≤ 1048576 * 1048577 from Nat.mul_le_mul_right _ (by have := HX6.out; omega))
    have HDs := zM (HSm.out.2.2.2 x HXm.out _ (List.getElem_mem hj))
    obtain ⟨ad, rfl, hD⟩ := HNx.out.dir j hj
    have HD := zM hD
    clear hD
    generalize x.f6[j] = d at HD HDs
    obtain ⟨d0, d1⟩ := HD.out.keep HS.out.grown
    have h47 : (⟨#[47]⟩ : ByteArray).size = 1 := rfl
    have hz1 : t.size + (⟨#[47]⟩ : ByteArray).size ≤ 9223372036854775807 := by have := HTz.out; have := HJ.out; rw [h47]; omega
    have hz2 : (t ++ (⟨#[47]⟩ : ByteArray)).size + d.f0.size ≤ 9223372036854775807 := by have := HTz.out; have := HJ.out; have := HDs.out; rw [ByteArray.size_append, h47]; omega
    have hz3 : t.size + d.f0.size ≤ 9223372036854775807 := by have := HTz.out; have := HJ.out; have := HDs.out; omega
    have H47 := zM h47
    clear h47
    by_cases j0 : (0 : Int) < (j : Int)
    all_goals
     go_wp2
     go_roundg k1
     case measure => have := HK.out; omega
     case rel => exact ⟨j + 1, _, rfl, by first | rfl | rw [hw1], ⟨by have := HK.out; omega⟩, ⟨by have := HTz.out; have := HDs.out; simp only [ByteArray.size_append, H47.out]; omega⟩, HS⟩
   ·
    as_aux_lemma =>
     go_wp2_with (first | ((with_reducible refine gS 94 6 rfl ?_); refine sS 2 [.int .i64 0, .string t] HS ?_; clear HS; intro w30 HS _))
     refine rC 2 HS ?_
     unfold TellP
     exact ⟨_, _, rfl, HS.out.grown⟩
 by_cases k14 : kd = 14
 ·subst k14
  as_aux_lemma =>
   go_wp2
   clear z0 z1 q0 q1 q2 q3 q4 q5 q6 q7 q8
   have hne_ : g3 ∉ [g6] := by simpa using HS.out.ne 5 2 rfl rfl (by decide)
   have hz0 := Kx.box HS.out 5 rfl hne_ 0 rfl
   have hz1 := Kx.box HS.out 5 rfl hne_ 1 rfl
   clear hne_
   have hne_ : g8 ∉ [g6] := by simpa using HS.out.ne 0 2 rfl rfl (by decide)
   have hq0 := Kx.box HS.out 0 rfl hne_ 0 rfl
   have hq1 := Kx.box HS.out 0 rfl hne_ 1 rfl
   have hq2 := Kx.box HS.out 0 rfl hne_ 2 rfl
   have hq3 := Kx.box HS.out 0 rfl hne_ 3 rfl
   have hq4 := Kx.box HS.out 0 rfl hne_ 4 rfl
   have hq5 := Kx.box HS.out 0 rfl hne_ 5 rfl
   have hq6 := Kx.box HS.out 0 rfl hne_ 6 rfl
   have hq7 := Kx.box HS.out 0 rfl hne_ 7 rfl
   have hq8 := Kx.box HS.out 0 rfl hne_ 8 rfl
   clear hne_
   try simp only [Act.put, List.setIfInBounds_toArray, List.set_cons_zero, List.set_cons_succ]
   refine wp_region_mix (KxS [g6] w14) [([0, 1, 4, 5, 9, 10, 14, 15, 19, 20, 21, 26, 27, 28], 2), ([3], 6), ([7, 8], 11), ([12, 13], 16), ([17, 18], 22), ([], 23), ([24, 25], 29), ([30, 31], 32)] [] (by kernel_rfl) (by kernel_rfl) (fun _ _ _ _ h => h) (KxS.drew _ _) ?_
   have hK := KxS.drew [g6] w14
   replace HS := zM (HS.out.drew)
   refine mix_seg ?_
   simp only [pickO, List.map]
   repeat (go_big_quiet_step (fail))
   refine wpQuiet_nil ?_
   go_wp2_with (go_at_call 108; refine (dec_any _ x.f1).mono ?_; rintro e w30 ⟨r1, rfl, hz, hb⟩; have HG := zM hb; have Zr1 := zM hz; replace HS := zM (HS.out.calls hb); clear hb hz); have hz1 : (r1).size + ((⟨#[32]⟩ : ByteArray)).size ≤ 9223372036854775807 := (by (have h32 : (⟨#[32]⟩ : ByteArray).size = 1 := rfl); have := Zr1.out; (simp only [ByteArray.size_append, h32]) <;> omega)
   refine ⟨hK.grow HG.out (by simp), fun hK => mix_seg ?_⟩
   clear HG
   simp only [pickO, List.map]
   repeat (go_big_quiet_step (fail))
   refine wpQuiet_nil ?_
   go_wp2_with (go_at_call 108; refine (dec_any _ x.f2).mono ?_; rintro e w31 ⟨r2, rfl, hz, hb⟩; have HG := zM hb; have Zr2 := zM hz; replace HS := zM (HS.out.calls hb); clear hb hz); have hz2 : ((r1 ++ (⟨#[32]⟩ : ByteArray))).size + (r2).size ≤ 9223372036854775807 := (by (have h32 : (⟨#[32]⟩ : ByteArray).size = 1 := rfl); have := Zr1.out; have := Zr2.out; (simp only [ByteArray.size_append, h32]) <;> omega); have hz3 : (((r1 ++ (⟨#[32]⟩ : ByteArray)) ++ r2)).size + ((⟨#[32]⟩ : ByteArray)).size ≤ 9223372036854775807 := (by (have h32 : (⟨#[32]⟩ : ByteArray).size = 1 := rfl); have := Zr1.out; have := Zr2.out; (simp only [ByteArray.size_append, h32]) <;> omega)
   refine ⟨hK.grow HG.out (by simp), fun hK => mix_seg ?_⟩
   clear HG
   simp only [pickO, List.map]
   repeat (go_big_quiet_step (fail))
   refine wpQuiet_nil ?_
   go_wp2_with (go_at_call 108; refine (dec_any _ x.f3).mono ?_; rintro e w32 ⟨r3, rfl, hz, hb⟩; have HG := zM hb; have Zr3 := zM hz; replace HS := zM (HS.out.calls hb); clear hb hz); have hz4 : ((((r1 ++ (⟨#[32]⟩ : ByteArray)) ++ r2) ++ (⟨#[32]⟩ : ByteArray))).size + (r3).size ≤ 9223372036854775807 := (by (have h32 : (⟨#[32]⟩ : ByteArray).size = 1 := rfl); have := Zr1.out; have := Zr2.out; have := Zr3.out; (simp only [ByteArray.size_append, h32]) <;> omega); have hz5 : (((((r1 ++ (⟨#[32]⟩ : ByteArray)) ++ r2) ++ (⟨#[32]⟩ : ByteArray)) ++ r3)).size + ((⟨#[32]⟩ : ByteArray)).size ≤ 9223372036854775807 := (by (have h32 : (⟨#[32]⟩ : ByteArray).size = 1 := rfl); have := Zr1.out; have := Zr2.out; have := Zr3.out; (simp only [ByteArray.size_append, h32]) <;> omega)
   refine ⟨hK.grow HG.out (by simp), fun hK => mix_seg ?_⟩
   clear HG
   simp only [pickO, List.map]
   repeat (go_big_quiet_step (fail))
   refine wpQuiet_nil ?_
   go_wp2_with (go_at_call 108; refine (dec_any _ x.f4).mono ?_; rintro e w33 ⟨r4, rfl, hz, hb⟩; have HG := zM hb; have Zr4 := zM hz; replace HS := zM (HS.out.calls hb); clear hb hz); have hz6 : ((((((r1 ++ (⟨#[32]⟩ : ByteArray)) ++ r2) ++ (⟨#[32]⟩ : ByteArray)) ++ r3) ++ (⟨#[32]⟩ : ByteArray))).size + (r4).size ≤ 9223372036854775807 := (by (have h32 : (⟨#[32]⟩ : ByteArray).size = 1 := rfl); have := Zr1.out; have := Zr2.out; have := Zr3.out; have := Zr4.out; (simp only [ByteArray.size_append, h32]) <;> omega); have hz7 : (((((((r1 ++ (⟨#[32]⟩ : ByteArray)) ++ r2) ++ (⟨#[32]⟩ : ByteArray)) ++ r3) ++ (⟨#[32]⟩ : ByteArray)) ++ r4)).size + ((⟨#[32]⟩ : ByteArray)).size ≤ 9223372036854775807 := (by (have h32 : (⟨#[32]⟩ : ByteArray).size = 1 := rfl); have := Zr1.out; have := Zr2.out; have := Zr3.out; have := Zr4.out; (simp only [ByteArray.size_append, h32]) <;> omega)
   refine ⟨hK.grow HG.out (by simp), fun hK => mix_seg ?_⟩
   clear HG
   simp only [pickO, List.map]
   repeat (go_big_quiet_step (fail))
   refine wpQuiet_nil ?_
   go_wp2_with (go_at_call 109; refine (links_any _ nx x.f0 _ l (HV.out.keep HS.out.grown) HSm.out).mono ?_; rintro e w34 ⟨ln, rfl, hb⟩; have HG := zM hb; replace HS := zM (HS.out.calls hb); clear hb)
   refine ⟨hK.grow HG.out (by simp), fun hK => mix_seg ?_⟩
   clear HG
   simp only [pickO, List.map]
   repeat (go_big_quiet_step (fail))
   refine wpQuiet_nil ?_
   go_wp2_with (go_at_call 108; refine (dec_any _ ln).mono ?_; rintro e w35 ⟨r5, rfl, hz, hb⟩; have HG := zM hb; have Zr5 := zM hz; replace HS := zM (HS.out.calls hb); clear hb hz); have hz8 : ((((((((r1 ++ (⟨#[32]⟩ : ByteArray)) ++ r2) ++ (⟨#[32]⟩ : ByteArray)) ++ r3) ++ (⟨#[32]⟩ : ByteArray)) ++ r4) ++ (⟨#[32]⟩ : ByteArray))).size + (r5).size ≤ 9223372036854775807 := (by (have h32 : (⟨#[32]⟩ : ByteArray).size = 1 := rfl); have := Zr1.out; have := Zr2.out; have := Zr3.out; have := Zr4.out; have := Zr5.out; (simp only [ByteArray.size_append, h32]) <;> omega); have hz9 : (((((((((r1 ++ (⟨#[32]⟩ : ByteArray)) ++ r2) ++ (⟨#[32]⟩ : ByteArray)) ++ r3) ++ (⟨#[32]⟩ : ByteArray)) ++ r4) ++ (⟨#[32]⟩ : ByteArray)) ++ r5)).size + ((⟨#[32]⟩ : ByteArray)).size ≤ 9223372036854775807 := (by (have h32 : (⟨#[32]⟩ : ByteArray).size = 1 := rfl); have := Zr1.out; have := Zr2.out; have := Zr3.out; have := Zr4.out; have := Zr5.out; (simp only [ByteArray.size_append, h32]) <;> omega)
   refine ⟨hK.grow HG.out (by simp), fun hK => mix_seg ?_⟩
   clear HG
   simp only [pickO, List.map]
   repeat (go_big_quiet_step (fail))
   refine wpQuiet_nil ?_
   go_wp2_with (go_at_call 108; refine (dec_any _ _).mono ?_; rintro e w36 ⟨r6, rfl, hz, hb⟩; have HG := zM hb; have Zr6 := zM hz; replace HS := zM (HS.out.calls hb); clear hb hz); have hz10 : ((((((((((r1 ++ (⟨#[32]⟩ : ByteArray)) ++ r2) ++ (⟨#[32]⟩ : ByteArray)) ++ r3) ++ (⟨#[32]⟩ : ByteArray)) ++ r4) ++ (⟨#[32]⟩ : ByteArray)) ++ r5) ++ (⟨#[32]⟩ : ByteArray))).size + (r6).size ≤ 9223372036854775807 := (by (have h32 : (⟨#[32]⟩ : ByteArray).size = 1 := rfl); have := Zr1.out; have := Zr2.out; have := Zr3.out; have := Zr4.out; have := Zr5.out; have := Zr6.out; (simp only [ByteArray.size_append, h32]) <;> omega)
   refine ⟨hK.grow HG.out (by simp), fun hK => mix_seg ?_⟩
   clear HG
   simp only [pickO, List.map]
   repeat (go_big_quiet_step (fail))
   refine wpQuiet_nil ?_
   refine sS 2 [.int .i64 0, .string _] HS ?_; intro w37 n0_ n1_; clear HS; have HS := n0_; have HG := n1_; clear n0_ n1_
   refine ⟨hK.grow HG.out (by simp), fun hK => mix_end ?_⟩
   clear HG
   simp only [pickO, List.map]
   repeat (go_big_quiet_step (fail))
   refine wpQuiet_nil ?_
   go_wp2
   refine rC 2 HS ?_
   unfold TellP
   exact ⟨_, _, rfl, HS.out.grown⟩
 by_cases k17 : kd = 17
 ·subst k17
  go_upto_if 215 with (first | (go_at_call 56; refine (mayS_any u g Ag cg gs n x A6 cA6 _ (HGc.out.keep HS.out.grown).1 HGc.out.2 (Kd.R_reads' (HNx.out.keep HS.out.grown)).2.2 (Kd.R_reads' HNx.out).2.1).mono ?_; rintro e w15 ⟨rfl, hb⟩; generalize mayX u g gs n x = my; replace HS := zM (HS.out.call hb); clear hb; ))
  cases my
  case false =>
   as_aux_lemma =>
    go_wp2_with (first | ((with_reducible refine gS 94 6 rfl ?_); refine sS 2 [.int .i64 13, .string ⟨#[]⟩] HS ?_; clear HS; intro w16 HS _))
    refine rC 2 HS ?_
    unfold TellP
    exact ⟨_, _, rfl, HS.out.grown⟩
  case true =>
   as_aux_lemma =>
    go_wp2_with (first | ((with_reducible refine gS 94 6 rfl ?_); refine sS 2 [.int .i64 0, .string ⟨#[]⟩] HS ?_; clear HS; intro w16 HS _))
    refine rC 2 HS ?_
    unfold TellP
    exact ⟨_, _, rfl, HS.out.grown⟩
 have m4 : (kd == 4) = false := by simpa using k4
 have m11 : (kd == 11) = false := by simpa using k11
 have m13 : (kd == 13) = false := by simpa using k13
 have m14 : (kd == 14) = false := by simpa using k14
 have m17 : (kd == 17) = false := by simpa using k17
 clear k4 k11 k13 k14 k17
 cases kn : (x.f1 == 2)
 case false =>
  as_aux_lemma =>
   go_wp2_with (first | ((with_reducible refine gS 94 6 rfl ?_); refine sS 2 [.int .i64 20, .string ⟨#[]⟩] HS ?_; clear HS; intro w15 HS _))
   refine rC 2 HS ?_
   unfold TellP
   exact ⟨_, _, rfl, HS.out.grown⟩
 case true =>
 go_upto_if 224 with (first | (go_at_call 56; refine (mayS_any u g Ag cg gs 4 x A6 cA6 _ (HGc.out.keep HS.out.grown).1 HGc.out.2 (Kd.R_reads' (HNx.out.keep HS.out.grown)).2.2 (Kd.R_reads' HNx.out).2.1).mono ?_; rintro e w15 ⟨rfl, hb⟩; generalize mayX u g gs 4 x = my; replace HS := zM (HS.out.call hb); clear hb; (try clear q0 q1 q2 q3 q4 q5 q6 q7 q8); obtain ⟨q0, q1, q2, q3, q4, q5, q6, q7, q8⟩ := HS.out.cells9 0 rfl; (try clear z0 z1); obtain ⟨z0, z1⟩ := HS.out.cells2 5 rfl))
 cases my
 case false =>
  as_aux_lemma =>
   go_wp2_with (first | ((with_reducible refine gS 94 6 rfl ?_); refine sS 2 [.int .i64 13, .string ⟨#[]⟩] HS ?_; clear HS; intro w16 HS _))
   refine rC 2 HS ?_
   unfold TellP
   exact ⟨_, _, rfl, HS.out.grown⟩
 case true =>
 as_aux_lemma =>
  go_upto_region 52 with (first | (go_at_call 77; refine (use_any _ nx x.f0 _ l (HV.out.keep HS.out.grown) HSm.out).mono ?_; rintro e w20 ⟨ua, ub, rfl, hb⟩; replace HS := zM (HS.out.calls hb); clear hb; (try clear q0 q1 q2 q3 q4 q5 q6 q7 q8); obtain ⟨q0, q1, q2, q3, q4, q5, q6, q7, q8⟩ := HS.out.cells9 0 rfl))
  clear q0 q1 q2 q3 q4 q5 q6 q7 q8
  have hne_ : g8 ∉ [g6] := by simpa using HS.out.ne 0 2 rfl rfl (by decide)
  have hq0 := Kx.box HS.out 0 rfl hne_ 0 rfl
  have hq1 := Kx.box HS.out 0 rfl hne_ 1 rfl
  have hq2 := Kx.box HS.out 0 rfl hne_ 2 rfl
  have hq3 := Kx.box HS.out 0 rfl hne_ 3 rfl
  have hq4 := Kx.box HS.out 0 rfl hne_ 4 rfl
  have hq5 := Kx.box HS.out 0 rfl hne_ 5 rfl
  have hq6 := Kx.box HS.out 0 rfl hne_ 6 rfl
  have hq7 := Kx.box HS.out 0 rfl hne_ 7 rfl
  have hq8 := Kx.box HS.out 0 rfl hne_ 8 rfl
  clear hne_
  try simp only [Act.put, List.setIfInBounds_toArray, List.set_cons_zero, List.set_cons_succ]
  refine wp_region_mix (KxS [g6] w20) [([0, 1, 4, 5, 9, 13], 2), ([3], 6), ([7, 8], 10), ([11, 12], 14), ([15, 16], 17)] [] (by kernel_rfl) (by kernel_rfl) (fun _ _ _ _ h => h) (KxS.drew _ _) ?_
  have hK := KxS.drew [g6] w20
  replace HS := zM (HS.out.drew)
  refine mix_seg ?_
  simp only [pickO, List.map]
  repeat (go_big_quiet_step (fail))
  refine wpQuiet_nil ?_
  go_wp2_with (go_at_call 108; refine (dec_any _ x.f7).mono ?_; rintro e w30 ⟨r1, rfl, hz, hb⟩; have HG := zM hb; have Zr1 := zM hz; replace HS := zM (HS.out.calls hb); clear hb hz); have hz1 : (r1).size + ((⟨#[32]⟩ : ByteArray)).size ≤ 9223372036854775807 := (by (have h32 : (⟨#[32]⟩ : ByteArray).size = 1 := rfl); have := Zr1.out; (simp only [ByteArray.size_append, h32]) <;> omega)
  refine ⟨hK.grow HG.out (by simp), fun hK => mix_seg ?_⟩
  clear HG
  simp only [pickO, List.map]
  repeat (go_big_quiet_step (fail))
  refine wpQuiet_nil ?_
  go_wp2_with (go_at_call 108; refine (dec_any _ x.f8).mono ?_; rintro e w31 ⟨r2, rfl, hz, hb⟩; have HG := zM hb; have Zr2 := zM hz; replace HS := zM (HS.out.calls hb); clear hb hz); have hz2 : ((r1 ++ (⟨#[32]⟩ : ByteArray))).size + (r2).size ≤ 9223372036854775807 := (by (have h32 : (⟨#[32]⟩ : ByteArray).size = 1 := rfl); have := Zr1.out; have := Zr2.out; (simp only [ByteArray.size_append, h32]) <;> omega); have hz3 : (((r1 ++ (⟨#[32]⟩ : ByteArray)) ++ r2)).size + ((⟨#[32]⟩ : ByteArray)).size ≤ 9223372036854775807 := (by (have h32 : (⟨#[32]⟩ : ByteArray).size = 1 := rfl); have := Zr1.out; have := Zr2.out; (simp only [ByteArray.size_append, h32]) <;> omega)
  refine ⟨hK.grow HG.out (by simp), fun hK => mix_seg ?_⟩
  clear HG
  simp only [pickO, List.map]
  repeat (go_big_quiet_step (fail))
  refine wpQuiet_nil ?_
  go_wp2_with (go_at_call 108; refine (dec_any _ ua).mono ?_; rintro e w32 ⟨r3, rfl, hz, hb⟩; have HG := zM hb; have Zr3 := zM hz; replace HS := zM (HS.out.calls hb); clear hb hz); have hz4 : ((((r1 ++ (⟨#[32]⟩ : ByteArray)) ++ r2) ++ (⟨#[32]⟩ : ByteArray))).size + (r3).size ≤ 9223372036854775807 := (by (have h32 : (⟨#[32]⟩ : ByteArray).size = 1 := rfl); have := Zr1.out; have := Zr2.out; have := Zr3.out; (simp only [ByteArray.size_append, h32]) <;> omega); have hz5 : (((((r1 ++ (⟨#[32]⟩ : ByteArray)) ++ r2) ++ (⟨#[32]⟩ : ByteArray)) ++ r3)).size + ((⟨#[32]⟩ : ByteArray)).size ≤ 9223372036854775807 := (by (have h32 : (⟨#[32]⟩ : ByteArray).size = 1 := rfl); have := Zr1.out; have := Zr2.out; have := Zr3.out; (simp only [ByteArray.size_append, h32]) <;> omega)
  refine ⟨hK.grow HG.out (by simp), fun hK => mix_seg ?_⟩
  clear HG
  simp only [pickO, List.map]
  repeat (go_big_quiet_step (fail))
  refine wpQuiet_nil ?_
  go_wp2_with (go_at_call 108; refine (dec_any _ ub).mono ?_; rintro e w33 ⟨r4, rfl, hz, hb⟩; have HG := zM hb; have Zr4 := zM hz; replace HS := zM (HS.out.calls hb); clear hb hz); have hz6 : ((((((r1 ++ (⟨#[32]⟩ : ByteArray)) ++ r2) ++ (⟨#[32]⟩ : ByteArray)) ++ r3) ++ (⟨#[32]⟩ : ByteArray))).size + (r4).size ≤ 9223372036854775807 := (by (have h32 : (⟨#[32]⟩ : ByteArray).size = 1 := rfl); have := Zr1.out; have := Zr2.out; have := Zr3.out; have := Zr4.out; (simp only [ByteArray.size_append, h32]) <;> omega)
  refine ⟨hK.grow HG.out (by simp), fun hK => mix_seg ?_⟩
  clear HG
  simp only [pickO, List.map]
  repeat (go_big_quiet_step (fail))
  refine wpQuiet_nil ?_
  refine sS 2 [.int .i64 0, .string _] HS ?_; intro w37 n0_ n1_; clear HS; have HS := n0_; have HG := n1_; clear n0_ n1_
  refine ⟨hK.grow HG.out (by simp), fun hK => mix_end ?_⟩
  clear HG
  simp only [pickO, List.map]
  repeat (go_big_quiet_step (fail))
  refine wpQuiet_nil ?_
  go_wp2
  refine rC 2 HS ?_
  unfold TellP
  exact ⟨_, _, rfl, HS.out.grown⟩
end Go.Proofs.YtiopcpkfjikfdaaGreatDoor.PFnClean
