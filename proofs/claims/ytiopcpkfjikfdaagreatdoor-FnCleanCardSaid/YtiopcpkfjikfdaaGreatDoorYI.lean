/- By hand: what the law reaches, walked as plain functions. -/
import Derived.Test.YtiopcpkfjikfdaaGreatDoorYH
set_option maxHeartbeats 8000000
set_option maxRecDepth 100000
namespace Go.Proofs.YtiopcpkfjikfdaaGreatDoor.PFnClean
open Go.RowKit Go.Proofs.YtiopcpkfjikfdaaGreatDoorW.PrintWords Go.Proofs.YtiopcpkfjikfdaaGreatDoorW.PrintLast Go.Proofs.YtiopcpkfjikfdaaGreatDoorW.PrintMore
open Go.Proofs.YtiopcpkfjikfdaaGreatDoorW.Mix
open Go.Proofs.YtiopcpkfjikfdaaGreatDoor.Mth Go.Proofs.YtiopcpkfjikfdaaGreatDoor.Str
set_option linter.unusedVariables false
set_option linter.unusedSimpArgs false
theorem callon_any {w0 w : World} {g : Nat} {lc : List Int} (hc : Cur w0 w g lc) (nx : Int) (v : Value) (l : List S37) (hv : VolO w v l) (hs : volSmall l) :
  Calls Tryz.prog 90 #[.pointer (some ⟨g, 0, none⟩), .agg #[.int .i64 nx, v]] w fun e w' => ∃ (kd n m : Int) (p q d : ByteArray), e = .returned (.agg #[.int .i64 kd, .string p, .string q, .int .i64 n, .int .i64 m, .string d]) ∧ Cur w0 w' g lc ∧ w.grownBy w' (some g) := by
 have hu26 := Tryz.underlying26
 have hu98 := Tryz.underlying98
 obtain ⟨A, c, rfl, hcc, -⟩ := hv.reads
 have HV := zM hv
 have HSm := zM hs
 have HS := zM (SC.start hc)
 clear hc
 clear hv hs hcc
 go_enter Tryz.func90, Tryz.ntmps90
 go_upto_region 1 with (first | ((with_reducible refine gD 3 rfl ?_); refine cB #[.int .i64 nx, .slice A l.length c] 26 HS ?_; clear HS; intro g3 w3 HS _) | ((with_reducible refine gD 4 rfl ?_); refine cB #[.int .i64 0, .string ⟨#[]⟩, .string ⟨#[]⟩, .int .i64 0, .int .i64 0, .string ⟨#[]⟩] 98 HS ?_; clear HS; intro g4 w4 HS _))
 try simp only [Act.put, List.setIfInBounds_toArray, List.set_cons_zero, List.set_cons_succ]
 go_cut [5] (fun v5 w' => ∃ (g5 : Nat) (kd n m : Int) (p q d : ByteArray), v5 = .pointer (some ⟨g5, 0, none⟩) ∧ Aside0 (d.size ≤ 200) ∧ Aside0 (SC w0 g lc w w' [(g5, 98, #[.int .i64 kd, .string p, .string q, .int .i64 n, .int .i64 m, .string d]), (g4, 98, #[.int .i64 0, .string ⟨#[]⟩, .string ⟨#[]⟩, .int .i64 0, .int .i64 0, .string ⟨#[]⟩]), (g3, 26, #[.int .i64 nx, .slice A l.length c])]))
 case first =>
  have hne_ : g3 ∉ [g] := by simpa using HS.out.neC 1 rfl
  have hz0 := Kx.box HS.out.st 1 rfl hne_ 0 rfl
  have hz1 := Kx.box HS.out.st 1 rfl hne_ 1 rfl
  clear hne_
  try simp only [Act.put, List.setIfInBounds_toArray, List.set_cons_zero, List.set_cons_succ]
  refine wp_region_mixF (KxS [g] w4) 7 [([6], 7), ([], 8)] [([6], 8)] [([0, 3, 4], 1), ([], 2), ([], 5)] [] (by kernel_rfl) (by kernel_rfl) (fun _ _ _ _ h => h) (KxS.drew _ _) ?_
  have hK := KxS.drew [g] w4
  replace HS := zM (HS.out.drew)
  refine mixF_seg ?_
  simp only [pickO, List.map]
  repeat (go_big_quiet_step (fail))
  refine wpQuiet_nil ?_
  refine ⟨?_, ?_⟩
  ·refine cB #[.int .i64 0, .string ⟨#[]⟩, .string ⟨#[]⟩, .int .i64 0, .int .i64 0, .string ⟨#[]⟩] 98 HS ?_; intro g5 w5 n0_ n1_; clear HS; have HS := n0_; have HG := zM (grown_below n1_.out.1 none); have hs5 := Nat.le_trans (KxS.size hK) n1_.out.2; (try (have n3_ := zM (Kd.R_below HL_.out n1_.out.1); clear HL_; have HL_ := n3_; clear n3_)); clear n0_ n1_
   refine ⟨hK.grow HG.out (by simp), fun hK => mix_seg ?_⟩
   clear HG
   simp only [pickO, List.map]
   repeat (go_big_quiet_step (fail))
   refine wpQuiet_nil ?_
   refine sc_lit (Kd.int .i64) 3 rfl (N := 7) rfl (xs := ([1, 1, 1, 2, 3, 3, 3, 4, 5, 5, 6, 7, 8, 9, 10, 10, 11, 12, 12, 12, 13, 14, 15, 16, 17, 18, 19, 20] : List Int)) (inner := [.int .i64 1, .int .i64 1, .int .i64 1, .int .i64 2, .int .i64 3, .int .i64 3, .int .i64 3, .int .i64 4, .int .i64 5, .int .i64 5, .int .i64 6, .int .i64 7, .int .i64 8, .int .i64 9, .int .i64 10, .int .i64 10, .int .i64 11, .int .i64 12, .int .i64 12, .int .i64 12, .int .i64 13, .int .i64 14, .int .i64 15, .int .i64 16, .int .i64 17, .int .i64 18, .int .i64 19, .int .i64 20]) ?b2 (reps_ints _ _ _ _) (by simp) HS.out ?_; (case b2 => first | (go_simp; done) | (go_simp; rfl)); intro Ak ck w7 n0_ HL_ hgl_; clear HS; have HS := n0_; clear n0_; have HG := hgl_
   refine ⟨hK.grow HG.out (by simp), fun hK => mix_seg ?_⟩
   clear HG
   simp only [pickO, List.map]
   repeat (go_big_quiet_step (fail))
   refine wpQuiet_nil ?_
   go_wp2_with (first | (go_at_call 27; refine (drInts_any HS.out.cur HL_.out (by simp)).mono ?_; rintro e w8 ⟨kd, rfl, hc, hb⟩; have HG := zM hb; replace HS := zM (HS.out.draw hb hc); clear hc hb; clear HL_))
   refine ⟨hK.grow HG.out (by simp), fun hK => mix_seg ?_⟩
   clear HG
   simp only [pickO, List.map]
   repeat (go_big_quiet_step (fail))
   refine wpQuiet_nil ?_
   go_wp2_with (go_at_call 13; refine (way_any HS.out.cur nx _ l (HS.out.vol HV.out) HSm.out).mono ?_; rintro e w11 ⟨p, rfl, -, hc, hb⟩; have HG := zM hb; replace HS := zM (HS.out.draw hb hc); clear hc hb)
   refine ⟨hK.grow HG.out (by simp), fun hK => mix_seg ?_⟩
   clear HG
   simp only [pickO, List.map]
   repeat (go_big_quiet_step (fail))
   refine wpQuiet_nil ?_
   refine cS 0 [.int .i64 kd, .string p, .string ⟨#[]⟩, .int .i64 0, .int .i64 0, .string ⟨#[]⟩] HS ?_; intro w9 n0_ n1_; clear HS; have HS := n0_; have HG := n1_; clear n0_ n1_
   refine ⟨hK.grow HG.out (fun b hb => .inr (by injection hb with hb; rw [← hb]; exact hs5)), fun hK => mix_end ?_⟩
   clear HG
   simp only [pickO, List.map]
   repeat (go_big_quiet_step (fail))
   refine wpQuiet_nil ?_
   go_wp2
   go_meet
   case rel => exact ⟨_, _, _, _, _, _, _, rfl, ⟨by decide⟩, HS⟩
  refine sc_lit (Kd.int .i64) 3 rfl (N := 7) rfl (xs := ([1, 1, 1, 2, 3, 3, 3, 4, 5, 5, 6, 7, 8, 9, 10, 10, 11, 12, 12, 12, 13, 14, 15, 16, 17, 18, 19, 20] : List Int)) (inner := [.int .i64 1, .int .i64 1, .int .i64 1, .int .i64 2, .int .i64 3, .int .i64 3, .int .i64 3, .int .i64 4, .int .i64 5, .int .i64 5, .int .i64 6, .int .i64 7, .int .i64 8, .int .i64 9, .int .i64 10, .int .i64 10, .int .i64 11, .int .i64 12, .int .i64 12, .int .i64 12, .int .i64 13, .int .i64 14, .int .i64 15, .int .i64 16, .int .i64 17, .int .i64 18, .int .i64 19, .int .i64 20]) ?b2 (reps_ints _ _ _ _) (by simp) HS.out ?_; (case b2 => first | (go_simp; done) | (go_simp; rfl)); intro Ak ck w7 n0_ HL_ hgl_; clear HS; have HS := n0_; clear n0_; have HG := hgl_
  refine ⟨hK.grow HG.out (by simp), fun hK => ?_⟩
  clear HG
  refine mixF_seg ?_
  simp only [pickO, List.map]
  repeat (go_big_quiet_step (fail))
  refine wpQuiet_nil ?_
  refine ⟨?_, ?_⟩
  ·refine cB #[.int .i64 0, .string ⟨#[]⟩, .string ⟨#[]⟩, .int .i64 0, .int .i64 0, .string ⟨#[]⟩] 98 HS ?_; intro g5 w5 n0_ n1_; clear HS; have HS := n0_; have HG := zM (grown_below n1_.out.1 none); have hs5 := Nat.le_trans (KxS.size hK) n1_.out.2; (try (have n3_ := zM (Kd.R_below HL_.out n1_.out.1); clear HL_; have HL_ := n3_; clear n3_)); clear n0_ n1_
   refine ⟨hK.grow HG.out (by simp), fun hK => mix_seg ?_⟩
   clear HG
   simp only [pickO, List.map]
   repeat (go_big_quiet_step (fail))
   refine wpQuiet_nil ?_
   go_wp2_with (first | (go_at_call 27; refine (drInts_any HS.out.cur HL_.out (by simp)).mono ?_; rintro e w8 ⟨kd, rfl, hc, hb⟩; have HG := zM hb; replace HS := zM (HS.out.draw hb hc); clear hc hb; clear HL_))
   refine ⟨hK.grow HG.out (by simp), fun hK => mix_seg ?_⟩
   clear HG
   simp only [pickO, List.map]
   repeat (go_big_quiet_step (fail))
   refine wpQuiet_nil ?_
   go_wp2_with (go_at_call 13; refine (way_any HS.out.cur nx _ l (HS.out.vol HV.out) HSm.out).mono ?_; rintro e w11 ⟨p, rfl, -, hc, hb⟩; have HG := zM hb; replace HS := zM (HS.out.draw hb hc); clear hc hb)
   refine ⟨hK.grow HG.out (by simp), fun hK => mix_seg ?_⟩
   clear HG
   simp only [pickO, List.map]
   repeat (go_big_quiet_step (fail))
   refine wpQuiet_nil ?_
   refine cS 0 [.int .i64 kd, .string p, .string ⟨#[]⟩, .int .i64 0, .int .i64 0, .string ⟨#[]⟩] HS ?_; intro w9 n0_ n1_; clear HS; have HS := n0_; have HG := n1_; clear n0_ n1_
   refine ⟨hK.grow HG.out (fun b hb => .inr (by injection hb with hb; rw [← hb]; exact hs5)), fun hK => mix_end ?_⟩
   clear HG
   simp only [pickO, List.map]
   repeat (go_big_quiet_step (fail))
   refine wpQuiet_nil ?_
   go_wp2
   go_meet
   case rel => exact ⟨_, _, _, _, _, _, _, rfl, ⟨by decide⟩, HS⟩
  go_wp2_with (first | (go_at_call 27; refine (drInts_any HS.out.cur HL_.out (by simp)).mono ?_; rintro e w8 ⟨kd, rfl, hc, hb⟩; have HG := zM hb; replace HS := zM (HS.out.draw hb hc); clear hc hb; clear HL_))
  refine ⟨hK.grow HG.out (by simp), fun hK => ?_⟩
  clear HG
  refine mixF_seg ?_
  simp only [pickO, List.map]
  repeat (go_big_quiet_step (fail))
  refine wpQuiet_nil ?_
  refine ⟨?_, ?_⟩
  ·refine cB #[.int .i64 0, .string ⟨#[]⟩, .string ⟨#[]⟩, .int .i64 0, .int .i64 0, .string ⟨#[]⟩] 98 HS ?_; intro g5 w5 n0_ n1_; clear HS; have HS := n0_; have HG := zM (grown_below n1_.out.1 none); have hs5 := Nat.le_trans (KxS.size hK) n1_.out.2; (try (have n3_ := zM (Kd.R_below HL_.out n1_.out.1); clear HL_; have HL_ := n3_; clear n3_)); clear n0_ n1_
   refine ⟨hK.grow HG.out (by simp), fun hK => mix_seg ?_⟩
   clear HG
   simp only [pickO, List.map]
   repeat (go_big_quiet_step (fail))
   refine wpQuiet_nil ?_
   go_wp2_with (go_at_call 13; refine (way_any HS.out.cur nx _ l (HS.out.vol HV.out) HSm.out).mono ?_; rintro e w11 ⟨p, rfl, -, hc, hb⟩; have HG := zM hb; replace HS := zM (HS.out.draw hb hc); clear hc hb)
   refine ⟨hK.grow HG.out (by simp), fun hK => mix_seg ?_⟩
   clear HG
   simp only [pickO, List.map]
   repeat (go_big_quiet_step (fail))
   refine wpQuiet_nil ?_
   refine cS 0 [.int .i64 kd, .string p, .string ⟨#[]⟩, .int .i64 0, .int .i64 0, .string ⟨#[]⟩] HS ?_; intro w9 n0_ n1_; clear HS; have HS := n0_; have HG := n1_; clear n0_ n1_
   refine ⟨hK.grow HG.out (fun b hb => .inr (by injection hb with hb; rw [← hb]; exact hs5)), fun hK => mix_end ?_⟩
   clear HG
   simp only [pickO, List.map]
   repeat (go_big_quiet_step (fail))
   refine wpQuiet_nil ?_
   go_wp2
   go_meet
   case rel => exact ⟨_, _, _, _, _, _, _, rfl, ⟨by decide⟩, HS⟩
  go_wp2_with (go_at_call 13; refine (way_any HS.out.cur nx _ l (HS.out.vol HV.out) HSm.out).mono ?_; rintro e w11 ⟨p, rfl, -, hc, hb⟩; have HG := zM hb; replace HS := zM (HS.out.draw hb hc); clear hc hb)
  refine ⟨hK.grow HG.out (by simp), fun hK => ?_⟩
  clear HG
  refine mixF_nil (mix_seg ?_)
  simp only [pickO, List.map]
  repeat (go_big_quiet_step (fail))
  refine wpQuiet_nil ?_
  refine cB #[.int .i64 0, .string ⟨#[]⟩, .string ⟨#[]⟩, .int .i64 0, .int .i64 0, .string ⟨#[]⟩] 98 HS ?_; intro g5 w5 n0_ n1_; clear HS; have HS := n0_; have HG := zM (grown_below n1_.out.1 none); have hs5 := Nat.le_trans (KxS.size hK) n1_.out.2; (try (have n3_ := zM (Kd.R_below HL_.out n1_.out.1); clear HL_; have HL_ := n3_; clear n3_)); clear n0_ n1_
  refine ⟨hK.grow HG.out (by simp), fun hK => mix_seg ?_⟩
  clear HG
  simp only [pickO, List.map]
  repeat (go_big_quiet_step (fail))
  refine wpQuiet_nil ?_
  refine cS 0 [.int .i64 kd, .string p, .string ⟨#[]⟩, .int .i64 0, .int .i64 0, .string ⟨#[]⟩] HS ?_; intro w9 n0_ n1_; clear HS; have HS := n0_; have HG := n1_; clear n0_ n1_
  refine ⟨hK.grow HG.out (fun b hb => .inr (by injection hb with hb; rw [← hb]; exact hs5)), fun hK => mix_end ?_⟩
  clear HG
  simp only [pickO, List.map]
  repeat (go_big_quiet_step (fail))
  refine wpQuiet_nil ?_
  go_wp2
  go_meet
  case rel => exact ⟨_, _, _, _, _, _, _, rfl, ⟨by decide⟩, HS⟩
 case rest =>
 clear HS
 obtain ⟨g5, kd, n, m, p, q, d, rfl, HD, HS⟩ := hcut
 obtain ⟨w9, hw_⟩ : ∃ q, q = wc := ⟨_, rfl⟩
 subst hw_
 obtain ⟨p0, p1, p2, p3, p4, p5⟩ := HS.out.cells6 0 rfl
 go_upto_block 0 with (fail)
 clear p0 p1 p2 p3 p4 p5
 go_cut [] (fun w' => ∃ (kd n m : Int) (p q d : ByteArray), Aside0 (d.size ≤ 200) ∧ Aside0 (SC w0 g lc w w' [(g5, 98, #[.int .i64 kd, .string p, .string q, .int .i64 n, .int .i64 m, .string d]), (g4, 98, #[.int .i64 0, .string ⟨#[]⟩, .string ⟨#[]⟩, .int .i64 0, .int .i64 0, .string ⟨#[]⟩]), (g3, 26, #[.int .i64 nx, .slice A l.length c])]))
 case first =>
  obtain ⟨z0, z1⟩ := HS.out.cells2 2 rfl
  go_wp2_with (first | ((with_reducible refine gD 20 rfl ?_); refine sc_lit (Kd.int .i64) 3 rfl (N := 20) rfl (xs := ([511, 511, 493, 448, 420, 1535, 1023, 0, 320] : List Int)) (inner := [.int .i64 511, .int .i64 511, .int .i64 493, .int .i64 448, .int .i64 420, .int .i64 1535, .int .i64 1023, .int .i64 0, .int .i64 320]) ?b2 (reps_ints _ _ _ _) (by simp) HS.out ?_; (case b2 => first | (go_simp; done) | (go_simp; rfl)); intro Aa ca w20 n0_ HL_ _; clear HS; have HS := n0_; clear n0_) | (go_at_call 27; refine (drInts_any HS.out.cur HL_.out (by simp)).mono ?_; rintro e wS_ ⟨v, rfl, hc, hb⟩; replace HS := zM (HS.out.draw hb hc); clear hc hb; clear HL_) | (go_at_call 26; (with_reducible refine (drBelow_any HS.out.cur _).mono ?_); rintro e wS_ ⟨v, rfl, hvv, hc, hb⟩; replace HS := zM (HS.out.draw hb hc); clear hc hb) | (go_at_call 110; (with_reducible refine (text_any HS.out.cur 30 (by decide)).mono ?_); rintro e wS_ ⟨s, rfl, hds, hc, hb⟩; replace HS := zM (HS.out.draw hb hc); clear hc hb) | (go_at_call 13; refine (way_any HS.out.cur nx _ l (HS.out.vol HV.out) HSm.out).mono ?_; rintro e wS_ ⟨s, rfl, -, hc, hb⟩; replace HS := zM (HS.out.draw hb hc); clear hc hb) | ((with_reducible refine gD 59 rfl ?_); refine sc_lit Kd.string 9 rfl (N := 59) rfl (xs := ([(⟨#[47, 97]⟩ : ByteArray), (⟨#[98]⟩ : ByteArray), (⟨#[46, 46, 47, 99]⟩ : ByteArray), (⟨#[47, 115, 117, 98, 47, 97]⟩ : ByteArray), (⟨#[46]⟩ : ByteArray), (⟨#[47]⟩ : ByteArray), (⟨#[100, 49, 47, 98]⟩ : ByteArray), (⟨#[47, 99]⟩ : ByteArray)] : List ByteArray)) (inner := [.string ⟨#[47, 97]⟩, .string ⟨#[98]⟩, .string ⟨#[46, 46, 47, 99]⟩, .string ⟨#[47, 115, 117, 98, 47, 97]⟩, .string ⟨#[46]⟩, .string ⟨#[47]⟩, .string ⟨#[100, 49, 47, 98]⟩, .string ⟨#[47, 99]⟩]) ?b2 (reps_strs _ _ _ _) (by simp) HS.out ?_; (case b2 => first | (go_simp; done) | (go_simp; rfl)); intro Aa ca w20 n0_ HL_ _; clear HS; have HS := n0_; clear n0_) | (go_at_call 28; refine (drStrs_any HS.out.cur 100 (by decide) (by simp) HL_.out).mono ?_; rintro e wS_ ⟨s, rfl, hvs, hc, hb⟩; replace HS := zM (HS.out.draw hb hc); clear hc hb; clear HL_) | ((with_reducible refine gD 70 rfl ?_); refine sc_lit (Kd.int .i64) 3 rfl (N := 70) rfl (xs := ([0, 2, 3] : List Int)) (inner := [.int .i64 0, .int .i64 2, .int .i64 3]) ?b2 (reps_ints _ _ _ _) (by simp) HS.out ?_; (case b2 => first | (go_simp; done) | (go_simp; rfl)); intro Aa ca w20 n0_ HL_ _; clear HS; have HS := n0_; clear n0_) | ((with_reducible refine gD 74 rfl ?_); refine sc_lit (Kd.int .i64) 3 rfl (N := 74) rfl (xs := ([0, 2, 5] : List Int)) (inner := [.int .i64 0, .int .i64 2, .int .i64 5]) ?b2 (reps_ints _ _ _ _) (by simp) HS.out ?_; (case b2 => first | (go_simp; done) | (go_simp; rfl)); intro Aa ca w20 n0_ HL_ _; clear HS; have HS := n0_; clear n0_) | ((with_reducible refine gD 85 rfl ?_); refine sc_lit (Kd.int .i64) 3 rfl (N := 85) rfl (xs := ([0, 0, 20, 60, 200] : List Int)) (inner := [.int .i64 0, .int .i64 0, .int .i64 20, .int .i64 60, .int .i64 200]) ?b2 (reps_ints _ _ _ _) (by simp) HS.out ?_; (case b2 => first | (go_simp; done) | (go_simp; rfl)); intro Aa ca w20 n0_ HL_ _; clear HS; have HS := n0_; clear n0_) | ((with_reducible refine gD 89 rfl ?_); refine sc_lit (Kd.int .i64) 3 rfl (N := 89) rfl (xs := ([0, 0, 2, 5, 10] : List Int)) (inner := [.int .i64 0, .int .i64 0, .int .i64 2, .int .i64 5, .int .i64 10]) ?b2 (reps_ints _ _ _ _) (by simp) HS.out ?_; (case b2 => first | (go_simp; done) | (go_simp; rfl)); intro Aa ca w20 n0_ HL_ _; clear HS; have HS := n0_; clear n0_) | ((with_reducible refine gate_store (t := 3) rfl ?_); refine cS 0 [.int .i64 _] HS ?_; clear HS; intro wS_ HS _) | ((with_reducible refine gate_store (t := 9) rfl ?_); refine cS 0 [.string _] HS ?_; clear HS; intro wS_ HS _))
  all_goals go_meet
  all_goals (case rel => exact ⟨_, _, _, _, _, _, ⟨by first | assumption | (have := HD.out; omega) | (have := HD.out; simp only [ByteArray.size_append]; have e1 : (⟨#[121]⟩ : ByteArray).size = 1 := rfl; omega)⟩, HS⟩)
 case rest =>
 clear HS HD
 obtain ⟨kd', n', m', p', q', d', HD, HS⟩ := hcut
 obtain ⟨w10, hw_⟩ : ∃ q, q = wc := ⟨_, rfl⟩
 subst hw_
 have hds := HD.out
 go_upto_if 93 with (first | (go_at_call 14; (with_reducible refine (drOnce_any HS.out.cur _).mono ?_); rintro e w11 ⟨o1, rfl, hc, hb⟩; replace HS := zM (HS.out.draw hb hc); clear hc hb))
 go_cut [] (fun w' => ∃ (kd n m : Int) (p q d : ByteArray), Aside0 (d.size ≤ 100000) ∧ Aside0 (SC w0 g lc w w' [(g5, 98, #[.int .i64 kd, .string p, .string q, .int .i64 n, .int .i64 m, .string d]), (g4, 98, #[.int .i64 0, .string ⟨#[]⟩, .string ⟨#[]⟩, .int .i64 0, .int .i64 0, .string ⟨#[]⟩]), (g3, 26, #[.int .i64 nx, .slice A l.length c])]))
 case first =>
  obtain ⟨p0, p1, p2, p3, p4, p5⟩ := HS.out.cells6 0 rfl
  cases o1
  case false =>
   go_wp2
   all_goals go_meet
   all_goals (case rel => exact ⟨_, _, _, _, _, _, ⟨by first | assumption | (have := HD.out; omega) | (have := HD.out; simp only [ByteArray.size_append]; have e1 : (⟨#[121]⟩ : ByteArray).size = 1 := rfl; omega)⟩, HS⟩)
  case true =>
   go_wp2_with (first | (go_at_call 26; (with_reducible refine (drBelow_any HS.out.cur _).mono ?_); rintro e wS_ ⟨v, rfl, hvv, hc, hb⟩; replace HS := zM (HS.out.draw hb hc); clear hc hb; (try clear p0 p1 p2 p3 p4 p5); obtain ⟨p0, p1, p2, p3, p4, p5⟩ := HS.out.cells6 0 rfl) | ((with_reducible refine gD 102 rfl ?_); refine sc_lit (Kd.int .i64) 3 rfl (N := 102) rfl (xs := ([(-1), 0, 21, 22, 23] : List Int)) (inner := [.int .i64 (-1), .int .i64 0, .int .i64 21, .int .i64 22, .int .i64 23]) ?b2 (reps_ints _ _ _ _) (by simp) HS.out ?_; (case b2 => first | (go_simp; done) | (go_simp; rfl)); intro Aa ca w20 n0_ HL_ _; clear HS; have HS := n0_; clear n0_) | ((with_reducible refine gD 108 rfl ?_); refine sc_lit (Kd.int .i64) 3 rfl (N := 108) rfl (xs := ([(-1), 2048, 65, 401, 1000000, 1000001] : List Int)) (inner := [.int .i64 (-1), .int .i64 2048, .int .i64 65, .int .i64 401, .int .i64 1000000, .int .i64 1000001]) ?b2 (reps_ints _ _ _ _) (by simp) HS.out ?_; (case b2 => first | (go_simp; done) | (go_simp; rfl)); intro Aa ca w20 n0_ HL_ _; clear HS; have HS := n0_; clear n0_) | ((with_reducible refine gD 114 rfl ?_); refine sc_lit (Kd.int .i64) 3 rfl (N := 114) rfl (xs := ([(-1), 25, 1001, 1000001] : List Int)) (inner := [.int .i64 (-1), .int .i64 25, .int .i64 1001, .int .i64 1000001]) ?b2 (reps_ints _ _ _ _) (by simp) HS.out ?_; (case b2 => first | (go_simp; done) | (go_simp; rfl)); intro Aa ca w20 n0_ HL_ _; clear HS; have HS := n0_; clear n0_) | (go_at_call 27; refine (drInts_any HS.out.cur HL_.out (by simp)).mono ?_; rintro e wS_ ⟨v, rfl, hc, hb⟩; replace HS := zM (HS.out.draw hb hc); clear hc hb; clear HL_) | ((with_reducible refine gD 126 rfl ?_); refine sc_lit Kd.string 9 rfl (N := 126) rfl (xs := ([(⟨#[]⟩ : ByteArray), (⟨#[47, 122]⟩ : ByteArray), (⟨#[98, 97, 100, 32, 112, 97, 116, 104]⟩ : ByteArray), (⟨#[47, 47]⟩ : ByteArray)] : List ByteArray)) (inner := [.string ⟨#[]⟩, .string ⟨#[47, 122]⟩, .string ⟨#[98, 97, 100, 32, 112, 97, 116, 104]⟩, .string ⟨#[47, 47]⟩]) ?b2 (reps_strs _ _ _ _) (by simp) HS.out ?_; (case b2 => first | (go_simp; done) | (go_simp; rfl)); intro Aa ca w20 n0_ HL_ _; clear HS; have HS := n0_; clear n0_) | (go_at_call 28; refine (drStrs_any HS.out.cur 100 (by decide) (by simp) HL_.out).mono ?_; rintro e wS_ ⟨s, rfl, hvs, hc, hb⟩; replace HS := zM (HS.out.draw hb hc); clear hc hb; clear HL_) | (go_at_call 30; (with_reducible refine (path2_any HS.out.cur).mono ?_); rintro e wS_ ⟨s, rfl, hds, hc, hb⟩; replace HS := zM (HS.out.draw hb hc); clear hc hb) | ((with_reducible refine gate_store (t := 3) rfl ?_); refine cS 0 [.int .i64 _] HS ?_; clear HS; intro wS_ HS _) | ((with_reducible refine gate_store (t := 9) rfl ?_); refine cS 0 [.string _] HS ?_; clear HS; intro wS_ HS _))
   all_goals go_meet
   all_goals (case rel => exact ⟨_, _, _, _, _, _, ⟨by first | assumption | (have := HD.out; omega) | (have := HD.out; simp only [ByteArray.size_append]; have e1 : (⟨#[121]⟩ : ByteArray).size = 1 := rfl; omega)⟩, HS⟩)
 case rest =>
 clear HS HD
 obtain ⟨kd3, n3, m3, p3, q3, d3, HD, HS⟩ := hcut
 obtain ⟨w12, hw_⟩ : ∃ q, q = wc := ⟨_, rfl⟩
 subst hw_
 obtain ⟨z0, z1, z2, z3, z4, z5⟩ := HS.out.cells6 0 rfl; obtain ⟨y0, y1, y2, y3, y4, y5⟩ := HS.out.cells6 1 rfl
 go_wp2_with (first | ((with_reducible refine gS 98 4 rfl ?_); refine cS 1 [.int .i64 kd3, .string p3, .string q3, .int .i64 n3, .int .i64 m3, .string d3] HS ?_; clear HS; intro w13 HS _))
 refine cC 1 HS ?_
 exact ⟨⟨_, _, _, _, _, _, rfl⟩, HS.out.cur, HS.out.st.grown⟩
def CredD (w0 w : World) (g : Nat) (lc : List Int) (e : Ending) (w' : World) : Prop := ∃ (u d : Int) (A : Option Addr) (c : Nat) (gs : List Int), e = .returned (.agg #[.int .i64 u, .int .i64 d, .slice A gs.length c]) ∧ gs.length ≤ 5 ∧ Kd.R (Kd.int .i64) 3 w' w.heap.size (fun _ => True) (.slice A gs.length c) gs ∧ Cur w0 w' g lc ∧ w.grownBy w' (some g)
theorem cred5_any {w0 w : World} {g : Nat} {lc : List Int} (hc : Cur w0 w g lc) : Calls Tryz.prog 29 #[.pointer (some ⟨g, 0, none⟩)] w (CredD w0 w g lc) := by
 have hu29 := Tryz.underlying29
 have HS := zM (SC.start hc)
 clear hc
 go_enter Tryz.func29, Tryz.ntmps29
 go_upto_block 0 with (first | ((with_reducible refine gD 2 rfl ?_); refine cB #[.int .i64 0, .int .i64 0, .slice none 0 0] 29 HS ?_; clear HS; intro g2 w2 HS _) | (go_at_call 26; (with_reducible refine (drBelow_any HS.out.cur _).mono ?_); rintro e w4 ⟨v, rfl, hvv, hc, hb⟩; replace HS := zM (HS.out.draw hb hc); clear hc hb))
 obtain ⟨p0, p1, p2⟩ := HS.out.cells3 0 rfl
 clear hvv
 cases c0 : (v == 0)
 case true =>
  go_wp2_with (first | ((with_reducible refine gS 29 2 rfl ?_); refine cS 0 [.int .i64 0, .int .i64 0, .slice none 0 0] HS ?_; clear HS; intro w5 HS _))
  refine cC 0 HS ?_
  unfold CredD
  exact ⟨_, _, _, _, [], rfl, by simp, Kd.R_nil _ _ _ _ _, HS.out.cur, HS.out.st.grown⟩
 cases c1 : (v == 1)
 case true =>
  go_wp2_with (first | ((with_reducible refine gS 29 2 rfl ?_); refine cS 0 [.int .i64 0, .int .i64 0, .slice none 0 0] HS ?_; clear HS; intro w5 HS _))
  refine cC 0 HS ?_
  unfold CredD
  exact ⟨_, _, _, _, [], rfl, by simp, Kd.R_nil _ _ _ _ _, HS.out.cur, HS.out.st.grown⟩
 cases c2 : (v == 2)
 case true =>
  go_wp2_with (first | ((with_reducible refine gD 11 rfl ?_); refine sc_lit (Kd.int .i64) 3 rfl (N := 11) rfl (xs := ([5] : List Int)) (inner := [.int .i64 5]) ?b2 (reps_ints _ _ _ _) (by simp) HS.out ?_; (case b2 => first | (go_simp; done) | (go_simp; rfl)); intro Aa ca w5 n0_ HL_ _; clear HS; have HS := n0_; clear n0_) | ((with_reducible refine gS 29 2 rfl ?_); refine cS 0 [.int .i64 2, .int .i64 2, .slice Aa 1 ca] HS ?_; intro w6 n0_ n1_; replace HL_ := zM (R_box HL_.out (HS.out.get 0 rfl) (by decide) n1_.out); clear HS; have HS := n0_; clear n0_ n1_))
  refine cC 0 HS ?_
  unfold CredD
  exact ⟨_, _, _, _, [5], rfl, by simp, HL_.out, HS.out.cur, HS.out.st.grown⟩
 go_wp2_with (first | ((with_reducible refine gS 29 2 rfl ?_); refine cS 0 [.int .i64 3, .int .i64 2, .slice none 0 0] HS ?_; clear HS; intro w5 HS _))
 refine cC 0 HS ?_
 unfold CredD
 exact ⟨_, _, _, _, [], rfl, by simp, Kd.R_nil _ _ _ _ _, HS.out.cur, HS.out.st.grown⟩
theorem any5_any {w0 w : World} {g : Nat} {lc : List Int} (hc : Cur w0 w g lc) : Calls Tryz.prog 12 #[.pointer (some ⟨g, 0, none⟩)] w (CredD w0 w g lc) := by
 have hu29 := Tryz.underlying29
 have hu27 := Tryz.underlying27
 have HS := zM (SC.start hc)
 clear hc
 go_enter Tryz.func12, Tryz.ntmps12
 go_upto_if 7 with (first | ((with_reducible refine gD 2 rfl ?_); refine cB #[.int .i64 0, .int .i64 0, .slice none 0 0] 29 HS ?_; clear HS; intro g2 w2 HS _) | (go_at_call 29; refine (cred5_any HS.out.cur).mono ?_; rintro e w5 hq; unfold CredD at hq; obtain ⟨u, d, A, c, gs, rfl, hgl, hR, hc, hb⟩ := hq; have HR := zM (Kd.R_lower hR HS.out.st.grown.size); have HGl := zM hgl; replace HS := zM (HS.out.draw hb hc); clear hc hb hR hgl) | ((with_reducible refine gD 3 rfl ?_); refine cB #[.int .i64 0, .int .i64 0, .slice none 0 0] 29 HS ?_; intro g3 w3 n0_ n1_; replace HR := zM (Kd.R_below HR.out n1_.out.1); clear HS; have HS := n0_; clear n0_ n1_) | ((with_reducible refine gS 29 3 rfl ?_); refine cS 0 [.int .i64 u, .int .i64 d, .slice A gs.length c] HS ?_; intro w6 n0_ n1_; replace HR := zM (R_box HR.out (HS.out.get 0 rfl) (by decide) n1_.out); clear HS; have HS := n0_; clear n0_ n1_) | (go_at_call 14; (with_reducible refine (drOnce_any HS.out.cur _).mono ?_); rintro e w7 ⟨o1, rfl, hc, hb⟩; replace HR := zM (HS.out.growR hb HR.out (by decide)); replace HS := zM (HS.out.draw hb hc); clear hc hb))
 try simp only [Act.put, List.setIfInBounds_toArray, List.set_cons_zero, List.set_cons_succ]
 go_cut [] (fun w' => ∃ (u d : Int) (A : Option Addr) (c : Nat) (gs : List Int), Aside0 (gs.length ≤ 5) ∧ Aside0 (Kd.R (Kd.int .i64) 3 w' w.heap.size (fun _ => True) (.slice A gs.length c) gs) ∧ Aside0 (SC w0 g lc w w' [(g3, 29, #[.int .i64 u, .int .i64 d, .slice A gs.length c]), (g2, 29, #[.int .i64 0, .int .i64 0, .slice none 0 0])]))
 case first =>
  obtain ⟨p0, p1, p2⟩ := HS.out.cells3 0 rfl
  cases o1
  case false =>
   go_wp2
   go_meet
   case rel => exact ⟨_, _, _, _, gs, HGl, HR, HS⟩
  go_upto_block 0 with (first | (go_at_call 26; (with_reducible refine (drBelow_any HS.out.cur _).mono ?_); rintro e w9 ⟨v, rfl, hvv, hc, hb⟩; replace HR := zM (HS.out.growR hb HR.out (by decide)); replace HS := zM (HS.out.draw hb hc); clear hc hb; clear p0 p1 p2; obtain ⟨p0, p1, p2⟩ := HS.out.cells3 0 rfl))
  clear hvv
  cases c0 : (v == 0)
  case true =>
   go_wp2_with (first | ((with_reducible refine gD 19 rfl ?_); refine sc_lit (Kd.int .i64) 3 rfl (N := 19) rfl (xs := ([(-1), 1000, 1001] : List Int)) (inner := [.int .i64 (-1), .int .i64 1000, .int .i64 1001]) ?b2 (reps_ints _ _ _ _) (by simp) HS.out ?_; (case b2 => first | (go_simp; done) | (go_simp; rfl)); intro Aa ca w10 n0_ HL_ hg_; replace HR := zM (Kd.R_below HR.out (below_grown hg_.out)); clear hg_; clear HS; have HS := n0_; clear n0_) | (go_at_call 27; refine (drInts_any HS.out.cur HL_.out (by simp)).mono ?_; rintro e w11 ⟨x, rfl, hc, hb⟩; replace HR := zM (HS.out.growR hb HR.out (by decide)); replace HS := zM (HS.out.draw hb hc); clear hc hb; clear HL_) | ((with_reducible refine gate_store (t := 3) rfl ?_); refine cS 0 [.int .i64 _] HS ?_; intro wS_ n0_ n1_; replace HR := zM (R_box HR.out (HS.out.get 0 rfl) (by decide) n1_.out); clear HS; have HS := n0_; clear n0_ n1_))
   go_meet
   case rel => exact ⟨_, _, _, _, gs, HGl, HR, HS⟩
  cases c1 : (v == 1)
  case true =>
   go_wp2_with (first | ((with_reducible refine gD 25 rfl ?_); refine sc_lit (Kd.int .i64) 3 rfl (N := 25) rfl (xs := ([(-1), 1000, 1001] : List Int)) (inner := [.int .i64 (-1), .int .i64 1000, .int .i64 1001]) ?b2 (reps_ints _ _ _ _) (by simp) HS.out ?_; (case b2 => first | (go_simp; done) | (go_simp; rfl)); intro Aa ca w10 n0_ HL_ hg_; replace HR := zM (Kd.R_below HR.out (below_grown hg_.out)); clear hg_; clear HS; have HS := n0_; clear n0_) | (go_at_call 27; refine (drInts_any HS.out.cur HL_.out (by simp)).mono ?_; rintro e w11 ⟨x, rfl, hc, hb⟩; replace HR := zM (HS.out.growR hb HR.out (by decide)); replace HS := zM (HS.out.draw hb hc); clear hc hb; clear HL_) | ((with_reducible refine gate_store (t := 3) rfl ?_); refine cS 0 [.int .i64 _] HS ?_; intro wS_ n0_ n1_; replace HR := zM (R_box HR.out (HS.out.get 0 rfl) (by decide) n1_.out); clear HS; have HS := n0_; clear n0_ n1_))
   go_meet
   case rel => exact ⟨_, _, _, _, gs, HGl, HR, HS⟩
  clear HR HGl
  go_wp2_with (first | ((with_reducible refine gD 10 rfl ?_); refine sc_lit (Kd.int .i64) 3 rfl (N := 10) rfl (xs := ([1, 2, 3, 4, 5] : List Int)) (inner := [.int .i64 1, .int .i64 2, .int .i64 3, .int .i64 4, .int .i64 5]) ?b2 (reps_ints _ _ _ _) (by simp) HS.out ?_; (case b2 => first | (go_simp; done) | (go_simp; rfl)); intro Aa ca w10 n0_ HL_ _; clear HS; have HS := n0_; clear n0_; obtain ⟨g5, c5, eL, gb_⟩ := Kd.R_form HL_.out (by decide); obtain ⟨rfl, -, rfl⟩ : Aa = some ⟨g5, 0, none⟩ ∧ True ∧ ca = c5 := (by injection eL with e1 e2 e3; exact ⟨e1, trivial, e3⟩); clear eL gb_; have hc5 : 5 ≤ ca := (Kd.R_reads' HL_.out).2.1) | (go_at_call 26; (with_reducible refine (drBelow_any HS.out.cur _).mono ?_); rintro e w12 ⟨j, rfl, hvj, hc, hb⟩; replace HL_ := zM (HS.out.growR hb HL_.out (by decide)); replace HS := zM (HS.out.draw hb hc); clear hc hb; obtain rfl | rfl : j = 0 ∨ j = 1 := (by have := hvj.2.1 (by omega); omega)) | ((with_reducible refine gate_store (t := 27) rfl ?_); refine cS 0 [.slice (some ⟨g5, 0, none⟩) _ ca] HS ?_; intro wS_ n0_ n1_; replace HL_ := zM (R_box HL_.out (HS.out.get 0 rfl) (by decide) n1_.out); clear HS; have HS := n0_; clear n0_ n1_))
  all_goals go_meet
  ·case rel => exact ⟨_, _, _, _, [1, 2, 3, 4], ⟨by simp⟩, ⟨Kd.R_take (m := 4) HL_.out (by decide)⟩, HS⟩
  ·case rel => exact ⟨_, _, _, _, [1, 2, 3, 4, 5], ⟨by simp⟩, ⟨HL_.out⟩, HS⟩
 case rest =>
 clear HS HR HGl
 obtain ⟨u', d', A', c', gs', HGl, HR, HS⟩ := hcut
 obtain ⟨w10, hw_⟩ : ∃ q, q = wc := ⟨_, rfl⟩
 subst hw_
 obtain ⟨p0, p1, p2⟩ := HS.out.cells3 0 rfl; obtain ⟨q0, q1, q2⟩ := HS.out.cells3 1 rfl
 go_wp2_with (first | ((with_reducible refine gS 29 2 rfl ?_); refine cS 1 [.int .i64 u', .int .i64 d', .slice A' gs'.length c'] HS ?_; intro w13 n0_ n1_; replace HR := zM (R_box HR.out (HS.out.get 1 rfl) (by decide) n1_.out); clear HS; have HS := n0_; clear n0_ n1_))
 refine cC 1 HS ?_
 unfold CredD
 exact ⟨_, _, _, _, gs', rfl, HGl.out, HR.out, HS.out.cur, HS.out.st.grown⟩
end Go.Proofs.YtiopcpkfjikfdaaGreatDoor.PFnClean
