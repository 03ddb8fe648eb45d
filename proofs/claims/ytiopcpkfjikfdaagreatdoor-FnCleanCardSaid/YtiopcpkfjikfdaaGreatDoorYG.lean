/- By hand: what the law reaches, walked as plain functions. -/
import Derived.Test.YtiopcpkfjikfdaaGreatDoorYE
import Derived.Test.YtiopcpkfjikfdaaGreatDoorYF
import Derived.Test.YtiopcpkfjikfdaaGreatDoorQFnCleanx17
import Derived.Test.YtiopcpkfjikfdaaGreatDoorJoin
set_option maxHeartbeats 8000000
set_option maxRecDepth 100000
namespace Go.Proofs.YtiopcpkfjikfdaaGreatDoor.PFnClean
open Go.RowKit Go.Proofs.YtiopcpkfjikfdaaGreatDoorW.PrintWords Go.Proofs.YtiopcpkfjikfdaaGreatDoorW.PrintLast Go.Proofs.YtiopcpkfjikfdaaGreatDoorW.PrintMore
open Go.Proofs.YtiopcpkfjikfdaaGreatDoorW.Mix
open Go.Proofs.YtiopcpkfjikfdaaGreatDoor.Mth Go.Proofs.YtiopcpkfjikfdaaGreatDoor.Str
set_option linter.unusedVariables false
set_option linter.unusedSimpArgs false
theorem do_any (w : World) (nx : Int) (v : Value) (l : List S37) (k : Nat) (hv : VolO w v l) (hz : Sz k l) (hk : k ≤ 1000000) (hw : WfD nx l) (u g : Int) (Ag : Option Addr) (cg : Nat) (gs : List Int) (hg : CredC w Ag cg gs) (kd : Int) (path tgt data : ByteArray) (n m : Int) :
  Calls Tryz.prog 64 #[.agg #[.int .i64 nx, v], .agg #[.int .i64 u, .int .i64 g, .slice Ag gs.length cg], .agg #[.int .i64 kd, .string path, .string tgt, .int .i64 n, .int .i64 m, .string data]] w (DoP w k) := by
 have hu26 := Tryz.underlying26
 have hu29 := Tryz.underlying29
 have hu33 := Tryz.underlying33
 have hu37 := Tryz.underlying37
 have hu94 := Tryz.underlying94
 have hu98 := Tryz.underlying98
 have hu24 := Tryz.underlying24
 have hu35 := Tryz.underlying35
 have hs := hz.small (by omega)
 obtain ⟨A, c, rfl, hc, hC⟩ := hv.reads
 have hm := hC.2.1
 have HL := zM hs.1
 have HV := zM hv
 have HW := zM hw
 have HSm := zM hs
 have HZ := zM hz
 have HKk := zM hk
 have HGc := zM hg
 have HS := zM (St.start w none)
 clear hv hs hw hz hg hc hC hk
 go_enter Tryz.func64, Tryz.ntmps64
 go_upto_region 1 with (first | ((with_reducible refine gD 3 rfl ?_); refine sB #[.int .i64 nx, .slice A l.length c] 26 HS ?_; clear HS; intro g3 w3 HS _) | ((with_reducible refine gD 4 rfl ?_); refine sB #[.int .i64 u, .int .i64 g, .slice Ag gs.length cg] 29 HS ?_; clear HS; intro g4 w4 HS _) | ((with_reducible refine gD 5 rfl ?_); refine sB #[.int .i64 kd, .string path, .string tgt, .int .i64 n, .int .i64 m, .string data] 98 HS ?_; clear HS; intro g5 w5 HS _) | ((with_reducible refine gD 6 rfl ?_); refine sB #[.int .i64 0, .slice none 0 0] 26 HS ?_; clear HS; intro g6 w6 HS _) | ((with_reducible refine gD 7 rfl ?_); refine sB #[.int .i64 0, .string ⟨#[]⟩] 94 HS ?_; clear HS; intro g7 w7 HS _; (try clear z0 z1); obtain ⟨z0, z1⟩ := HS.out.cells2 4 rfl; (try clear y0 y1 y2); obtain ⟨y0, y1, y2⟩ := HS.out.cells3 3 rfl; (try clear p0 p1 p2 p3 p4 p5); obtain ⟨p0, p1, p2, p3, p4, p5⟩ := HS.out.cells6 2 rfl))
 try simp only [Act.put, List.setIfInBounds_toArray, List.set_cons_zero, List.set_cons_succ]
 generalize Value.agg #[.int .i64 kd, .string path, .string tgt, .int .i64 n, .int .i64 m, .string data] = vc_
 go_cut [15] (fun v_ w' => ∃ b_ : Bool, v_ = .bool b_ ∧ Aside0 (b_ = false → CallB n path tgt data) ∧ Aside0 (St w none w' [(g7, 94, #[.int .i64 0, .string ⟨#[]⟩]), (g6, 26, #[.int .i64 0, .slice none 0 0]), (g5, 98, #[.int .i64 kd, .string path, .string tgt, .int .i64 n, .int .i64 m, .string data]), (g4, 29, #[.int .i64 u, .int .i64 g, .slice Ag gs.length cg]), (g3, 26, #[.int .i64 nx, .slice A l.length c])]))
 case first =>
  by_cases k20 : (20 : Int) < kd
  all_goals
   go_wp2_with (go_at_call 82; refine (callok_any _ kd path tgt data n m).mono ?_; rintro e w8 ⟨bc, rfl, hB, hb⟩; have HB := zM hB; replace HS := zM (HS.out.calls hb); clear hb hB; (try clear p0 p1 p2 p3 p4 p5); obtain ⟨p0, p1, p2, p3, p4, p5⟩ := HS.out.cells6 2 rfl; (cases bc))
   all_goals
    go_meet
    case rel => exact ⟨_, rfl, ⟨fun h => by first | (cases h; done) | exact HB.out trivial | exact HB.out rfl⟩, HS⟩
 case rest =>
 clear HS
 obtain ⟨b4, rfl, HB, HS⟩ := hcut
 obtain ⟨w11, hw_⟩ : ∃ q, q = wc := ⟨_, rfl⟩
 subst hw_
 (try clear z0 z1); obtain ⟨z0, z1⟩ := HS.out.cells2 4 rfl
 (try clear y0 y1 y2); obtain ⟨y0, y1, y2⟩ := HS.out.cells3 3 rfl
 (try clear p0 p1 p2 p3 p4 p5); obtain ⟨p0, p1, p2, p3, p4, p5⟩ := HS.out.cells6 2 rfl
 go_upto_if 15 with (fail)
 cases b4
 case true =>
  as_aux_lemma =>
   go_wp2_with (first | ((with_reducible refine gS 26 6 rfl ?_); refine sS 1 [.int .i64 nx, .slice A l.length c] HS ?_; clear HS; intro w12 HS _) | ((with_reducible refine gS 94 7 rfl ?_); refine sS 0 [.int .i64 22, .string ⟨#[]⟩] HS ?_; clear HS; intro w13 HS _))
   refine rVR 1 0 HS ?_
   exact doSame HV.out HW.out HZ.out HS.out.grown
 case false =>
 have HCb := zM (show CallB n path tgt data from by first | exact HB.out | exact HB.out rfl | exact HB.out trivial)
 clear HB
 by_cases g1 : kd = 1 ∨ kd = 3 ∨ kd = 10
 ·have HKd := zM g1
  rcases g1 with rfl | rfl | rfl
  all_goals
   go_wp2_with (first | (go_at_call 83; refine (make_any _ nx _ l k (HV.out.keep HS.out.grown) HZ.out HKk.out HW.out u g Ag cg gs (HGc.out.keep HS.out.grown) _ path tgt data n m (by have := HCb.out.1; omega) (by have := HCb.out.2.1; omega)).mono ?_; rintro e w12 ⟨nxf, vf, lf, rf, sf, rfl, hvf, hwf, hzf, hb⟩; obtain ⟨Af, cf, rfl⟩ := Kd.R_slice hvf; have HVf := zM hvf; have HWf := zM hwf; have HZf := zM hzf; replace HS := zM (HS.out.calls hb); clear hvf hwf hzf hb) | ((with_reducible refine gS 26 6 rfl ?_); refine sS 1 [.int .i64 nxf, .slice Af lf.length cf] HS ?_; intro w13 n0_ n1_; replace HVf := zM (R_box HVf.out (HS.out.get 1 rfl) (by decide) n1_.out); clear HS; have HS := n0_; clear n0_ n1_) | ((with_reducible refine gS 94 7 rfl ?_); refine sS 0 [.int .i64 rf, .string sf] HS ?_; intro w14 n0_ n1_; replace HVf := zM (R_box HVf.out (HS.out.get 0 rfl) (by decide) n1_.out); clear HS; have HS := n0_; clear n0_ n1_))
   refine rVR 1 0 HS ?_
   exact doNew HVf.out HWf.out HZf.out HS.out.grown
 have n1 : (kd == 1) = false := by simpa using fun h => g1 (by simp [h])
 have n3 : (kd == 3) = false := by simpa using fun h => g1 (by simp [h])
 have n10 : (kd == 10) = false := by simpa using fun h => g1 (by simp [h])
 clear g1
 by_cases g1 : kd = 2 ∨ kd = 8
 ·have HKd := zM g1
  rcases g1 with rfl | rfl
  all_goals
   go_wp2_with (first | (go_at_call 84; refine (remove_any _ nx _ l k (HV.out.keep HS.out.grown) HZ.out HKk.out HW.out u g Ag cg gs (HGc.out.keep HS.out.grown) _ path tgt data n m (by have := HCb.out.1; omega) HKd.out).mono ?_; rintro e w12 ⟨nxf, vf, lf, rf, sf, rfl, hvf, hwf, hzf, hb⟩; obtain ⟨Af, cf, rfl⟩ := Kd.R_slice hvf; have HVf := zM hvf; have HWf := zM hwf; have HZf := zM hzf; replace HS := zM (HS.out.calls hb); clear hvf hwf hzf hb) | ((with_reducible refine gS 26 6 rfl ?_); refine sS 1 [.int .i64 nxf, .slice Af lf.length cf] HS ?_; intro w13 n0_ n1_; replace HVf := zM (R_box HVf.out (HS.out.get 1 rfl) (by decide) n1_.out); clear HS; have HS := n0_; clear n0_ n1_) | ((with_reducible refine gS 94 7 rfl ?_); refine sS 0 [.int .i64 rf, .string sf] HS ?_; intro w14 n0_ n1_; replace HVf := zM (R_box HVf.out (HS.out.get 0 rfl) (by decide) n1_.out); clear HS; have HS := n0_; clear n0_ n1_))
   refine rVR 1 0 HS ?_
   exact doNew HVf.out HWf.out HZf.out HS.out.grown
 have n2 : (kd == 2) = false := by simpa using fun h => g1 (by simp [h])
 have n8 : (kd == 8) = false := by simpa using fun h => g1 (by simp [h])
 clear g1
 by_cases g1 : kd = 9
 ·have HKd := zM g1
  rcases g1 with rfl
  all_goals
   go_wp2_with (first | (go_at_call 85; refine (link_any _ nx _ l k (HV.out.keep HS.out.grown) HZ.out HKk.out HW.out u g Ag cg gs (HGc.out.keep HS.out.grown) _ path tgt data n m (by have := HCb.out.1; omega) (by have := HCb.out.2.1; omega)).mono ?_; rintro e w12 ⟨nxf, vf, lf, rf, sf, rfl, hvf, hwf, hzf, hb⟩; obtain ⟨Af, cf, rfl⟩ := Kd.R_slice hvf; have HVf := zM hvf; have HWf := zM hwf; have HZf := zM hzf; replace HS := zM (HS.out.calls hb); clear hvf hwf hzf hb) | ((with_reducible refine gS 26 6 rfl ?_); refine sS 1 [.int .i64 nxf, .slice Af lf.length cf] HS ?_; intro w13 n0_ n1_; replace HVf := zM (R_box HVf.out (HS.out.get 1 rfl) (by decide) n1_.out); clear HS; have HS := n0_; clear n0_ n1_) | ((with_reducible refine gS 94 7 rfl ?_); refine sS 0 [.int .i64 rf, .string sf] HS ?_; intro w14 n0_ n1_; replace HVf := zM (R_box HVf.out (HS.out.get 0 rfl) (by decide) n1_.out); clear HS; have HS := n0_; clear n0_ n1_))
   refine rVR 1 0 HS ?_
   exact doNew HVf.out HWf.out HZf.out HS.out.grown
 have n9 : (kd == 9) = false := by simpa using fun h => g1 (by simp [h])
 clear g1
 by_cases g1 : kd = 12
 ·have HKd := zM g1
  rcases g1 with rfl
  all_goals
   go_wp2_with (first | (go_at_call 86; refine (rename_any _ nx _ l k (HV.out.keep HS.out.grown) HZ.out HKk.out HW.out u g Ag cg gs (HGc.out.keep HS.out.grown) _ path tgt data n m (by have := HCb.out.1; omega) (by have := HCb.out.2.1; omega)).mono ?_; rintro e w12 ⟨nxf, vf, lf, rf, sf, rfl, hvf, hwf, hzf, hb⟩; obtain ⟨Af, cf, rfl⟩ := Kd.R_slice hvf; have HVf := zM hvf; have HWf := zM hwf; have HZf := zM hzf; replace HS := zM (HS.out.calls hb); clear hvf hwf hzf hb) | ((with_reducible refine gS 26 6 rfl ?_); refine sS 1 [.int .i64 nxf, .slice Af lf.length cf] HS ?_; intro w13 n0_ n1_; replace HVf := zM (R_box HVf.out (HS.out.get 1 rfl) (by decide) n1_.out); clear HS; have HS := n0_; clear n0_ n1_) | ((with_reducible refine gS 94 7 rfl ?_); refine sS 0 [.int .i64 rf, .string sf] HS ?_; intro w14 n0_ n1_; replace HVf := zM (R_box HVf.out (HS.out.get 0 rfl) (by decide) n1_.out); clear HS; have HS := n0_; clear n0_ n1_))
   refine rVR 1 0 HS ?_
   exact doNew HVf.out HWf.out HZf.out HS.out.grown
 have n12 : (kd == 12) = false := by simpa using fun h => g1 (by simp [h])
 clear g1
 by_cases g1 : kd = 5 ∨ kd = 6 ∨ kd = 7
 ·have HKd := zM g1
  rcases g1 with rfl | rfl | rfl
  all_goals
   go_wp2_with (first | (go_at_call 87; refine (write_any _ nx _ l k (HV.out.keep HS.out.grown) HZ.out HKk.out HW.out u g Ag cg gs (HGc.out.keep HS.out.grown) _ path tgt data n m (by have := HCb.out.1; omega) HCb.out.2.2.1 HCb.out.2.2.2.2).mono ?_; rintro e w12 ⟨nxf, vf, lf, rf, sf, rfl, hvf, hwf, hzf, hb⟩; obtain ⟨Af, cf, rfl⟩ := Kd.R_slice hvf; have HVf := zM hvf; have HWf := zM hwf; have HZf := zM hzf; replace HS := zM (HS.out.calls hb); clear hvf hwf hzf hb) | ((with_reducible refine gS 26 6 rfl ?_); refine sS 1 [.int .i64 nxf, .slice Af lf.length cf] HS ?_; intro w13 n0_ n1_; replace HVf := zM (R_box HVf.out (HS.out.get 1 rfl) (by decide) n1_.out); clear HS; have HS := n0_; clear n0_ n1_) | ((with_reducible refine gS 94 7 rfl ?_); refine sS 0 [.int .i64 rf, .string sf] HS ?_; intro w14 n0_ n1_; replace HVf := zM (R_box HVf.out (HS.out.get 0 rfl) (by decide) n1_.out); clear HS; have HS := n0_; clear n0_ n1_))
   refine rVR 1 0 HS ?_
   exact doNew HVf.out HWf.out HZf.out HS.out.grown
 have n5 : (kd == 5) = false := by simpa using fun h => g1 (by simp [h])
 have n6 : (kd == 6) = false := by simpa using fun h => g1 (by simp [h])
 have n7 : (kd == 7) = false := by simpa using fun h => g1 (by simp [h])
 clear g1
 by_cases g1 : kd = 15 ∨ kd = 16 ∨ kd = 19
 ·have HKd := zM g1
  rcases g1 with rfl | rfl | rfl
  all_goals
   go_wp2_with (first | (go_at_call 88; refine (set_any _ nx _ l k (HV.out.keep HS.out.grown) HZ.out HKk.out HW.out u g Ag cg gs (HGc.out.keep HS.out.grown) _ path tgt data n m (by have := HCb.out.1; omega)).mono ?_; rintro e w12 ⟨nxf, vf, lf, rf, sf, rfl, hvf, hwf, hzf, hb⟩; obtain ⟨Af, cf, rfl⟩ := Kd.R_slice hvf; have HVf := zM hvf; have HWf := zM hwf; have HZf := zM hzf; replace HS := zM (HS.out.calls hb); clear hvf hwf hzf hb) | ((with_reducible refine gS 26 6 rfl ?_); refine sS 1 [.int .i64 nxf, .slice Af lf.length cf] HS ?_; intro w13 n0_ n1_; replace HVf := zM (R_box HVf.out (HS.out.get 1 rfl) (by decide) n1_.out); clear HS; have HS := n0_; clear n0_ n1_) | ((with_reducible refine gS 94 7 rfl ?_); refine sS 0 [.int .i64 rf, .string sf] HS ?_; intro w14 n0_ n1_; replace HVf := zM (R_box HVf.out (HS.out.get 0 rfl) (by decide) n1_.out); clear HS; have HS := n0_; clear n0_ n1_))
   refine rVR 1 0 HS ?_
   exact doNew HVf.out HWf.out HZf.out HS.out.grown
 have n15 : (kd == 15) = false := by simpa using fun h => g1 (by simp [h])
 have n16 : (kd == 16) = false := by simpa using fun h => g1 (by simp [h])
 have n19 : (kd == 19) = false := by simpa using fun h => g1 (by simp [h])
 clear g1
 go_upto_region 23 with (fail)
 clear z0 z1 y0 y1 y2 p0 p1 p2 p3 p4 p5
 have hne_ : g3 ∉ [g6, g7] := by simpa using (⟨HS.out.ne 4 1 rfl rfl (by decide), HS.out.ne 4 0 rfl rfl (by decide)⟩ : g3 ≠ g6 ∧ g3 ≠ g7)
 have hz0 := Kx.box HS.out 4 rfl hne_ 0 rfl
 have hz1 := Kx.box HS.out 4 rfl hne_ 1 rfl
 clear hne_
 have hne_ : g4 ∉ [g6, g7] := by simpa using (⟨HS.out.ne 3 1 rfl rfl (by decide), HS.out.ne 3 0 rfl rfl (by decide)⟩ : g4 ≠ g6 ∧ g4 ≠ g7)
 have hy0 := Kx.box HS.out 3 rfl hne_ 0 rfl
 have hy1 := Kx.box HS.out 3 rfl hne_ 1 rfl
 have hy2 := Kx.box HS.out 3 rfl hne_ 2 rfl
 clear hne_
 have hne_ : g5 ∉ [g6, g7] := by simpa using (⟨HS.out.ne 2 1 rfl rfl (by decide), HS.out.ne 2 0 rfl rfl (by decide)⟩ : g5 ≠ g6 ∧ g5 ≠ g7)
 have hp0 := Kx.box HS.out 2 rfl hne_ 0 rfl
 have hp1 := Kx.box HS.out 2 rfl hne_ 1 rfl
 have hp2 := Kx.box HS.out 2 rfl hne_ 2 rfl
 have hp3 := Kx.box HS.out 2 rfl hne_ 3 rfl
 have hp4 := Kx.box HS.out 2 rfl hne_ 4 rfl
 have hp5 := Kx.box HS.out 2 rfl hne_ 5 rfl
 clear hne_
 try simp only [Act.put, List.setIfInBounds_toArray, List.set_cons_zero, List.set_cons_succ]
 refine wp_region_mix (KxS [g6, g7] w11) [([0, 1, 2, 3], 4), ([], 5), ([], 6)] [] (by kernel_rfl) (by kernel_rfl) (fun _ _ _ _ h => h) (KxS.drew _ _) ?_
 have hK := KxS.drew [g6, g7] w11
 replace HS := zM (HS.out.drew)
 refine mix_seg ?_
 simp only [pickO, List.map]
 repeat (go_big_quiet_step (fail))
 refine wpQuiet_nil ?_
 go_wp2_with (go_at_call 89; refine (tell_any _ nx _ l k (HV.out.keep HS.out.grown) HZ.out HKk.out HW.out u g Ag cg gs (HGc.out.keep HS.out.grown) kd path tgt data n m (by have := HCb.out.1; omega)).mono ?_; rintro e w20 ⟨rf, sf, rfl, hb⟩; have HG := zM hb; replace HS := zM (HS.out.calls hb); clear hb)
 refine ⟨hK.grow HG.out (by simp), fun hK => mix_seg ?_⟩
 clear HG
 simp only [pickO, List.map]
 repeat (go_big_quiet_step (fail))
 refine wpQuiet_nil ?_
 refine sS 1 [.int .i64 nx, .slice A l.length c] HS ?_; intro w21 n0_ n1_; clear HS; have HS := n0_; have HG := n1_; clear n0_ n1_
 refine ⟨hK.grow HG.out (by simp), fun hK => mix_seg ?_⟩
 clear HG
 simp only [pickO, List.map]
 repeat (go_big_quiet_step (fail))
 refine wpQuiet_nil ?_
 refine sS 0 [.int .i64 rf, .string sf] HS ?_; intro w22 n0_ n1_; clear HS; have HS := n0_; have HG := n1_; clear n0_ n1_
 refine ⟨hK.grow HG.out (by simp), fun hK => mix_end ?_⟩
 clear HG
 simp only [pickO, List.map]
 repeat (go_big_quiet_step (fail))
 refine wpQuiet_nil ?_
 go_wp2
 refine rVR 1 0 HS ?_
 exact doSame HV.out HW.out HZ.out HS.out.grown
def dot1 : ByteArray := ⟨#[46]⟩
def dot2 : ByteArray := ⟨#[46, 46]⟩
def cleanStep (acc : List ByteArray) (p : ByteArray) : List ByteArray := if p = dot1 then acc else if p = dot2 then acc.take (acc.length - 1) else acc ++ [p]
def cleanedB (s : ByteArray) : List ByteArray := (piecesB s).foldl cleanStep []
def joinB (L : List ByteArray) : ByteArray := if L = [] then ⟨#[47]⟩ else mkB (Lib.joinTail [47] (L.map (·.data.toList)))
def cleanB (s : ByteArray) : ByteArray := if okB s = true then joinB (cleanedB s) else ⟨#[]⟩
theorem cleaned_mem (l : List ByteArray) : ∀ (acc : List ByteArray) p, p ∈ l.foldl cleanStep acc → p ∈ acc ∨ p ∈ l := by
 induction l with
 | nil => intro acc p h; exact .inl h
 | cons x l ih =>
  intro acc p h
  rcases ih _ p h with h | h
  ·unfold cleanStep at h
   split at h
   ·exact .inl h
   ·split at h
    ·exact .inl (List.mem_of_mem_take h)
    ·rcases List.mem_append.1 h with h | h
     ·exact .inl h
     ·rw [List.mem_singleton.1 h]; exact .inr List.mem_cons_self
  ·exact .inr (List.mem_cons_of_mem _ h)
theorem mkB_size (l : List UInt8) : (mkB l).size = l.length := by show l.toArray.size = l.length; simp
def plainP (p : ByteArray) : Prop := 1 ≤ p.size ∧ (∀ b ∈ p.data.toList, b ≠ (47 : UInt8)) ∧ p ≠ dot1 ∧ p ≠ dot2
theorem cut_mem : ∀ (t cur l : List UInt8), (∀ b ∈ cur, b ≠ (47 : UInt8)) → l ∈ cutL cur t → l ≠ [] ∧ (∀ b ∈ l, b ≠ (47 : UInt8)) ∧ (∀ b ∈ l, b ∈ cur ∨ b ∈ t)
  | [], cur, l, hc, h => by
    rw [cutL] at h
    split at h
    · simp at h
    · rename_i hn
      rw [List.mem_singleton.1 h]
      exact ⟨hn, hc, fun b hb => .inl hb⟩
  | b :: t, cur, l, hc, h => by
    rw [cutL] at h
    split at h
    · split at h
      · obtain ⟨h1, h2, h3⟩ := cut_mem t [] l (by simp) h
        exact ⟨h1, h2, fun x hx => by rcases h3 x hx with h | h; · simp at h
                                      · exact .inr (List.mem_cons_of_mem _ h)⟩
      · rename_i hn
        rcases List.mem_cons.1 h with rfl | h
        · exact ⟨hn, hc, fun x hx => .inl hx⟩
        · obtain ⟨h1, h2, h3⟩ := cut_mem t [] l (by simp) h
          exact ⟨h1, h2, fun x hx => by rcases h3 x hx with h | h; · simp at h
                                        · exact .inr (List.mem_cons_of_mem _ h)⟩
    · rename_i hb
      obtain ⟨h1, h2, h3⟩ := cut_mem t (cur ++ [b]) l (fun x hx => by
        rcases List.mem_append.1 hx with hx | hx
        · exact hc x hx
        · rw [List.mem_singleton.1 hx]; exact hb) h
      exact ⟨h1, h2, fun x hx => by
        rcases h3 x hx with h | h
        · rcases List.mem_append.1 h with h | h
          · exact .inl h
          · rw [List.mem_singleton.1 h]; exact .inr List.mem_cons_self
        · exact .inr (List.mem_cons_of_mem _ h)⟩
theorem mkB_list (l : List UInt8) : (mkB l).data.toList = l := by unfold mkB; simp
theorem piece_mem (s p : ByteArray) (h : p ∈ piecesB s) : 1 ≤ p.size ∧ (∀ b ∈ p.data.toList, b ≠ (47 : UInt8)) ∧ (∀ b ∈ p.data.toList, b ∈ s.data.toList) := by
  rw [pieces_cut] at h
  obtain ⟨l, hl, rfl⟩ := List.mem_map.1 h
  obtain ⟨h1, h2, h3⟩ := cut_mem _ [] l (by simp) hl
  rw [mkB_size, mkB_list]
  exact ⟨List.length_pos_iff.2 h1, h2, fun b hb => by rcases h3 b hb with h | h; · simp at h
                                                      · exact h⟩
theorem cleaned_dots (l : List ByteArray) : ∀ (acc : List ByteArray), (∀ p ∈ acc, p ≠ dot1 ∧ p ≠ dot2) → ∀ p ∈ l.foldl cleanStep acc, p ≠ dot1 ∧ p ≠ dot2 := by
 induction l with
 | nil => intro acc h p hp; exact h p hp
 | cons x l ih =>
  intro acc h p hp
  refine ih (cleanStep acc x) (fun q hq => ?_) p hp
  unfold cleanStep at hq
  split at hq
  ·exact h q hq
  ·rename_i n1
   split at hq
   ·exact h q (List.mem_of_mem_take hq)
   ·rename_i n2
    rcases List.mem_append.1 hq with hq | hq
    ·exact h q hq
    ·rw [List.mem_singleton.1 hq]; exact ⟨n1, n2⟩
theorem cleaned_plain (s : ByteArray) : ∀ p ∈ cleanedB s, plainP p := by
 intro p hp
 have hd := cleaned_dots (piecesB s) [] (by simp) p hp
 rcases cleaned_mem _ _ _ hp with h | h
 ·simp at h
 ·obtain ⟨h1, h2, _⟩ := piece_mem s p h
  exact ⟨h1, h2, hd⟩
theorem clean_plain (L : List ByteArray) : ∀ acc : List ByteArray, (∀ p ∈ L, plainP p) → L.foldl cleanStep acc = acc ++ L := by
 induction L with
 | nil => intro acc _; simp
 | cons x L ih =>
  intro acc h
  obtain ⟨_, _, n1, n2⟩ := h x List.mem_cons_self
  rw [List.foldl_cons, cleanStep, if_neg n1, if_neg n2, ih _ (fun p hp => h p (List.mem_cons_of_mem _ hp)), List.append_assoc]
  rfl
theorem noslash (l : List UInt8) (h : ∀ b ∈ l, b ≠ (47 : UInt8)) : ∀ k : Nat, l[k]? ≠ some (47 : UInt8) := fun k e => h 47 (List.mem_of_getElem? e) rfl
theorem cut_join (L : List ByteArray) : (∀ p ∈ L, plainP p) → ∀ cur : List UInt8, (∀ b ∈ cur, b ≠ (47 : UInt8)) → cutL cur (Lib.joinTail [47] (L.map (·.data.toList))) = (if cur = [] then [] else [cur]) ++ L.map (·.data.toList) := by
 induction L with
 | nil => intro _ cur _; simp [Lib.joinTail, cutL]
 | cons p L ih =>
  intro h cur hc
  obtain ⟨h1, h2, _, _⟩ := h p List.mem_cons_self
  have hih := ih (fun q hq => h q (List.mem_cons_of_mem _ hq))
  have hz : p.data.toList ≠ [] := by
   intro e
   have : p.data.toList.length = p.size := by rw [Array.length_toList]; rfl
   rw [e] at this; simp at this; omega
  have e : Lib.joinTail [47] ((p :: L).map (·.data.toList)) = 47 :: (p.data.toList ++ Lib.joinTail [47] (L.map (·.data.toList))) := by unfold Lib.joinTail; simp
  rw [e, cutL, if_pos rfl]
  have e2 : cutL [] (p.data.toList ++ Lib.joinTail [47] (L.map (·.data.toList))) = p.data.toList :: L.map (·.data.toList) := by
   cases L with
   | nil =>
    have : Lib.joinTail [47] (([] : List ByteArray).map (·.data.toList)) = [] := rfl
    rw [this, List.append_nil, cutL_none _ _ (noslash _ h2), List.nil_append, if_neg hz]; rfl
   | cons q L =>
    have e3 : Lib.joinTail [47] ((q :: L).map (·.data.toList)) = 47 :: (q.data.toList ++ Lib.joinTail [47] (L.map (·.data.toList))) := by unfold Lib.joinTail; simp
    have h4 := hih [] (by simp)
    rw [e3, cutL, if_pos rfl, if_pos rfl, if_pos rfl, List.nil_append] at h4
    rw [e3, cutL_some _ _ _ (noslash _ h2), List.nil_append, if_neg hz, h4]; rfl
  rw [e2, List.map_cons]
  split <;> rfl
theorem pieces_join (L : List ByteArray) (h : ∀ p ∈ L, plainP p) : piecesB (joinB L) = L := by
 rw [pieces_cut]
 unfold joinB
 by_cases hL : L = []
 ·subst hL
  rw [if_pos rfl]
  show (cutL [] [47]).map mkB = []
  rw [cutL, if_pos rfl, if_pos rfl, cutL, if_pos rfl]; rfl
 ·rw [if_neg hL, mkB_list, cut_join L h [] (by simp), if_pos rfl, List.nil_append, List.map_map]
  have : (mkB ∘ fun x : ByteArray => x.data.toList) = id := funext mkB_data
  rw [this, List.map_id]
theorem okB_iff (s : ByteArray) : okB s = true ↔ (1 ≤ s.size ∧ s.size ≤ 60) ∧ (∀ b ∈ s.data.toList, slashByte ((b.toNat : Nat) : Int) = true) ∧ s.data.toList.head? = some (47 : UInt8) := by
 have hb : (bytesOf s).all slashByte = s.data.toList.all (fun b => slashByte ((b.toNat : Nat) : Int)) := by unfold bytesOf; rw [List.all_map]; rfl
 have hg : (bytesOf s).getD 0 0 = 47 ↔ s.data.toList.head? = some (47 : UInt8) := by
  unfold bytesOf
  cases s.data.toList with
  | nil => simp
  | cons b t =>
   show ((b.toNat : Nat) : Int) = 47 ↔ some b = some 47
   rw [Option.some.injEq]
   constructor
   ·intro h; exact UInt8.toNat_inj.1 (by show b.toNat = 47; omega)
   ·rintro rfl; rfl
 unfold okB pathOkL targetL
 rw [Bool.and_eq_true, Bool.and_eq_true, decide_eq_true_eq, decide_eq_true_eq, bytesOf_length, hb, List.all_eq_true, hg]
 exact and_assoc
def lensum (l : List (List UInt8)) : Nat := (l.map (fun x => x.length + 1)).sum
theorem cut_lensum : ∀ (t cur : List UInt8), lensum (cutL cur t) ≤ cur.length + t.length + 1
 | [], cur => by
  rw [cutL]
  split
  ·simp [lensum]
  ·simp [lensum]
 | b :: t, cur => by
  rw [cutL]
  have h1 := cut_lensum t []
  have h2 := cut_lensum t (cur ++ [b])
  rw [List.length_append] at h2
  simp only [List.length_cons, List.length_nil] at *
  split
  ·split
   ·omega
   ·unfold lensum at *
    rw [List.map_cons, List.sum_cons]; omega
  ·omega
def lenB (L : List ByteArray) : Nat := (L.map (fun p => p.size + 1)).sum
theorem lenB_take (L : List ByteArray) : ∀ n, lenB (L.take n) ≤ lenB L := by
 induction L with
 | nil => intro n; simp [lenB]
 | cons p L ih =>
  intro n
  cases n with
  | zero => simp [lenB]
  | succ n =>
   have := ih n
   unfold lenB at *
   rw [List.take_succ_cons, List.map_cons, List.map_cons, List.sum_cons, List.sum_cons]; omega
theorem lenB_append (A B : List ByteArray) : lenB (A ++ B) = lenB A + lenB B := by unfold lenB; simp
theorem cleaned_lenB (l : List ByteArray) : ∀ acc : List ByteArray, lenB (l.foldl cleanStep acc) ≤ lenB acc + lenB l := by
 induction l with
 | nil => intro acc; simp [lenB]
 | cons x l ih =>
  intro acc
  have h1 := ih (cleanStep acc x)
  have h2 : lenB (cleanStep acc x) ≤ lenB acc + (x.size + 1) := by
   unfold cleanStep
   split
   ·omega
   ·split
    ·have := lenB_take acc (acc.length - 1); omega
    ·rw [lenB_append]; simp [lenB]
  have h3 : lenB (x :: l) = (x.size + 1) + lenB l := by unfold lenB; rw [List.map_cons, List.sum_cons]
  rw [List.foldl_cons]; omega
theorem join_lenB (L : List ByteArray) : (Lib.joinTail [47] (L.map (·.data.toList))).length = lenB L := by
 induction L with
 | nil => rfl
 | cons p L ih =>
  have h4 : p.data.toList.length = p.size := by rw [Array.length_toList]; rfl
  unfold Lib.joinTail lenB at *
  rw [List.map_cons, List.map_cons, List.flatten_cons, List.length_append, List.length_append, h4, ih, List.map_cons, List.sum_cons]
  simp only [List.length_cons, List.length_nil]
  omega
theorem join_bytes (L : List ByteArray) (b : UInt8) (h : b ∈ Lib.joinTail [47] (L.map (·.data.toList))) : b = 47 ∨ ∃ p ∈ L, b ∈ p.data.toList := by
 unfold Lib.joinTail at h
 obtain ⟨l, hl, hb⟩ := List.mem_flatten.1 h
 obtain ⟨x, hx, rfl⟩ := List.mem_map.1 hl
 obtain ⟨p, hp, rfl⟩ := List.mem_map.1 hx
 rcases List.mem_append.1 hb with hb | hb
 ·exact .inl (List.mem_singleton.1 hb)
 ·exact .inr ⟨p, hp, hb⟩
theorem pieces_lenB (s : ByteArray) (h : s.data.toList.head? = some (47 : UInt8)) : lenB (piecesB s) ≤ s.size := by
 have hz : s.data.toList.length = s.size := by rw [Array.length_toList]; rfl
 have e : lenB (piecesB s) = lensum (cutL [] s.data.toList) := by
  rw [pieces_cut]
  unfold lenB lensum
  rw [List.map_map]
  congr 1
 rw [e, ← hz]
 generalize s.data.toList = l at h
 cases l with
 | nil => simp at h
 | cons b t =>
  obtain rfl : b = 47 := by simpa using h
  rw [cutL, if_pos rfl, if_pos rfl]
  have := cut_lensum t []
  simp only [List.length_nil, List.length_cons] at *
  omega
theorem okB_clean (s : ByteArray) (h : okB s = true) : okB (cleanB s) = true := by
 have e : cleanB s = joinB (cleanedB s) := by unfold cleanB; rw [if_pos h]
 rw [e]
 obtain ⟨⟨_, h2⟩, h3, h4⟩ := (okB_iff s).1 h
 unfold joinB
 by_cases hL : cleanedB s = []
 ·rw [if_pos hL]; decide +kernel
 ·rw [if_neg hL]
  refine (okB_iff _).2 ⟨⟨?_, ?_⟩, ?_, ?_⟩
  ·rw [mkB_size, join_lenB]
   cases hc : cleanedB s with
   | nil => exact absurd hc hL
   | cons p L => unfold lenB; rw [List.map_cons, List.sum_cons]; omega
  ·rw [mkB_size, join_lenB]
   have h5 := cleaned_lenB (piecesB s) []
   have h6 := pieces_lenB s h4
   have h7 : lenB (cleanedB s) ≤ lenB [] + lenB (piecesB s) := h5
   have h8 : lenB [] = 0 := rfl
   omega
  ·intro b hb
   rw [mkB_list] at hb
   rcases join_bytes _ _ hb with rfl | ⟨p, hp, hb⟩
   ·rfl
   ·rcases cleaned_mem _ _ _ hp with h | h
    ·simp at h
    ·exact h3 b ((piece_mem s p h).2.2 b hb)
  ·rw [mkB_list]
   cases hc : cleanedB s with
   | nil => exact absurd hc hL
   | cons p L => unfold Lib.joinTail; simp
theorem cleaned_clean (s : ByteArray) (h : okB s = true) : piecesB (cleanB s) = cleanedB s ∧ cleanedB (cleanB s) = cleanedB s := by
 have e : cleanB s = joinB (cleanedB s) := by unfold cleanB; rw [if_pos h]
 have h1 : piecesB (cleanB s) = cleanedB s := by rw [e]; exact pieces_join _ (cleaned_plain s)
 refine ⟨h1, ?_⟩
 unfold cleanedB
 rw [h1, clean_plain _ [] (cleaned_plain s), List.nil_append]
 rfl
structure VolR (l : List S37) : Prop where
 inj : ∀ x ∈ l, ∀ y ∈ l, x.f0 = y.f0 → x = y
 root : inoI l 1 < l.length
 led : ∀ x ∈ l, ∀ d ∈ x.f6, inoI l d.f1 < l.length ∧ d.f1 ≠ 1
 one : ∀ x ∈ l, x.f1 = 2 → x.f0 ≠ 1 → namedN l x.f0 = 1
def goW (l : List S37) (may : S37 → Bool) : Int → List ByteArray → Option Int
 | v, [] => some v
 | v, p :: t =>
  if may (iAt l (inoI l v)) = false then none
  else if p = ⟨#[46]⟩ then goW l may v t
  else if p = ⟨#[46, 46]⟩ then goW l may (parentI l v) t
  else if 8 < p.size then none
  else if stepI l v p = 0 then none
  else if t = [] then some (stepI l v p)
  else if (nodeW l v p).f1 ≠ 2 then none
  else goW l may (stepI l v p) t
section
variable {l : List S37} {may : S37 → Bool}
theorem iAt_kind (h3 : ∀ x ∈ l, x.f1 ≠ 3) (i : Nat) : (iAt l i).f1 ≠ 3 := by
 by_cases h : i < l.length
 ·exact h3 _ (iAt_mem h)
 ·unfold iAt
  rw [List.getD_eq_getElem?_getD, List.getElem?_eq_none (by omega)]
  show (0 : Int) ≠ 3
  decide
theorem walkF_go (h3 : ∀ x ∈ l, x.f1 ≠ 3) (fol : Bool) (n : Nat) : ∀ (t : List ByteArray) (k : Nat) (v : Int), t.length < k → ((walkF l may fol k v n t).2.2.2 = 0 → goW l may v t = some (walkF l may fol k v n t).2.2.1) ∧ (∀ i, goW l may v t = some i → (walkF l may fol k v n t).2.2.2 = 0 ∧ (walkF l may fol k v n t).2.2.1 = i)
 | [], 0, v, hk => absurd hk (by simp)
 | [], k + 1, v, hk => ⟨fun _ => rfl, fun i h => ⟨rfl, by injection h⟩⟩
 | p :: t, 0, v, hk => absurd hk (by simp)
 | p :: t, k + 1, v, hk => by
  have hk' : t.length < k := by rw [List.length_cons] at hk; omega
  have hE : ∀ c : Int, c ≠ 0 → ((spE c).2.2.2 = 0 → (none : Option Int) = some (spE c).2.2.1) ∧ ∀ i, (none : Option Int) = some i → (spE c).2.2.2 = 0 ∧ (spE c).2.2.1 = i := fun c hc => ⟨fun h => absurd h hc, fun i h => by cases h⟩
  rw [goW, walkF]
  split
  ·exact hE 13 (by decide)
  split
  ·exact walkF_go h3 fol n t k v hk'
  split
  ·exact walkF_go h3 fol n t k _ hk'
  split
  ·exact hE 36 (by decide)
  split
  ·split
   ·exact ⟨fun h => absurd h (by show (2 : Int) ≠ 0; decide), fun i h => by cases h⟩
   ·exact hE 2 (by decide)
  have hn3 : ¬ ((nodeW l v p).f1 = 3 ∧ (t ≠ [] ∨ fol = true)) := fun h => iAt_kind h3 _ h.1
  rw [if_neg hn3]
  split
  ·exact ⟨fun _ => rfl, fun i h => ⟨rfl, by injection h⟩⟩
  split
  ·exact hE 20 (by decide)
  ·exact walkF_go h3 fol n t k _ hk'
theorem cnt_one {v : Int} : ∀ {m : List S37} {x y : S37}, x ∈ m → y ∈ m → x ≠ y → 0 < cntD v x.f6 → 0 < cntD v y.f6 → 2 ≤ namedN m v
 | [], x, y, hx, _, _, _, _ => by cases hx
 | z :: m, x, y, hx, hy, hne, h1, h2 => by
  have key : ∀ (ns : List Nat) (n : Nat), n ∈ ns → n ≤ ns.sum := by
   intro ns
   induction ns with
   | nil => exact fun n hn => absurd hn (by simp)
   | cons m ns ih =>
    intro n hn
    rw [List.sum_cons]
    rcases List.mem_cons.1 hn with rfl | hn
    ·omega
    ·have := ih n hn
     omega
  have e : namedN (z :: m) v = cntD v z.f6 + namedN m v := by unfold namedN; rw [List.map_cons, List.sum_cons]
  have hm : ∀ q ∈ m, cntD v q.f6 ≤ namedN m v := fun q hq => key _ _ (List.mem_map.2 ⟨q, hq, rfl⟩)
  rw [e]
  rcases List.mem_cons.1 hx with hx1 | hx <;> rcases List.mem_cons.1 hy with hy1 | hy
  ·exact absurd (hx1.trans hy1.symm) hne
  ·have := hm y hy
   rw [← hx1]
   omega
  ·have := hm x hx
   rw [← hy1]
   omega
  ·have := cnt_one hx hy hne h1 h2
   omega
theorem cnt_pos {v : Int} {ds : List S59} {d : S59} (hd : d ∈ ds) (e : d.f1 = v) : 0 < cntD v ds := by
 unfold cntD
 exact List.length_pos_of_mem (List.mem_filter.2 ⟨hd, by simp [e]⟩)
/-- A directory's parent is where its one name lies. -/
theorem VolR.par (h : VolR l) {u : Int} {p : ByteArray} (hu : inoI l u < l.length) (h0 : stepI l u p ≠ 0) (h2 : (nodeW l u p).f1 = 2) : parentI l (stepI l u p) = u := by
 obtain ⟨d, hd, e⟩ := lookD_mem p _ h0
 have hm := iAt_mem hu
 have hu0 : (iAt l (inoI l u)).f0 = u := by rw [iAt_eq l _ hu]; exact inoI_id l u hu
 obtain ⟨hl, h1⟩ := h.led _ hm d hd
 have ev : d.f1 = stepI l u p := e
 rw [ev] at hl h1
 have hv0 : (nodeW l u p).f0 = stepI l u p := by unfold nodeW; rw [iAt_eq l _ hl]; exact inoI_id l _ hl
 have hvm : nodeW l u p ∈ l := iAt_mem hl
 have hone := h.one _ hvm h2 (by rw [hv0]; exact h1)
 rw [hv0] at hone
 unfold parentI
 split
 ·rename_i x hx
  have hxm := List.mem_of_find?_eq_some hx
  have hxh := List.find?_some hx
  by_cases hxe : x = iAt l (inoI l u)
  ·rw [hxe]
   exact hu0
  ·obtain ⟨d', hd', e'⟩ := List.any_eq_true.1 (show x.f6.any (fun d => d.f1 == stepI l u p) = true from hxh)
   have := cnt_one hxm hm hxe (cnt_pos hd' (by simpa using e')) (cnt_pos hd ev)
   omega
 ·rename_i hx
  have := List.find?_eq_none.1 hx _ hm
  exact absurd (List.any_eq_true.2 ⟨d, hd, by simpa using ev⟩) this
theorem VolR.par1 (h : VolR l) : parentI l 1 = 1 := by
 unfold parentI
 split
 ·rename_i x hx
  have hxh := List.find?_some hx
  obtain ⟨d, hd, e⟩ := List.any_eq_true.1 (show x.f6.any (fun d => d.f1 == 1) = true from hxh)
  exact absurd (by simpa using e) (h.led x (List.mem_of_find?_eq_some hx) d hd).2
 ·rfl
/-- The directories that a stack of names leads through, from the root. -/
inductive Stk (l : List S37) (may : S37 → Bool) : List ByteArray → Int → Prop where
  | nil : Stk l may [] 1
  | snoc {acc : List ByteArray} {u : Int} {p : ByteArray} (hs : Stk l may acc u) (hm : ¬ may (iAt l (inoI l u)) = false) (h1 : ¬ p = ⟨#[46]⟩) (h2 : ¬ p = ⟨#[46, 46]⟩) (h8 : ¬ 8 < p.size) (h0 : ¬ stepI l u p = 0) (hk : (nodeW l u p).f1 = 2) : Stk l may (acc ++ [p]) (stepI l u p)
theorem Stk.there (h : VolR l) {acc : List ByteArray} {u : Int} (hs : Stk l may acc u) : inoI l u < l.length := by
 induction hs with
 | nil => exact h.root
 | snoc hs hm h1 h2 h8 h0 hk ih =>
  obtain ⟨d, hd, e⟩ := lookD_mem _ _ h0
  have := (h.led _ (iAt_mem ih) d hd).1
  rw [e] at this
  exact this
theorem Stk.go {acc : List ByteArray} {u : Int} (hs : Stk l may acc u) : ∀ t, t ≠ [] → goW l may 1 (acc ++ t) = goW l may u t := by
 induction hs with
 | nil => intro t _; rfl
 | @snoc acc u p hs hm h1 h2 h8 h0 hk ih =>
  intro t ht
  rw [List.append_assoc, ih _ (by simp)]
  show goW l may u (p :: t) = _
  rw [goW, if_neg hm, if_neg h1, if_neg h2, if_neg h8, if_neg h0, if_neg ht, if_neg (fun h => h hk)]
theorem Stk.all {acc : List ByteArray} {u : Int} (hs : Stk l may acc u) : goW l may 1 acc = some u := by
 cases hs with
 | nil => rfl
 | snoc hs hm h1 h2 h8 h0 hk =>
  rw [hs.go _ (by simp), goW, if_neg hm, if_neg h1, if_neg h2, if_neg h8, if_neg h0, if_pos rfl]
theorem go_clean (h : VolR l) (i : Int) : ∀ (t acc : List ByteArray) (u : Int), Stk l may acc u → goW l may u t = some i → goW l may 1 (t.foldl cleanStep acc) = some i
 | [], acc, u, hs, hg => by
  rw [goW] at hg
  rw [List.foldl_nil, hs.all, hg]
 | p :: t, acc, u, hs, hg => by
  rw [goW] at hg
  rw [List.foldl_cons]
  split at hg
  ·cases hg
  rename_i hm
  split at hg
  ·rename_i h1
   rw [show cleanStep acc p = acc from if_pos h1]
   exact go_clean h i t acc u hs hg
  rename_i h1
  split at hg
  ·rename_i h2
   rw [show cleanStep acc p = acc.take (acc.length - 1) from (if_neg h1).trans (if_pos h2)]
   refine go_clean h i t _ _ ?_ hg
   cases hs with
   | nil =>
    rw [h.par1]
    exact .nil
   | @snoc acc u p hs hm h1 h2 h8 h0 hk =>
    rw [h.par (hs.there h) h0 hk, List.length_append, List.length_singleton, Nat.add_sub_cancel, List.take_left']
    ·exact hs
    ·rfl
  rename_i h2
  split at hg
  ·cases hg
  rename_i h8
  split at hg
  ·cases hg
  rename_i h0
  rw [show cleanStep acc p = acc ++ [p] from (if_neg h1).trans (if_neg h2)]
  split at hg
  ·rename_i ht
   subst ht
   rw [List.foldl_nil, hs.go _ (by simp), goW, if_neg hm, if_neg h1, if_neg h2, if_neg h8, if_neg h0, if_pos rfl, hg]
  split at hg
  ·cases hg
  rename_i hk
  exact go_clean h i t _ _ (hs.snoc hm h1 h2 h8 h0 (Decidable.byContradiction hk)) hg
end
theorem walk_clean {l : List S37} (h : VolR l) (h3 : ∀ x ∈ l, x.f1 ≠ 3) (may : S37 → Bool) (fol : Bool) (path : ByteArray) (hp : okB path = true) (h0 : (walkV l may path fol).2.2.2 = 0) : (walkV l may (cleanB path) fol).2.2.2 = 0 ∧ (walkV l may (cleanB path) fol).2.2.1 = (walkV l may path fol).2.2.1 := by
 have hk : ∀ t : List ByteArray, t.length < mW 0 t := fun t => by unfold mW; omega
 have h1 := (walkF_go h3 fol 0 (piecesB path) _ 1 (hk _)).1 h0
 have h2 := go_clean (may := may) h _ (piecesB path) [] 1 .nil h1
 have h4 := (cleaned_clean path hp).1
 unfold walkV
 rw [h4]
 exact (walkF_go h3 fol 0 (cleanedB path) _ 1 (hk _)).2 _ h2
theorem names_one {l : List S37} {x : S37} (h1 : inodeOkB l x = true) : ∀ d ∈ x.f6, d.f1 ≠ 1 := by
 intro d hd
 unfold inodeOkB inodeOkV at h1
 simp only [Bool.and_eq_true] at h1
 obtain ⟨-, -, -, h2, h3⟩ := h1
 by_cases hk : x.f1 = 2
 ·rw [hk, if_neg (by decide), if_neg (by decide), if_pos rfl] at h3
  simp only [Bool.and_eq_true] at h3
  have h4 := h3.2.1
  have names : ∀ k i, namesFrom l x.f6 k i = true → ∀ j, i ≤ j → j < i + k → nameAtB l x.f6 j = true := by
   intro k
   induction k with
   | zero => intro i _ j h1 h2; omega
   | succ k ih =>
    intro i hn j hj1 hj2
    rw [namesFrom, Bool.and_eq_true] at hn
    by_cases e : j = i
    ·subst e; exact hn.1
    ·exact ih (i + 1) hn.2 j (by omega) (by omega)
  obtain ⟨j, hj, rfl⟩ := List.getElem_of_mem hd
  have h5 := names x.f6.length 0 h4 j (Nat.zero_le _) (by omega)
  unfold nameAtB at h5
  simp only [Bool.and_eq_true] at h5
  have h6 := h5.2.1
  rw [dAt_eq _ j hj] at h6
  intro e
  rw [e] at h6
  simp at h6
 ·have e2 : (x.f1 == 2) = false := by simpa using hk
  rw [e2] at h2
  have : x.f6.length ≠ 0 := fun e => by rw [List.eq_nil_of_length_eq_zero e] at hd; cases hd
  rw [decide_eq_true (show 0 < x.f6.length by omega)] at h2
  simp at h2
theorem inos_reach (nx : Int) (l : List S37) : ∀ k i, inosFrom nx l k i = true → reachFrom l (l.length - 1) 1 = true
 | 0, i, h => h
 | k + 1, i, h => by
  rw [inosFrom, Bool.and_eq_true] at h
  exact inos_reach nx l k (i + 1) h.2
theorem reach_at (l : List S37) : ∀ k i, reachFrom l k i = true → ∀ j, i ≤ j → j < i + k → reachAtB l j = true
 | 0, i, h, j, h1, h2 => by omega
 | k + 1, i, h, j, h1, h2 => by
  rw [reachFrom, Bool.and_eq_true] at h
  by_cases e : j = i
  ·rw [e]; exact h.1
  ·exact reach_at l k (i + 1) h.2 j (by omega) (by omega)
theorem volR_of {nx : Int} {l : List S37} (h : volOkB nx l = true) : VolR l := by
 have hr := (wf_ok h).root
 unfold volOkB at h
 simp only [Bool.and_eq_true] at h
 obtain ⟨-, h1, h2, -, h5⟩ := h
 have hl : 1 ≤ l.length := by unfold rgB at h1; have := of_decide_eq_true h1; omega
 have hso : Shut l ∧ ∀ x ∈ l, inodeOkB l x = true := by
  rcases inos_and nx l true l.length 0 with q | ⟨q, -⟩
  ·exact shut_of (nx := nx) (fun j hj => q j (Nat.zero_le _) (by omega))
  ·rw [q] at h5; cases h5
 refine ⟨fun x hx y hy e => ?_, hr, fun x hx d hd => ⟨hso.1.led x hx d hd, names_one (hso.2 x hx) d hd⟩, fun x hx h2k h1n => ?_⟩
 ·obtain ⟨i, hi, rfl⟩ := List.getElem_of_mem hx
  obtain ⟨j, hj, rfl⟩ := List.getElem_of_mem hy
  have := hso.1.inj i j hi hj e
  subst this
  rfl
 ·obtain ⟨j, hj, rfl⟩ := List.getElem_of_mem hx
  have e : (iAt l 0).f0 = 1 := by simpa using h2
  rw [iAt_eq l 0 (by omega)] at e
  have hj0 : j ≠ 0 := by rintro rfl; exact h1n e
  have h6 := reach_at l _ 1 (inos_reach nx l _ _ h5) j (by omega) (by omega)
  unfold reachAtB at h6
  rw [iAt_eq l j hj, Bool.and_eq_true] at h6
  have h7 := h6.2
  rw [h2k] at h7
  simpa using h7
end Go.Proofs.YtiopcpkfjikfdaaGreatDoor.PFnClean
