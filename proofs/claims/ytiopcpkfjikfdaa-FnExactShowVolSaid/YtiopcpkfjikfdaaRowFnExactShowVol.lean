/- The program's ShowVol returns what the reference's ShowVol returns, for all arguments: the row of the given statement, out of the statement over numbers and lists; conditions: none beyond the row's own. Written by rowgen.py (mine). -/
import Derived.Test.YtiopcpkfjikfdaaRows
import Derived.Test.YtiopcpkfjikfdaaStmFnExactShowVol
import Derived.Test.YtiopcpkfjikfdaaPureFnExactShowVol
import Derived.WalkKit
import Derived.ProofKit
import Derived.OpenShut
import Derived.ShutString
import Derived.ChangeOld
import Derived.Below
import Derived.SizedLaws
import Derived.Carry
namespace Go.Proofs.Ytiopcpkfjikfdaa.fnExactShowVol
open Go.ChangeShapes Go.WideShapes Go.ChangeAt Go.RowKit Go.Proofs.YtiopcpkfjikfdaaW.PrintWords Go.Proofs.Ytiopcpkfjikfdaa.PFnExactVolOk
open Go.ChangeMaps (open_string shut_string)
set_option linter.unusedVariables false
theorem own : ownKnob Try.prog.godebug = none := by kernel_rfl
theorem laidOut : laidOutB Try.prog = true := by kernel_rfl
set_option maxRecDepth 100000 in
theorem lifted (os : Os) (started : os.Started) (H : Type) (enc : TypeId × Value → H) :
    ReturnsInHanded {} Try.checked os 7 .any (Rows.fnExactShowVolSpec.pre6 enc Try.prog Try.f7 Rows.fnExactShowVolRow.domain false) (Rows.fnExactShowVolSpec.post enc Try.prog Try.f7 false true false false) := by
  refine returnsInHanded_of_change_sized (C := Try.checked) own started (by kernel_rfl) Try.func7
    (ChangeSpec.witness6 (enc := enc) (C := Try.checked) false ⟨#[], #[.agg #[.int .i64 0, .slice none 0 0]], []⟩ 8 (by kernel_rfl) (by kernel_rfl) (by kernel_rfl) (by kernel_rfl)) ?_
  intro W base args ds gs before hval0 hW hcnd hsz0 _
  have hsz : (DataW.weightsEach Try.prog (Try.f7.params.toList ++ Rows.fnExactShowVolSpec.plain.varTypes Try.prog) (ds ++ gs)).all (· ≤ reachBytes) = true := hsz0
  have hval : ∀ (j : Nat) t v, Try.f7.params[j]? = some t → args[j]? = some v → Value.okWide Try.prog W .any base t v := hval0
  have hW' := hW
  obtain ⟨p, q, hA0, hV, rfl, hfz, hnd⟩ := hW
  have hA : DataW.TrodAll enc Try.prog W 0 (fun _ => true) true Try.f7.params.toList args.toList ds p := hA0
  rw [Try.params7] at hA hval hsz
  obtain ⟨v0, vs0, d0, ds0, p0, q0, hargs, rfl, rfl, h0, r0⟩ := trodAll_cons hA
  obtain ⟨rfl, rfl, rfl⟩ := trodAll_nil r0
  obtain rfl : args = #[v0] := by cases args; simp_all
  obtain ⟨rfl, rfl⟩ := trodVars_none hV
  have k0 := h0
  have lt0 : ∀ x ∈ p0, x.block < W.heap.size := by obtain ⟨m, hm⟩ := k0; exact DataW.trod_lt m _ _ _ hm
  obtain ⟨cs0, rfl, hz0⟩ := okWide_struct Try.underlying24 (hval 0 24 v0 rfl rfl)
  obtain ⟨fuel0, hf0⟩ := h0
  obtain ⟨x0, hK0, hok0⟩ := opens24 enc W 0 (fun _ => true) true fuel0 _ _ hf0
  obtain ⟨a0_0, l0_1⟩ := x0
  obtain ⟨w0_0, w0_1⟩ := hok0
  have hcs0 : ∃ L, L = cs0.toList := ⟨_, rfl⟩
  obtain ⟨L0, hL0⟩ := hcs0
  replace hK0 : ((Kd.pair (Kd.int .i64) (Kd.slice 81 k81))).K W (a0_0, l0_1) L0 := by rw [hL0]; exact hK0
  obtain ⟨_, _, rfl, rfl, ⟨A0_1, c0_1, rfl, hc0_1, hr0_1⟩⟩ := hK0
  obtain rfl : cs0 = #[.int .i64 a0_0, .slice A0_1 l0_1.length c0_1] := (Array.toList_inj.1 hL0).symm
  clear hA0 hval0 hsz0 hsz
  refine (PFnExactVolOk.laws_FnExactShowVol.walk Pure.FnExactShowVol a0_0 _ _ l0_1 W hr0_1 hc0_1 w0_0 w0_1).mono fun e W' ⟨he, bel⟩ => ?_
  subst he
  exact ⟨_, rfl, _, _, _, [], _, [], hW', trodAll_mk1 (shut_bool Try.underlying4 _), (trodAll_cons_mk (Below.trod laidOut (by kernel_rfl) (of_decide_eq_true (by kernel_rfl)) k0 bel lt0) trodAll_mk0), rfl, bel.frame _, fun h => by cases h⟩
theorem over : Rows.fnExactShowVolRow.holds Try.pinned (OpenSpec.ofChange Rows.fnExactShowVolSpec) :=
  OpenClaim.holds_of_wide 7 Try.f7 rfl rfl rfl rfl rfl rfl rfl ⟨rfl, rfl, rfl, rfl, rfl⟩ rfl rfl rfl rfl rfl (by kernel_rfl) Try.func7 (by kernel_rfl)
    (of_decide_eq_true (by kernel_rfl)) (by unfold Func.isWrapper; first | (rw [if_pos (by decide +kernel)]; kernel_rfl) | (rw [if_neg (by decide +kernel)]; exact ⟨rfl, rfl⟩))
    (fun os started H enc _ => lifted os started H enc)
theorem proved : Rows.FnExactShowVolSaid := over
#print axioms proved
end Go.Proofs.Ytiopcpkfjikfdaa.fnExactShowVol
namespace Go.Proofs.Ytiopcpkfjikfdaa
/-- The row, under a short name, for the claim. -/
theorem fnExactShowVol_holds : Rows.FnExactShowVolSaid := fnExactShowVol.proved
end Go.Proofs.Ytiopcpkfjikfdaa
