/- The program's KeptOk returns what the reference's KeptOk returns, for all arguments: the row of the given statement, out of the statement over numbers and lists; conditions: none beyond the row's own. Written by rowgen.py (mine). -/
import Derived.Test.YtnoklcpoocaimaaRows
import Derived.Test.YtnoklcpoocaimaaStmFnExactKeptOk
import Derived.Test.YtnoklcpoocaimaaPureFnExactKeptOk
import Derived.WalkKit
import Derived.ProofKit
import Derived.OpenShut
import Derived.ShutString
import Derived.ChangeOld
import Derived.Below
import Derived.SizedLaws
import Derived.Carry
namespace Go.Proofs.Ytnoklcpoocaimaa.fnExactKeptOk
open Go.ChangeShapes Go.WideShapes Go.ChangeAt Go.RowKit Go.Proofs.YtnoklcpoocaimaaW.PrintWords Go.Proofs.Ytnoklcpoocaimaa.PFnExactKeptOk
open Go.ChangeMaps (open_string shut_string)
set_option linter.unusedVariables false
theorem own : ownKnob Try.prog.godebug = none := by kernel_rfl
theorem laidOut : laidOutB Try.prog = true := by kernel_rfl
set_option maxRecDepth 100000 in
theorem lifted (os : Os) (started : os.Started) (H : Type) (enc : TypeId × Value → H) :
    ReturnsInHanded {} Try.checked os 9 .any (Rows.fnExactKeptOkSpec.pre6 enc Try.prog Try.f9 Rows.fnExactKeptOkRow.domain false) (Rows.fnExactKeptOkSpec.post enc Try.prog Try.f9 false true false false) := by
  refine returnsInHanded_of_change_sized (C := Try.checked) own started (by kernel_rfl) Try.func9
    (ChangeSpec.witness6 (enc := enc) (C := Try.checked) false ⟨#[], #[.agg #[.int .i64 0, .int .i64 0, .int .i64 0, .int .i64 0, .string ByteArray.empty, .slice none 0 0]], []⟩ 8 (by kernel_rfl) (by kernel_rfl) (by kernel_rfl) (by kernel_rfl)) ?_
  intro W base args ds gs before hval0 hW hcnd hsz0 _
  have hval : ∀ (j : Nat) t v, Try.f9.params[j]? = some t → args[j]? = some v → Value.okWide Try.prog W .any base t v := hval0
  have hW' := hW
  obtain ⟨p, q, hA0, hV, rfl, hfz, hnd⟩ := hW
  have hA : DataW.TrodAll enc Try.prog W 0 (fun _ => true) true Try.f9.params.toList args.toList ds p := hA0
  rw [Try.params9] at hA hval
  obtain ⟨v0, vs0, d0, ds0, p0, q0, hargs, rfl, rfl, h0, r0⟩ := trodAll_cons hA
  obtain ⟨rfl, rfl, rfl⟩ := trodAll_nil r0
  obtain rfl : args = #[v0] := by cases args; simp_all
  obtain ⟨rfl, rfl⟩ := trodVars_none hV
  have k0 := h0
  have lt0 : ∀ x ∈ p0, x.block < W.heap.size := by obtain ⟨m, hm⟩ := k0; exact DataW.trod_lt m _ _ _ hm
  obtain ⟨cs0, rfl, hz0⟩ := okWide_struct Try.underlying59 (hval 0 59 v0 rfl rfl)
  obtain ⟨fuel0, hf0⟩ := h0
  obtain ⟨x0, hK0, hok0⟩ := opens59 enc W 0 (fun _ => true) true fuel0 _ _ hf0
  obtain ⟨a0_0, ⟨a0_1, ⟨⟨a0_2, ⟨a0_3, a0_4⟩⟩, l0_5⟩⟩⟩ := x0
  obtain ⟨w0_0, ⟨w0_1, ⟨⟨w0_2, ⟨w0_3, w0_4⟩⟩, w0_5⟩⟩⟩ := hok0
  have hcs0 : ∃ L, L = cs0.toList := ⟨_, rfl⟩
  obtain ⟨L0, hL0⟩ := hcs0
  replace hK0 : ((Kd.pair (Kd.int .i64) (Kd.pair (Kd.int .i64) (Kd.pair (Kd.pair (Kd.int .i64) (Kd.pair (Kd.int .i64) Kd.string)) (Kd.slice 132 k132))))).K W (a0_0, (a0_1, ((a0_2, (a0_3, a0_4)), l0_5))) L0 := by rw [hL0]; exact hK0
  obtain ⟨_, _, rfl, rfl, ⟨_, _, rfl, rfl, ⟨_, _, rfl, ⟨_, _, rfl, rfl, ⟨_, _, rfl, rfl, rfl⟩⟩, ⟨A0_5, c0_5, rfl, hc0_5, hr0_5⟩⟩⟩⟩ := hK0
  obtain rfl : cs0 = #[.int .i64 a0_0, .int .i64 a0_1, .int .i64 a0_2, .int .i64 a0_3, .string a0_4, .slice A0_5 l0_5.length c0_5] := (Array.toList_inj.1 hL0).symm
  clear hA0 hval0 hsz0
  refine (PFnExactKeptOk.laws_FnExactKeptOk.walk Pure.FnExactKeptOk a0_0 a0_1 a0_2 a0_3 a0_4 A0_5 c0_5 l0_5 W hr0_5 hc0_5 w0_0 w0_1 w0_2 w0_3 w0_4 w0_5).mono fun e W' ⟨he, bel⟩ => ?_
  subst he
  exact ⟨_, rfl, _, _, _, [], _, [], hW', trodAll_mk1 (shut_bool Try.underlying4 _), (trodAll_cons_mk (Below.trod laidOut (by kernel_rfl) (of_decide_eq_true (by kernel_rfl)) k0 bel lt0) trodAll_mk0), rfl, bel.frame _, fun h => by cases h⟩
theorem over : Rows.fnExactKeptOkRow.holds Try.pinned (OpenSpec.ofChange Rows.fnExactKeptOkSpec) :=
  OpenClaim.holds_of_wide 9 Try.f9 rfl rfl rfl rfl rfl rfl rfl ⟨rfl, rfl, rfl, rfl, rfl⟩ rfl rfl rfl rfl rfl (by kernel_rfl) Try.func9 (by kernel_rfl)
    (of_decide_eq_true (by kernel_rfl)) (by unfold Func.isWrapper; first | (rw [if_pos (by decide +kernel)]; kernel_rfl) | (rw [if_neg (by decide +kernel)]; exact ⟨rfl, rfl⟩))
    (fun os started H enc _ => lifted os started H enc)
theorem proved : Rows.FnExactKeptOkSaid := over
#print axioms proved
end Go.Proofs.Ytnoklcpoocaimaa.fnExactKeptOk
namespace Go.Proofs.Ytnoklcpoocaimaa
/-- The row, under a short name, for the claim. -/
theorem fnExactKeptOk_holds : Rows.FnExactKeptOkSaid := fnExactKeptOk.proved
end Go.Proofs.Ytnoklcpoocaimaa
