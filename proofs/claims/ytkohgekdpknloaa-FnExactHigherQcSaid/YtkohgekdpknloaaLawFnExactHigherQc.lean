/- For every input that the statement reads, the law FnExactHigherQc of the given program returns true and leaves its arguments as they were. Conditions: none but the statement's own. -/
import Derived.Test.YtkohgekdpknloaaRows
import Derived.Test.YtkohgekdpknloaaPureFnExactHigherQc
import Derived.Test.YtkohgekdpknloaaLibOpen
import Derived.WalkKit
import Derived.ProofKit
import Derived.OpenShut
import Derived.ShutString
import Derived.ChangeOld
import Derived.Below
import Derived.SizedLaws
import Derived.Carry
import Derived.KernelRfl
namespace Go.Proofs.Ytkohgekdpknloaa.fnExactHigherQc
open Go.ChangeShapes Go.WideShapes Go.ChangeAt Go.RowKit Go.Proofs.Ytkohgekdpknloaa.PFnExactHigherQc Go.Proofs.YtkohgekdpknloaaW.PrintWords Go.Proofs.Ytkohgekdpknloaa.Lib
open Go.ChangeMaps (open_string shut_string)
set_option linter.unusedVariables false
theorem own : ownKnob Try.prog.godebug = none := by kernel_rfl
theorem laidOut : laidOutB Try.prog = true := by kernel_rfl
set_option maxRecDepth 100000 in
theorem lifted (os : Os) (started : os.Started) (H : Type) (enc : TypeId × Value → H) :
    ReturnsInHanded {} Try.checked os 3 .any (Rows.fnExactHigherQcSpec.pre6 enc Try.prog Try.f3 Rows.fnExactHigherQcRow.domain false) (Rows.fnExactHigherQcSpec.post enc Try.prog Try.f3 false true false false) := by
  refine returnsInHanded_of_change_sized (C := Try.checked) own started (by kernel_rfl) Try.func3
    (ChangeSpec.witness6 (enc := enc) (C := Try.checked) false ⟨#[], #[.agg #[.int .i64 0, .int .i64 0, .int .i64 0, .int .i64 0], .agg #[.int .i64 0, .int .i64 0, .int .i64 0, .int .i64 0]], []⟩ 8 (by kernel_rfl) (by kernel_rfl) (by kernel_rfl) (by kernel_rfl)) ?_
  intro W base args ds gs before hval0 hW hcnd hsz0 _
  have hsz : (DataW.weightsEach Try.prog (Try.f3.params.toList ++ Rows.fnExactHigherQcSpec.plain.varTypes Try.prog) (ds ++ gs)).all (· ≤ reachBytes) = true := hsz0
  have hval : ∀ (j : Nat) t v, Try.f3.params[j]? = some t → args[j]? = some v → Value.okWide Try.prog W .any base t v := hval0
  have hW' := hW
  obtain ⟨p, q, hA0, hV, rfl, hfz, hnd⟩ := hW
  have hA : DataW.TrodAll enc Try.prog W 0 (fun _ => true) true Try.f3.params.toList args.toList ds p := hA0
  rw [Try.params3] at hA hval hsz
  obtain ⟨v0, vs0, d0, ds0, p0, q0, hargs, rfl, rfl, h0, r0⟩ := trodAll_cons hA
  obtain ⟨v1, vs1, d1, ds1, p1, q1, rfl, rfl, rfl, h1, r1⟩ := trodAll_cons r0
  obtain ⟨rfl, rfl, rfl⟩ := trodAll_nil r1
  obtain rfl : args = #[v0, v1] := by cases args; simp_all
  obtain ⟨rfl, rfl⟩ := trodVars_none hV
  obtain ⟨cs0, rfl, hz0⟩ := okWide_struct Try.underlying23 (hval 0 23 v0 rfl rfl)
  have k0 := h0
  have lt0 := trod_lt_ k0
  obtain ⟨⟨a0_0, ⟨a0_1, ⟨a0_2, a0_3⟩⟩⟩, ⟨_, _, hcs0, rfl, ⟨_, _, rfl, rfl, ⟨_, _, rfl, rfl, rfl⟩⟩⟩, ⟨g0_0, ⟨g0_1, ⟨g0_2, g0_3⟩⟩⟩⟩ := Opens.arg (d := (Kd.pair (Kd.int .i64) (Kd.pair (Kd.int .i64) (Kd.pair (Kd.int .i64) (Kd.int .i64))))) (Opens.struct Try.underlying23 (by kernel_rfl) (OpensFs.cons (Opens.int Try.underlying3) rfl (by kernel_rfl) (OpensFs.cons (Opens.int Try.underlying3) rfl (by kernel_rfl) (OpensFs.cons (Opens.int Try.underlying3) rfl (by kernel_rfl) (OpensFs.last (Opens.int Try.underlying3) rfl (by kernel_rfl)) rfl) rfl) rfl)) h0
  have hcs0' : cs0.toList = [.int .i64 a0_0, .int .i64 a0_1, .int .i64 a0_2, .int .i64 a0_3] := hcs0
  obtain rfl : cs0 = #[.int .i64 a0_0, .int .i64 a0_1, .int .i64 a0_2, .int .i64 a0_3] := Array.toList_inj.1 hcs0'
  obtain ⟨cs1, rfl, hz1⟩ := okWide_struct Try.underlying23 (hval 1 23 v1 rfl rfl)
  have k1 := h1
  have lt1 := trod_lt_ k1
  obtain ⟨⟨a1_0, ⟨a1_1, ⟨a1_2, a1_3⟩⟩⟩, ⟨_, _, hcs1, rfl, ⟨_, _, rfl, rfl, ⟨_, _, rfl, rfl, rfl⟩⟩⟩, ⟨g1_0, ⟨g1_1, ⟨g1_2, g1_3⟩⟩⟩⟩ := Opens.arg (d := (Kd.pair (Kd.int .i64) (Kd.pair (Kd.int .i64) (Kd.pair (Kd.int .i64) (Kd.int .i64))))) (Opens.struct Try.underlying23 (by kernel_rfl) (OpensFs.cons (Opens.int Try.underlying3) rfl (by kernel_rfl) (OpensFs.cons (Opens.int Try.underlying3) rfl (by kernel_rfl) (OpensFs.cons (Opens.int Try.underlying3) rfl (by kernel_rfl) (OpensFs.last (Opens.int Try.underlying3) rfl (by kernel_rfl)) rfl) rfl) rfl)) h1
  have hcs1' : cs1.toList = [.int .i64 a1_0, .int .i64 a1_1, .int .i64 a1_2, .int .i64 a1_3] := hcs1
  obtain rfl : cs1 = #[.int .i64 a1_0, .int .i64 a1_1, .int .i64 a1_2, .int .i64 a1_3] := Array.toList_inj.1 hcs1'
  clear hA0 hval0 hsz0 hsz
  have h := Pure.FnExactHigherQc a0_0 a0_1 a0_2 a0_3 a1_0 a1_1 a1_2 a1_3 g0_0 g0_1 g0_2 g0_3 g1_0 g1_1 g1_2 g1_3
  refine (laws_FnExactHigherQc.calls a0_0 a0_1 a0_2 a0_3 a1_0 a1_1 a1_2 a1_3 true W h).mono fun e W' ⟨he, bel0⟩ => ?_
  have bel : Below W.heap.size W W' := bel0
  subst he
  exact ⟨_, rfl, _, _, _, [], _, [], hW', trodAll_mk1 (shut_bool Try.underlying4 _), (trodAll_cons_mk (Below.trod laidOut (by kernel_rfl) (of_decide_eq_true (by kernel_rfl)) k0 bel lt0) (trodAll_cons_mk (Below.trod laidOut (by kernel_rfl) (of_decide_eq_true (by kernel_rfl)) k1 bel lt1) trodAll_mk0)), rfl, bel.frame _, fun h => by cases h⟩
theorem over : Rows.fnExactHigherQcRow.holds Try.pinned (OpenSpec.ofChange Rows.fnExactHigherQcSpec) :=
  OpenClaim.holds_of_wide 3 Try.f3 rfl rfl rfl rfl rfl rfl rfl ⟨rfl, rfl, rfl, rfl, rfl⟩ rfl rfl rfl rfl rfl (by kernel_rfl) Try.func3 (by kernel_rfl)
    (of_decide_eq_true (by kernel_rfl)) (by unfold Func.isWrapper; first | (rw [if_pos (by decide +kernel)]; kernel_rfl) | (rw [if_neg (by decide +kernel)]; exact ⟨rfl, rfl⟩))
    (fun os started H enc _ => lifted os started H enc)
theorem proved : Rows.FnExactHigherQcSaid := over
#print axioms proved
end Go.Proofs.Ytkohgekdpknloaa.fnExactHigherQc
namespace Go.Proofs.Ytkohgekdpknloaa
/-- The row, under a short name, for the claim. -/
theorem fnExactHigherQc_holds : Rows.FnExactHigherQcSaid := fnExactHigherQc.proved
end Go.Proofs.Ytkohgekdpknloaa
