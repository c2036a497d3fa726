/- For every input that the statement reads, the law FnExactUndone of the given program returns true and leaves its arguments as they were. Conditions: none but the statement's own. -/
import Derived.Test.YtdompbebeognmaaRows
import Derived.Test.YtdompbebeognmaaPureFnExactUndone
import Derived.Test.YtdompbebeognmaaLibOpen
import Derived.WalkKit
import Derived.ProofKit
import Derived.OpenShut
import Derived.ShutString
import Derived.ChangeOld
import Derived.Below
import Derived.SizedLaws
import Derived.Carry
import Derived.KernelRfl
namespace Go.Proofs.Ytdompbebeognmaa.fnExactUndone
open Go.ChangeShapes Go.WideShapes Go.ChangeAt Go.RowKit Go.Proofs.Ytdompbebeognmaa.QFnExactUndone Go.Proofs.YtdompbebeognmaaW.PrintWords Go.Proofs.Ytdompbebeognmaa.Lib
open Go.ChangeMaps (open_string shut_string)
set_option linter.unusedVariables false
theorem own : ownKnob Try.prog.godebug = none := by kernel_rfl
theorem laidOut : laidOutB Try.prog = true := by kernel_rfl
theorem op91 : Opens Try.prog 91 k91 WF91 := Opens.iso (fun x => (⟨x.1, x.2⟩ : S91)) (fun _ => rfl) (Opens.struct Try.underlying91 (by kernel_rfl) (OpensFs.cons (Opens.string Try.underlying9) rfl (by kernel_rfl) (OpensFs.last (Opens.int Try.underlying3) rfl (by kernel_rfl)) rfl))
set_option maxRecDepth 100000 in
theorem lifted (os : Os) (started : os.Started) (H : Type) (enc : TypeId × Value → H) :
    ReturnsInHanded {} Try.checked os 10 .any (Rows.fnExactUndoneSpec.pre6 enc Try.prog Try.f10 Rows.fnExactUndoneRow.domain false) (Rows.fnExactUndoneSpec.post enc Try.prog Try.f10 false true false false) := by
  refine returnsInHanded_of_change_sized (C := Try.checked) own started (by kernel_rfl) Try.func10
    (ChangeSpec.witness6 (enc := enc) (C := Try.checked) false ⟨#[], #[.slice none 0 0, .agg #[.string ByteArray.empty, .bool false, .int .i64 0]], []⟩ 8 (by kernel_rfl) (by kernel_rfl) (by kernel_rfl) (by kernel_rfl)) ?_
  intro W base args ds gs before hval0 hW hcnd hsz0 _
  have hsz : (DataW.weightsEach Try.prog (Try.f10.params.toList ++ Rows.fnExactUndoneSpec.plain.varTypes Try.prog) (ds ++ gs)).all (· ≤ reachBytes) = true := hsz0
  have hval : ∀ (j : Nat) t v, Try.f10.params[j]? = some t → args[j]? = some v → Value.okWide Try.prog W .any base t v := hval0
  have hW' := hW
  obtain ⟨p, q, hA0, hV, rfl, hfz, hnd⟩ := hW
  have hA : DataW.TrodAll enc Try.prog W 0 (fun _ => true) true Try.f10.params.toList args.toList ds p := hA0
  rw [Try.params10] at hA hval hsz
  obtain ⟨v0, vs0, d0, ds0, p0, q0, hargs, rfl, rfl, h0, r0⟩ := trodAll_cons hA
  obtain ⟨v1, vs1, d1, ds1, p1, q1, rfl, rfl, rfl, h1, r1⟩ := trodAll_cons r0
  obtain ⟨rfl, rfl, rfl⟩ := trodAll_nil r1
  obtain rfl : args = #[v0, v1] := by cases args; simp_all
  obtain ⟨rfl, rfl⟩ := trodVars_none hV
  obtain ⟨ad0, len0, cap0, rfl⟩ := okWide_slice Try.underlying22 (hval 0 22 v0 rfl rfl)
  have k0 := h0
  have lt0 := trod_lt_ k0
  obtain ⟨l0, ⟨A0, c0, hcs0, hc0, hr0⟩, g0⟩ := Opens.arg (Opens.slice Try.underlying22 op91 (by kernel_rfl)) h0
  obtain ⟨rfl, rfl, rfl⟩ : ad0 = A0 ∧ len0 = l0.length ∧ cap0 = c0 := by simpa [Value.cells] using hcs0
  obtain ⟨cs1, rfl, hz1⟩ := okWide_struct Try.underlying56 (hval 1 56 v1 rfl rfl)
  have k1 := h1
  have lt1 := trod_lt_ k1
  obtain ⟨⟨a1_0, ⟨a1_1, a1_2⟩⟩, ⟨_, _, hcs1, rfl, ⟨_, _, rfl, rfl, rfl⟩⟩, ⟨g1_0, ⟨g1_1, g1_2⟩⟩⟩ := Opens.arg (d := (Kd.pair Kd.string (Kd.pair Kd.bool (Kd.int .i64)))) (Opens.struct Try.underlying56 (by kernel_rfl) (OpensFs.cons (Opens.string Try.underlying9) rfl (by kernel_rfl) (OpensFs.cons (Opens.bool Try.underlying4) rfl (by kernel_rfl) (OpensFs.last (Opens.int Try.underlying3) rfl (by kernel_rfl)) rfl) rfl)) h1
  have hcs1' : cs1.toList = [.string a1_0, .bool a1_1, .int .i64 a1_2] := hcs1
  obtain rfl : cs1 = #[.string a1_0, .bool a1_1, .int .i64 a1_2] := Array.toList_inj.1 hcs1'
  clear hA0 hval0 hsz0 hsz
  obtain ⟨k, h⟩ := Pure.FnExactUndone l0 a1_0 a1_1 a1_2 g0 g1_0 g1_2
  refine (laws_FnExactUndone.calls k _ _ l0 a1_0 a1_1 a1_2 true W hr0 hc0 h).mono fun e W' ⟨he, bel0⟩ => ?_
  have bel : Below W.heap.size W W' := bel0
  subst he
  exact ⟨_, rfl, _, _, _, [], _, [], hW', trodAll_mk1 (shut_bool Try.underlying4 _), (trodAll_cons_mk (Below.trod laidOut (by kernel_rfl) (of_decide_eq_true (by kernel_rfl)) k0 bel lt0) (trodAll_cons_mk (Below.trod laidOut (by kernel_rfl) (of_decide_eq_true (by kernel_rfl)) k1 bel lt1) trodAll_mk0)), rfl, bel.frame _, fun h => by cases h⟩
theorem over : Rows.fnExactUndoneRow.holds Try.pinned (OpenSpec.ofChange Rows.fnExactUndoneSpec) :=
  OpenClaim.holds_of_wide 10 Try.f10 rfl rfl rfl rfl rfl rfl rfl ⟨rfl, rfl, rfl, rfl, rfl⟩ rfl rfl rfl rfl rfl (by kernel_rfl) Try.func10 (by kernel_rfl)
    (of_decide_eq_true (by kernel_rfl)) (by unfold Func.isWrapper; first | (rw [if_pos (by decide +kernel)]; kernel_rfl) | (rw [if_neg (by decide +kernel)]; exact ⟨rfl, rfl⟩))
    (fun os started H enc _ => lifted os started H enc)
theorem proved : Rows.FnExactUndoneSaid := over
#print axioms proved
end Go.Proofs.Ytdompbebeognmaa.fnExactUndone
namespace Go.Proofs.Ytdompbebeognmaa
/-- The row, under a short name, for the claim. -/
theorem fnExactUndone_holds : Rows.FnExactUndoneSaid := fnExactUndone.proved
end Go.Proofs.Ytdompbebeognmaa
