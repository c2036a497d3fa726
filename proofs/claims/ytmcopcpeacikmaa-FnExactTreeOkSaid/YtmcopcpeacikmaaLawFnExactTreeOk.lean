/- For every input that the statement reads, the law FnExactTreeOk of the given program returns true and leaves its arguments as they were. Conditions: none but the statement's own. -/
import Derived.Test.YtmcopcpeacikmaaRows
import Derived.Test.YtmcopcpeacikmaaPureFnExactTreeOk
import Derived.Test.YtmcopcpeacikmaaTLibOpen
import Derived.WalkKit
import Derived.ProofKit
import Derived.OpenShut
import Derived.ShutString
import Derived.ChangeOld
import Derived.Below
import Derived.SizedLaws
import Derived.Carry
import Derived.KernelRfl
namespace Go.Proofs.Ytmcopcpeacikmaa.fnExactTreeOk
open Go.ChangeShapes Go.WideShapes Go.ChangeAt Go.RowKit Go.Proofs.Ytmcopcpeacikmaa.QFnExactTreeOk Go.Proofs.YtmcopcpeacikmaaW.PrintWords Go.Proofs.Ytmcopcpeacikmaa.Lib
open Go.ChangeMaps (open_string shut_string)
set_option linter.unusedVariables false
theorem own : ownKnob Try.prog.godebug = none := by kernel_rfl
theorem laidOut : laidOutB Try.prog = true := by kernel_rfl
theorem op116 : Opens Try.prog 116 k116 WF116 := Opens.iso (fun x => (⟨x.1, x.2.1, x.2.2⟩ : S116)) (fun _ => rfl) (Opens.struct Try.underlying116 (by kernel_rfl) (OpensFs.cons (Opens.int Try.underlying3) rfl (by kernel_rfl) (OpensFs.cons (Opens.string Try.underlying9) rfl (by kernel_rfl) (OpensFs.last (Opens.int Try.underlying3) rfl (by kernel_rfl)) rfl) rfl))
theorem op44 : Opens Try.prog 44 k44 WF44 := Opens.iso (fun x => (⟨x.1, x.2.1, x.2.2.1, x.2.2.2⟩ : S44)) (fun _ => rfl) (Opens.struct Try.underlying44 (by kernel_rfl) (OpensFs.cons (Opens.int Try.underlying3) rfl (by kernel_rfl) (OpensFs.cons (Opens.int Try.underlying3) rfl (by kernel_rfl) (OpensFs.cons (Opens.int Try.underlying3) rfl (by kernel_rfl) (OpensFs.last (Opens.int Try.underlying3) rfl (by kernel_rfl)) rfl) rfl) rfl))
theorem op58 : Opens Try.prog 58 k58 WF58 := Opens.iso (fun x => (⟨x.1, x.2.1, x.2.2.1, x.2.2.2⟩ : S58)) (fun _ => rfl) (Opens.struct Try.underlying58 (by kernel_rfl) (OpensFs.cons (Opens.int Try.underlying3) rfl (by kernel_rfl) (OpensFs.cons (Opens.int Try.underlying3) rfl (by kernel_rfl) (OpensFs.cons (Opens.slice Try.underlying56 op116 (by kernel_rfl)) rfl (by kernel_rfl) (OpensFs.last op44 rfl (by kernel_rfl)) rfl) rfl) rfl))
set_option maxRecDepth 100000 in
theorem lifted (os : Os) (started : os.Started) (H : Type) (enc : TypeId × Value → H) :
    ReturnsInHanded {} Try.checked os 14 .any (Rows.fnExactTreeOkSpec.pre6 enc Try.prog Try.f14 Rows.fnExactTreeOkRow.domain false) (Rows.fnExactTreeOkSpec.post enc Try.prog Try.f14 false true false false) := by
  refine returnsInHanded_of_change_sized (C := Try.checked) own started (by kernel_rfl) Try.func14
    (ChangeSpec.witness6 (enc := enc) (C := Try.checked) false ⟨#[], #[.slice none 0 0], []⟩ 8 (by kernel_rfl) (by kernel_rfl) (by kernel_rfl) (by kernel_rfl)) ?_
  intro W base args ds gs before hval0 hW hcnd hsz0 _
  have hsz : (DataW.weightsEach Try.prog (Try.f14.params.toList ++ Rows.fnExactTreeOkSpec.plain.varTypes Try.prog) (ds ++ gs)).all (· ≤ reachBytes) = true := hsz0
  have hval : ∀ (j : Nat) t v, Try.f14.params[j]? = some t → args[j]? = some v → Value.okWide Try.prog W .any base t v := hval0
  have hW' := hW
  obtain ⟨p, q, hA0, hV, rfl, hfz, hnd⟩ := hW
  have hA : DataW.TrodAll enc Try.prog W 0 (fun _ => true) true Try.f14.params.toList args.toList ds p := hA0
  rw [Try.params14] at hA hval hsz
  obtain ⟨v0, vs0, d0, ds0, p0, q0, hargs, rfl, rfl, h0, r0⟩ := trodAll_cons hA
  obtain ⟨rfl, rfl, rfl⟩ := trodAll_nil r0
  obtain rfl : args = #[v0] := by cases args; simp_all
  obtain ⟨rfl, rfl⟩ := trodVars_none hV
  obtain ⟨ad0, len0, cap0, rfl⟩ := okWide_slice Try.underlying33 (hval 0 33 v0 rfl rfl)
  have k0 := h0
  have lt0 := trod_lt_ k0
  obtain ⟨l0, ⟨A0, c0, hcs0, hc0, hr0⟩, g0⟩ := Opens.arg (Opens.slice Try.underlying33 op58 (by kernel_rfl)) h0
  obtain ⟨rfl, rfl, rfl⟩ : ad0 = A0 ∧ len0 = l0.length ∧ cap0 = c0 := by simpa [Value.cells] using hcs0
  clear hA0 hval0 hsz0 hsz
  obtain ⟨k, h⟩ := Pure.FnExactTreeOk l0 g0
  refine (laws_FnExactTreeOk.calls k _ _ l0 true W hr0 hc0 h).mono fun e W' ⟨he, bel0⟩ => ?_
  have bel : Below W.heap.size W W' := bel0
  subst he
  exact ⟨_, rfl, _, _, _, [], _, [], hW', trodAll_mk1 (shut_bool Try.underlying4 _), (trodAll_cons_mk (Below.trod laidOut (by kernel_rfl) (of_decide_eq_true (by kernel_rfl)) k0 bel lt0) trodAll_mk0), rfl, bel.frame _, fun h => by cases h⟩
theorem over : Rows.fnExactTreeOkRow.holds Try.pinned (OpenSpec.ofChange Rows.fnExactTreeOkSpec) :=
  OpenClaim.holds_of_wide 14 Try.f14 rfl rfl rfl rfl rfl rfl rfl ⟨rfl, rfl, rfl, rfl, rfl⟩ rfl rfl rfl rfl rfl (by kernel_rfl) Try.func14 (by kernel_rfl)
    (of_decide_eq_true (by kernel_rfl)) (by unfold Func.isWrapper; first | (rw [if_pos (by decide +kernel)]; kernel_rfl) | (rw [if_neg (by decide +kernel)]; exact ⟨rfl, rfl⟩))
    (fun os started H enc _ => lifted os started H enc)
theorem proved : Rows.FnExactTreeOkSaid := over
#print axioms proved
end Go.Proofs.Ytmcopcpeacikmaa.fnExactTreeOk
namespace Go.Proofs.Ytmcopcpeacikmaa
/-- The row, under a short name, for the claim. -/
theorem fnExactTreeOk_holds : Rows.FnExactTreeOkSaid := fnExactTreeOk.proved
end Go.Proofs.Ytmcopcpeacikmaa
