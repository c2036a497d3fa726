/- For every input that the statement reads, the law FnExactDoneBack of the given program returns true and leaves its arguments as they were. Conditions: none but the statement's own. -/
import Derived.Test.YtdompbebeognmaaRows
import Derived.Test.YtdompbebeognmaaPureFnExactDoneBack
import Derived.Test.YtdompbebeognmaaTbLibOpen
import Derived.WalkKit
import Derived.ProofKit
import Derived.OpenShut
import Derived.ShutString
import Derived.ChangeOld
import Derived.Below
import Derived.SizedLaws
import Derived.Carry
import Derived.KernelRfl
namespace Go.Proofs.Ytdompbebeognmaa.fnExactDoneBack
open Go.ChangeShapes Go.WideShapes Go.ChangeAt Go.RowKit Go.Proofs.Ytdompbebeognmaa.QFnExactDoneBack Go.Proofs.YtdompbebeognmaaW.PrintWords Go.Proofs.Ytdompbebeognmaa.Lib
open Go.ChangeMaps (open_string shut_string)
set_option linter.unusedVariables false
theorem own : ownKnob Try.prog.godebug = none := by kernel_rfl
theorem laidOut : laidOutB Try.prog = true := by kernel_rfl
theorem op91 : Opens Try.prog 91 k91 WF91 := Opens.iso (fun x => (⟨x.1, x.2⟩ : S91)) (fun _ => rfl) (Opens.struct Try.underlying91 (by kernel_rfl) (OpensFs.cons (Opens.string Try.underlying9) rfl (by kernel_rfl) (OpensFs.last (Opens.int Try.underlying3) rfl (by kernel_rfl)) rfl))
theorem op122 : Opens Try.prog 122 k122 WF122 := Opens.iso (fun x => (⟨x.1, x.2.1, x.2.2⟩ : S122)) (fun _ => rfl) (Opens.struct Try.underlying122 (by kernel_rfl) (OpensFs.cons (Opens.int Try.underlying3) rfl (by kernel_rfl) (OpensFs.cons (Opens.string Try.underlying9) rfl (by kernel_rfl) (OpensFs.last (Opens.int Try.underlying3) rfl (by kernel_rfl)) rfl) rfl))
set_option maxRecDepth 100000 in
theorem lifted (os : Os) (started : os.Started) (H : Type) (enc : TypeId × Value → H) :
    ReturnsInHanded {} Try.checked os 13 .any (Rows.fnExactDoneBackSpec.pre6 enc Try.prog Try.f13 Rows.fnExactDoneBackRow.domain false) (Rows.fnExactDoneBackSpec.post enc Try.prog Try.f13 false true false false) := by
  refine returnsInHanded_of_change_sized (C := Try.checked) own started (by kernel_rfl) Try.func13
    (ChangeSpec.witness6 (enc := enc) (C := Try.checked) false ⟨#[], #[.slice none 0 0, .slice none 0 0], []⟩ 8 (by kernel_rfl) (by kernel_rfl) (by kernel_rfl) (by kernel_rfl)) ?_
  intro W base args ds gs before hval0 hW hcnd hsz0 _
  have hsz : (DataW.weightsEach Try.prog (Try.f13.params.toList ++ Rows.fnExactDoneBackSpec.plain.varTypes Try.prog) (ds ++ gs)).all (· ≤ reachBytes) = true := hsz0
  have hval : ∀ (j : Nat) t v, Try.f13.params[j]? = some t → args[j]? = some v → Value.okWide Try.prog W .any base t v := hval0
  have hW' := hW
  obtain ⟨p, q, hA0, hV, rfl, hfz, hnd⟩ := hW
  have hA : DataW.TrodAll enc Try.prog W 0 (fun _ => true) true Try.f13.params.toList args.toList ds p := hA0
  rw [Try.params13] at hA hval hsz
  obtain ⟨v0, vs0, d0, ds0, p0, q0, hargs, rfl, rfl, h0, r0⟩ := trodAll_cons hA
  obtain ⟨v1, vs1, d1, ds1, p1, q1, rfl, rfl, rfl, h1, r1⟩ := trodAll_cons r0
  obtain ⟨rfl, rfl, rfl⟩ := trodAll_nil r1
  obtain rfl : args = #[v0, v1] := by cases args; simp_all
  obtain ⟨rfl, rfl⟩ := trodVars_none hV
  obtain ⟨ad0, len0, cap0, rfl⟩ := okWide_slice Try.underlying22 (hval 0 22 v0 rfl rfl)
  have k0 := h0
  have lt0 := trod_lt_ k0
  obtain ⟨l0, ⟨A0, c0, hcs0, hc0, hr0⟩, g0⟩ := Opens.arg (Opens.slice Try.underlying22 op91 (by kernel_rfl)) h0
  obtain ⟨rfl, rfl, rfl⟩ : ad0 = A0 ∧ len0 = l0.length ∧ cap0 = c0 := by simpa [Value.cells] using hcs0
  obtain ⟨ad1, len1, cap1, rfl⟩ := okWide_slice Try.underlying45 (hval 1 45 v1 rfl rfl)
  have k1 := h1
  have lt1 := trod_lt_ k1
  obtain ⟨l1, ⟨A1, c1, hcs1, hc1, hr1⟩, g1⟩ := Opens.arg (Opens.slice Try.underlying45 op122 (by kernel_rfl)) h1
  obtain ⟨rfl, rfl, rfl⟩ : ad1 = A1 ∧ len1 = l1.length ∧ cap1 = c1 := by simpa [Value.cells] using hcs1
  clear hA0 hval0 hsz0 hsz
  obtain ⟨k, h⟩ := Pure.FnExactDoneBack l0 l1 g0 g1
  refine (laws_FnExactDoneBack.calls k _ _ l0 _ _ l1 true W hr0 hc0 hr1 hc1 h).mono fun e W' ⟨he, bel0⟩ => ?_
  have bel : Below W.heap.size W W' := bel0
  subst he
  exact ⟨_, rfl, _, _, _, [], _, [], hW', trodAll_mk1 (shut_bool Try.underlying4 _), (trodAll_cons_mk (Below.trod laidOut (by kernel_rfl) (of_decide_eq_true (by kernel_rfl)) k0 bel lt0) (trodAll_cons_mk (Below.trod laidOut (by kernel_rfl) (of_decide_eq_true (by kernel_rfl)) k1 bel lt1) trodAll_mk0)), rfl, bel.frame _, fun h => by cases h⟩
theorem over : Rows.fnExactDoneBackRow.holds Try.pinned (OpenSpec.ofChange Rows.fnExactDoneBackSpec) :=
  OpenClaim.holds_of_wide 13 Try.f13 rfl rfl rfl rfl rfl rfl rfl ⟨rfl, rfl, rfl, rfl, rfl⟩ rfl rfl rfl rfl rfl (by kernel_rfl) Try.func13 (by kernel_rfl)
    (of_decide_eq_true (by kernel_rfl)) (by unfold Func.isWrapper; first | (rw [if_pos (by decide +kernel)]; kernel_rfl) | (rw [if_neg (by decide +kernel)]; exact ⟨rfl, rfl⟩))
    (fun os started H enc _ => lifted os started H enc)
theorem proved : Rows.FnExactDoneBackSaid := over
#print axioms proved
end Go.Proofs.Ytdompbebeognmaa.fnExactDoneBack
namespace Go.Proofs.Ytdompbebeognmaa
/-- The row, under a short name, for the claim. -/
theorem fnExactDoneBack_holds : Rows.FnExactDoneBackSaid := fnExactDoneBack.proved
end Go.Proofs.Ytdompbebeognmaa
