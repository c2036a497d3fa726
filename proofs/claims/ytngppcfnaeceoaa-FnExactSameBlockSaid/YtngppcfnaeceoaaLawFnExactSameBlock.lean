/- For every input that the statement reads, the law FnExactSameBlock of the given program returns true and leaves its arguments as they were. Conditions: none but the statement's own. -/
import Derived.Test.YtngppcfnaeceoaaRows
import Derived.Test.YtngppcfnaeceoaaPureFnExactSameBlock
import Derived.Test.YtngppcfnaeceoaaLibOpen
import Derived.WalkKit
import Derived.ProofKit
import Derived.OpenShut
import Derived.ShutString
import Derived.ChangeOld
import Derived.Below
import Derived.SizedLaws
import Derived.Carry
import Derived.KernelRfl
namespace Go.Proofs.Ytngppcfnaeceoaa.fnExactSameBlock
open Go.ChangeShapes Go.WideShapes Go.ChangeAt Go.RowKit Go.Proofs.Ytngppcfnaeceoaa.QFnExactSameBlock Go.Proofs.YtngppcfnaeceoaaW.PrintWords Go.Proofs.Ytngppcfnaeceoaa.Lib
open Go.ChangeMaps (open_string shut_string)
set_option linter.unusedVariables false
theorem own : ownKnob Try.prog.godebug = none := by kernel_rfl
theorem laidOut : laidOutB Try.prog = true := by kernel_rfl
theorem op108 : Opens Try.prog 108 k108 WF108 := Opens.iso (fun x => (⟨x.1, x.2.1, x.2.2⟩ : S108)) (fun _ => rfl) (Opens.struct Try.underlying108 (by kernel_rfl) (OpensFs.cons (Opens.int Try.underlying3) rfl (by kernel_rfl) (OpensFs.cons (Opens.string Try.underlying9) rfl (by kernel_rfl) (OpensFs.last (Opens.int Try.underlying3) rfl (by kernel_rfl)) rfl) rfl))
set_option maxRecDepth 100000 in
theorem lifted (os : Os) (started : os.Started) (H : Type) (enc : TypeId × Value → H) :
    ReturnsInHanded {} Try.checked os 13 .any (Rows.fnExactSameBlockSpec.pre6 enc Try.prog Try.f13 Rows.fnExactSameBlockRow.domain false) (Rows.fnExactSameBlockSpec.post enc Try.prog Try.f13 false true false false) := by
  refine returnsInHanded_of_change_sized (C := Try.checked) own started (by kernel_rfl) Try.func13
    (ChangeSpec.witness6 (enc := enc) (C := Try.checked) false ⟨#[], #[.agg #[.int .i64 0, .int .i64 0, .slice none 0 0, .int .i64 0, .int .i64 0, .int .i64 0, .int .i64 0], .agg #[.int .i64 0, .int .i64 0, .slice none 0 0, .int .i64 0, .int .i64 0, .int .i64 0, .int .i64 0]], []⟩ 8 (by kernel_rfl) (by kernel_rfl) (by kernel_rfl) (by kernel_rfl)) ?_
  intro W base args ds gs before hval0 hW hcnd hsz0 _
  have hsz : (DataW.weightsEach Try.prog (Try.f13.params.toList ++ Rows.fnExactSameBlockSpec.plain.varTypes Try.prog) (ds ++ gs)).all (· ≤ reachBytes) = true := hsz0
  have hval : ∀ (j : Nat) t v, Try.f13.params[j]? = some t → args[j]? = some v → Value.okWide Try.prog W .any base t v := hval0
  have hW' := hW
  obtain ⟨p, q, hA0, hV, rfl, hfz, hnd⟩ := hW
  have hA : DataW.TrodAll enc Try.prog W 0 (fun _ => true) true Try.f13.params.toList args.toList ds p := hA0
  rw [Try.params13] at hA hval hsz
  obtain ⟨v0, vs0, d0, ds0, p0, q0, hargs, rfl, rfl, h0, r0⟩ := trodAll_cons hA
  obtain ⟨v1, vs1, d1, ds1, p1, q1, rfl, rfl, rfl, h1, r1⟩ := trodAll_cons r0
  obtain ⟨rfl, rfl, rfl⟩ := trodAll_nil r1
  obtain rfl : args = #[v0, v1] := by cases args; simp_all
  obtain ⟨rfl, rfl⟩ := trodVars_none hV
  obtain ⟨cs0, rfl, hz0⟩ := okWide_struct Try.underlying85 (hval 0 85 v0 rfl rfl)
  have k0 := h0
  have lt0 := trod_lt_ k0
  obtain ⟨⟨a0_0, ⟨a0_1, ⟨l0_2, ⟨a0_3, ⟨a0_4, ⟨a0_5, a0_6⟩⟩⟩⟩⟩⟩, ⟨_, _, hcs0, rfl, ⟨_, _, rfl, rfl, ⟨_, _, rfl, ⟨A0_2, c0_2, rfl, hc0_2, hr0_2⟩, ⟨_, _, rfl, rfl, ⟨_, _, rfl, rfl, ⟨_, _, rfl, rfl, rfl⟩⟩⟩⟩⟩⟩, ⟨g0_0, ⟨g0_1, ⟨g0_2, ⟨g0_3, ⟨g0_4, ⟨g0_5, g0_6⟩⟩⟩⟩⟩⟩⟩ := Opens.arg (d := (Kd.pair (Kd.int .i64) (Kd.pair (Kd.int .i64) (Kd.pair (Kd.slice 108 k108) (Kd.pair (Kd.int .i64) (Kd.pair (Kd.int .i64) (Kd.pair (Kd.int .i64) (Kd.int .i64)))))))) (Opens.struct Try.underlying85 (by kernel_rfl) (OpensFs.cons (Opens.int Try.underlying3) rfl (by kernel_rfl) (OpensFs.cons (Opens.int Try.underlying3) rfl (by kernel_rfl) (OpensFs.cons (Opens.slice Try.underlying50 op108 (by kernel_rfl)) rfl (by kernel_rfl) (OpensFs.last (Opens.struct Try.underlying83 (by kernel_rfl) (OpensFs.cons (Opens.int Try.underlying3) rfl (by kernel_rfl) (OpensFs.cons (Opens.int Try.underlying3) rfl (by kernel_rfl) (OpensFs.cons (Opens.int Try.underlying3) rfl (by kernel_rfl) (OpensFs.last (Opens.int Try.underlying3) rfl (by kernel_rfl)) rfl) rfl) rfl)) rfl (by kernel_rfl)) rfl) rfl) rfl)) h0
  have hcs0' : cs0.toList = [.int .i64 a0_0, .int .i64 a0_1, .slice A0_2 l0_2.length c0_2, .int .i64 a0_3, .int .i64 a0_4, .int .i64 a0_5, .int .i64 a0_6] := hcs0
  obtain rfl : cs0 = #[.int .i64 a0_0, .int .i64 a0_1, .slice A0_2 l0_2.length c0_2, .int .i64 a0_3, .int .i64 a0_4, .int .i64 a0_5, .int .i64 a0_6] := Array.toList_inj.1 hcs0'
  obtain ⟨cs1, rfl, hz1⟩ := okWide_struct Try.underlying85 (hval 1 85 v1 rfl rfl)
  have k1 := h1
  have lt1 := trod_lt_ k1
  obtain ⟨⟨a1_0, ⟨a1_1, ⟨l1_2, ⟨a1_3, ⟨a1_4, ⟨a1_5, a1_6⟩⟩⟩⟩⟩⟩, ⟨_, _, hcs1, rfl, ⟨_, _, rfl, rfl, ⟨_, _, rfl, ⟨A1_2, c1_2, rfl, hc1_2, hr1_2⟩, ⟨_, _, rfl, rfl, ⟨_, _, rfl, rfl, ⟨_, _, rfl, rfl, rfl⟩⟩⟩⟩⟩⟩, ⟨g1_0, ⟨g1_1, ⟨g1_2, ⟨g1_3, ⟨g1_4, ⟨g1_5, g1_6⟩⟩⟩⟩⟩⟩⟩ := Opens.arg (d := (Kd.pair (Kd.int .i64) (Kd.pair (Kd.int .i64) (Kd.pair (Kd.slice 108 k108) (Kd.pair (Kd.int .i64) (Kd.pair (Kd.int .i64) (Kd.pair (Kd.int .i64) (Kd.int .i64)))))))) (Opens.struct Try.underlying85 (by kernel_rfl) (OpensFs.cons (Opens.int Try.underlying3) rfl (by kernel_rfl) (OpensFs.cons (Opens.int Try.underlying3) rfl (by kernel_rfl) (OpensFs.cons (Opens.slice Try.underlying50 op108 (by kernel_rfl)) rfl (by kernel_rfl) (OpensFs.last (Opens.struct Try.underlying83 (by kernel_rfl) (OpensFs.cons (Opens.int Try.underlying3) rfl (by kernel_rfl) (OpensFs.cons (Opens.int Try.underlying3) rfl (by kernel_rfl) (OpensFs.cons (Opens.int Try.underlying3) rfl (by kernel_rfl) (OpensFs.last (Opens.int Try.underlying3) rfl (by kernel_rfl)) rfl) rfl) rfl)) rfl (by kernel_rfl)) rfl) rfl) rfl)) h1
  have hcs1' : cs1.toList = [.int .i64 a1_0, .int .i64 a1_1, .slice A1_2 l1_2.length c1_2, .int .i64 a1_3, .int .i64 a1_4, .int .i64 a1_5, .int .i64 a1_6] := hcs1
  obtain rfl : cs1 = #[.int .i64 a1_0, .int .i64 a1_1, .slice A1_2 l1_2.length c1_2, .int .i64 a1_3, .int .i64 a1_4, .int .i64 a1_5, .int .i64 a1_6] := Array.toList_inj.1 hcs1'
  clear hA0 hval0 hsz0 hsz
  obtain ⟨k, h⟩ := Pure.FnExactSameBlock a0_0 a0_1 l0_2 a0_3 a0_4 a0_5 a0_6 a1_0 a1_1 l1_2 a1_3 a1_4 a1_5 a1_6 g0_0 g0_1 g0_2 g0_3 g0_4 g0_5 g0_6 g1_0 g1_1 g1_2 g1_3 g1_4 g1_5 g1_6
  refine (laws_FnExactSameBlock.calls k a0_0 a0_1 _ _ l0_2 a0_3 a0_4 a0_5 a0_6 a1_0 a1_1 _ _ l1_2 a1_3 a1_4 a1_5 a1_6 true W hr0_2 hc0_2 hr1_2 hc1_2 h).mono fun e W' ⟨he, bel0⟩ => ?_
  have bel : Below W.heap.size W W' := bel0
  subst he
  exact ⟨_, rfl, _, _, _, [], _, [], hW', trodAll_mk1 (shut_bool Try.underlying4 _), (trodAll_cons_mk (Below.trod laidOut (by kernel_rfl) (of_decide_eq_true (by kernel_rfl)) k0 bel lt0) (trodAll_cons_mk (Below.trod laidOut (by kernel_rfl) (of_decide_eq_true (by kernel_rfl)) k1 bel lt1) trodAll_mk0)), rfl, bel.frame _, fun h => by cases h⟩
theorem over : Rows.fnExactSameBlockRow.holds Try.pinned (OpenSpec.ofChange Rows.fnExactSameBlockSpec) :=
  OpenClaim.holds_of_wide 13 Try.f13 rfl rfl rfl rfl rfl rfl rfl ⟨rfl, rfl, rfl, rfl, rfl⟩ rfl rfl rfl rfl rfl (by kernel_rfl) Try.func13 (by kernel_rfl)
    (of_decide_eq_true (by kernel_rfl)) (by unfold Func.isWrapper; first | (rw [if_pos (by decide +kernel)]; kernel_rfl) | (rw [if_neg (by decide +kernel)]; exact ⟨rfl, rfl⟩))
    (fun os started H enc _ => lifted os started H enc)
theorem proved : Rows.FnExactSameBlockSaid := over
#print axioms proved
end Go.Proofs.Ytngppcfnaeceoaa.fnExactSameBlock
namespace Go.Proofs.Ytngppcfnaeceoaa
/-- The row, under a short name, for the claim. -/
theorem fnExactSameBlock_holds : Rows.FnExactSameBlockSaid := fnExactSameBlock.proved
end Go.Proofs.Ytngppcfnaeceoaa
