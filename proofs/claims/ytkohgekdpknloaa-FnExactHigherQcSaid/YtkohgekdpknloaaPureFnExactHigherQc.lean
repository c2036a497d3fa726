/- For every input that the statement reads, the law FnExactHigherQc of the given program returns true and leaves its arguments as they were. Conditions: none but the statement's own. -/
import Derived.Test.YtkohgekdpknloaaStmFnExactHigherQc
import Derived.Test.YtkohgekdpknloaaLib
set_option linter.unusedVariables false
set_option linter.unusedSimpArgs false
namespace Go.Proofs.Ytkohgekdpknloaa.Pure
open Go.RowKit Go.Proofs.Ytkohgekdpknloaa.PFnExactHigherQc Go.Proofs.YtkohgekdpknloaaW.PrintWords Go.Proofs.YtkohgekdpknloaaW.PrintLast Go.Proofs.YtkohgekdpknloaaW.PrintMore Go.Proofs.Ytkohgekdpknloaa.Lib


theorem FnExactHigherQc : laws_FnExactHigherQc.Pure := by
  intro a0 a1 a2 a3 b0 b1 b2 b3 _ _ _ _ _ _ _ _
  unfold laws_FnExactHigherQc.f laws_toQc.f spec_HigherQc.f impl_HigherQc.f laws_eqQc.f
  by_cases h : b1 > a1 <;> simp [h]

end Go.Proofs.Ytkohgekdpknloaa.Pure
