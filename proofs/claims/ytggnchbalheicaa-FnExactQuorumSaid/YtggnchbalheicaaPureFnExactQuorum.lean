/- For every input that the statement reads, the law FnExactQuorum of the given program returns true and leaves its arguments as they were. Conditions: none but the statement's own. -/
import Derived.Test.YtggnchbalheicaaPFnExactQuorumx1
set_option linter.unusedVariables false
set_option linter.unusedSimpArgs false
namespace Go.Proofs.Ytggnchbalheicaa.Pure
open Go.RowKit Go.Proofs.Ytggnchbalheicaa.PFnExactQuorum Go.Proofs.YtggnchbalheicaaW.PrintWords Go.Proofs.YtggnchbalheicaaW.PrintLast Go.Proofs.YtggnchbalheicaaW.PrintMore


theorem FnExactQuorum : laws_FnExactQuorum.Pure := by
  intro a0 h0
  unfold laws_FnExactQuorum.f spec_Quorum.f impl_Quorum.f spec_Faults.f impl_Faults.f
  by_cases h : a0 < 1 <;> simp [h]

end Go.Proofs.Ytggnchbalheicaa.Pure
