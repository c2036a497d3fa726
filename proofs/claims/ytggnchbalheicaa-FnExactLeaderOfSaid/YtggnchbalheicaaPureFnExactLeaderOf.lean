/- For every input that the statement reads, the law FnExactLeaderOf of the given program returns true and leaves its arguments as they were. Conditions: none but the statement's own. -/
import Derived.Test.YtggnchbalheicaaPFnExactLeaderOfx1
set_option linter.unusedVariables false
set_option linter.unusedSimpArgs false
namespace Go.Proofs.Ytggnchbalheicaa.Pure
open Go.RowKit Go.Proofs.Ytggnchbalheicaa.PFnExactLeaderOf Go.Proofs.YtggnchbalheicaaW.PrintWords Go.Proofs.YtggnchbalheicaaW.PrintLast Go.Proofs.YtggnchbalheicaaW.PrintMore


theorem FnExactLeaderOf : laws_FnExactLeaderOf.Pure := by
  unfold laws_FnExactLeaderOf.Pure
  intros
  unfold laws_FnExactLeaderOf.f spec_LeaderOf.f impl_LeaderOf.f
  repeat' split
  all_goals simp_all

end Go.Proofs.Ytggnchbalheicaa.Pure
