/- For every input that the statement reads, the law FnExactFaults of the given program returns true and leaves its arguments as they were. Conditions: none but the statement's own. -/
import Derived.Test.YtggnchbalheicaaPFnExactFaultsx1
set_option linter.unusedVariables false
set_option linter.unusedSimpArgs false
namespace Go.Proofs.Ytggnchbalheicaa.Pure
open Go.RowKit Go.Proofs.Ytggnchbalheicaa.PFnExactFaults Go.Proofs.YtggnchbalheicaaW.PrintWords Go.Proofs.YtggnchbalheicaaW.PrintLast Go.Proofs.YtggnchbalheicaaW.PrintMore


theorem FnExactFaults : laws_FnExactFaults.Pure := by
  unfold laws_FnExactFaults.Pure
  intros
  unfold laws_FnExactFaults.f spec_Faults.f impl_Faults.f
  repeat' split
  all_goals simp_all

end Go.Proofs.Ytggnchbalheicaa.Pure
