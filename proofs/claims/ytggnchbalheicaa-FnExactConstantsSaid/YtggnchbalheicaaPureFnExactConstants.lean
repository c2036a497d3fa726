/- For every input that the statement reads, the law FnExactConstants of the given program returns true and leaves its arguments as they were. Conditions: none but the statement's own. -/
import Derived.Test.YtggnchbalheicaaPFnExactConstantsx1
set_option linter.unusedVariables false
set_option linter.unusedSimpArgs false
namespace Go.Proofs.Ytggnchbalheicaa.Pure
open Go.RowKit Go.Proofs.Ytggnchbalheicaa.PFnExactConstants Go.Proofs.YtggnchbalheicaaW.PrintWords Go.Proofs.YtggnchbalheicaaW.PrintLast Go.Proofs.YtggnchbalheicaaW.PrintMore


theorem FnExactConstants : laws_FnExactConstants.Pure := rfl

end Go.Proofs.Ytggnchbalheicaa.Pure
