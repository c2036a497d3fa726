/- For every input that the statement reads, the law FnExactFirstBlock of the given program returns true and leaves its arguments as they were. Conditions: none but the statement's own. -/
import Derived.Test.YtngppcfnaeceoaaQFnExactFirstBlockx3
import Derived.Test.YtngppcfnaeceoaaLib
set_option linter.unusedVariables false
set_option linter.unusedSimpArgs false
namespace Go.Proofs.Ytngppcfnaeceoaa.Pure
open Go.RowKit Go.Proofs.Ytngppcfnaeceoaa.QFnExactFirstBlock Go.Proofs.YtngppcfnaeceoaaW.PrintWords Go.Proofs.YtngppcfnaeceoaaW.PrintLast Go.Proofs.YtngppcfnaeceoaaW.PrintMore Go.Proofs.Ytngppcfnaeceoaa.Lib


theorem FnExactFirstBlock : laws_FnExactFirstBlock.Pure := ⟨3, by kernel_rfl⟩

end Go.Proofs.Ytngppcfnaeceoaa.Pure
