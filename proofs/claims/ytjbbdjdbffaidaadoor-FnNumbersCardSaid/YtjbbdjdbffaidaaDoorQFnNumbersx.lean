-- Written by a program of this session, for this claim.
import Derived.Test.YtjbbdjdbffaidaaDoorQFnNumbersx0
import Derived.Test.YtjbbdjdbffaidaaDoorQFnNumbersx1
import Derived.Test.YtjbbdjdbffaidaaDoorQFnNumbersx2
import Derived.Test.YtjbbdjdbffaidaaDoorQFnNumbersx3
namespace Go.Proofs.YtjbbdjdbffaidaaDoor.QFnNumbers
open Go.RowKit Go.Proofs.YtjbbdjdbffaidaaDoorW.PrintWords Go.Proofs.YtjbbdjdbffaidaaDoorW.PrintLast Go.Proofs.YtjbbdjdbffaidaaDoorW.PrintMore
attribute [local go_sem] max2_int min2_int max_two min_two max_three min_three max_four min_four   -- for this text's walks alone
set_option linter.unusedVariables false
set_option linter.unusedSimpArgs false

end Go.Proofs.YtjbbdjdbffaidaaDoor.QFnNumbers
