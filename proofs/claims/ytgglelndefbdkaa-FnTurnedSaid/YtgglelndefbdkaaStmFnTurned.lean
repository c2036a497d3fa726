/- The plain statement of the law FnTurned: its printed function answers true wherever the arguments read as data. Conditions: what reading tells of numbers, texts and slices. -/
import Derived.Test.YtgglelndefbdkaaQFnTurnedx3
set_option linter.unusedVariables false
namespace Go.Proofs.Ytgglelndefbdkaa.QFnTurned
open Go.RowKit Go.Proofs.YtgglelndefbdkaaW.PrintWords Go.Proofs.YtgglelndefbdkaaW.PrintLast Go.Proofs.YtgglelndefbdkaaW.PrintMore


/-- The plain statement. -/
def laws_FnTurned.Pure : Prop := ∀ (l0 : (List Int)), (l0.length ≤ 9223372036854775807 ∧ ∀ x5 ∈ l0, (Lit.int .u8 x5).wf = true) → ∃ k, laws_FnTurned.Told k l0

end Go.Proofs.Ytgglelndefbdkaa.QFnTurned
