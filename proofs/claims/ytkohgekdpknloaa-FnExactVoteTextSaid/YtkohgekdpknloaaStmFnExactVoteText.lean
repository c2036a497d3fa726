/- The plain statement of the law FnExactVoteText: its printed function answers true wherever the arguments read as data. Conditions: what reading tells of numbers, texts and slices. -/
import Derived.Test.YtkohgekdpknloaaQFnExactVoteTextx2
set_option linter.unusedVariables false
namespace Go.Proofs.Ytkohgekdpknloaa.QFnExactVoteText
open Go.RowKit Go.Proofs.YtkohgekdpknloaaW.PrintWords Go.Proofs.YtkohgekdpknloaaW.PrintLast Go.Proofs.YtkohgekdpknloaaW.PrintMore


/-- The plain statement. -/
def laws_FnExactVoteText.Pure : Prop := ∀ (a0_0 : Int) (a0_1 : Int) (a0_2 : Int) (a0_3 : Int), (Lit.int .i64 a0_0).wf = true → (Lit.int .i64 a0_1).wf = true → (Lit.int .i64 a0_2).wf = true → (Lit.int .i64 a0_3).wf = true → ∃ k, laws_FnExactVoteText.f k a0_0 a0_1 a0_2 a0_3 = some true

end Go.Proofs.Ytkohgekdpknloaa.QFnExactVoteText
