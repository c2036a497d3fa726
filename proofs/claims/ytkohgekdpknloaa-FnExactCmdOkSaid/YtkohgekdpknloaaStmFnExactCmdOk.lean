/- The plain statement of the law FnExactCmdOk: its printed function answers true wherever the arguments read as data. Conditions: what reading tells of numbers, texts and slices. -/
import Derived.Test.YtkohgekdpknloaaPFnExactCmdOkx1
set_option linter.unusedVariables false
namespace Go.Proofs.Ytkohgekdpknloaa.PFnExactCmdOk
open Go.RowKit Go.Proofs.YtkohgekdpknloaaW.PrintWords Go.Proofs.YtkohgekdpknloaaW.PrintLast Go.Proofs.YtkohgekdpknloaaW.PrintMore


/-- The plain statement. -/
def laws_FnExactCmdOk.Pure : Prop := ∀ (a0_0 : Int) (a0_1 : ByteArray) (a0_2 : Int), (Lit.int .i64 a0_0).wf = true → a0_1.size ≤ 9223372036854775807 → (Lit.int .i64 a0_2).wf = true → ∃ k, laws_FnExactCmdOk.f k a0_0 a0_1 a0_2 = some true

end Go.Proofs.Ytkohgekdpknloaa.PFnExactCmdOk
