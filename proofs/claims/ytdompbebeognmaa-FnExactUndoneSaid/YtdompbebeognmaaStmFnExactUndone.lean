/- The plain statement of the law FnExactUndone: its printed function answers true wherever the arguments read as data. Conditions: what reading tells of numbers, texts and slices. -/
import Derived.Test.YtdompbebeognmaaQFnExactUndonex8
set_option linter.unusedVariables false
namespace Go.Proofs.Ytdompbebeognmaa.QFnExactUndone
open Go.RowKit Go.Proofs.YtdompbebeognmaaW.PrintWords Go.Proofs.YtdompbebeognmaaW.PrintLast Go.Proofs.YtdompbebeognmaaW.PrintMore

def WF91 (x : S91) : Prop := (x.f0.size ≤ 9223372036854775807) ∧ ((Lit.int .i64 x.f1).wf = true)
/-- The plain statement. -/
def laws_FnExactUndone.Pure : Prop := ∀ (l0 : (List S91)) (a1_0 : ByteArray) (a1_1 : Bool) (a1_2 : Int), (l0.length ≤ 9223372036854775807 ∧ ∀ x91 ∈ l0, WF91 x91) → a1_0.size ≤ 9223372036854775807 → (Lit.int .i64 a1_2).wf = true → ∃ k, laws_FnExactUndone.f k l0 a1_0 a1_1 a1_2 = some true

end Go.Proofs.Ytdompbebeognmaa.QFnExactUndone
