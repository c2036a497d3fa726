/- The plain statement of the law FnExactSameBlock: its printed function answers true wherever the arguments read as data. Conditions: what reading tells of numbers, texts and slices. -/
import Derived.Test.YtngppcfnaeceoaaQFnExactSameBlockx6
set_option linter.unusedVariables false
namespace Go.Proofs.Ytngppcfnaeceoaa.QFnExactSameBlock
open Go.RowKit Go.Proofs.YtngppcfnaeceoaaW.PrintWords Go.Proofs.YtngppcfnaeceoaaW.PrintLast Go.Proofs.YtngppcfnaeceoaaW.PrintMore

def WF108 (x : S108) : Prop := ((Lit.int .i64 x.f0).wf = true) ∧ (x.f1.size ≤ 9223372036854775807) ∧ ((Lit.int .i64 x.f2).wf = true)
/-- The plain statement. -/
def laws_FnExactSameBlock.Pure : Prop := ∀ (a0_0 : Int) (a0_1 : Int) (l0_2 : (List S108)) (a0_3 : Int) (a0_4 : Int) (a0_5 : Int) (a0_6 : Int) (a1_0 : Int) (a1_1 : Int) (l1_2 : (List S108)) (a1_3 : Int) (a1_4 : Int) (a1_5 : Int) (a1_6 : Int), (Lit.int .i64 a0_0).wf = true → (Lit.int .i64 a0_1).wf = true → (l0_2.length ≤ 9223372036854775807 ∧ ∀ x108 ∈ l0_2, WF108 x108) → (Lit.int .i64 a0_3).wf = true → (Lit.int .i64 a0_4).wf = true → (Lit.int .i64 a0_5).wf = true → (Lit.int .i64 a0_6).wf = true → (Lit.int .i64 a1_0).wf = true → (Lit.int .i64 a1_1).wf = true → (l1_2.length ≤ 9223372036854775807 ∧ ∀ x108 ∈ l1_2, WF108 x108) → (Lit.int .i64 a1_3).wf = true → (Lit.int .i64 a1_4).wf = true → (Lit.int .i64 a1_5).wf = true → (Lit.int .i64 a1_6).wf = true → ∃ k, laws_FnExactSameBlock.f k a0_0 a0_1 l0_2 a0_3 a0_4 a0_5 a0_6 a1_0 a1_1 l1_2 a1_3 a1_4 a1_5 a1_6 = some true

end Go.Proofs.Ytngppcfnaeceoaa.QFnExactSameBlock
