/- The plain statement of the law FnExactSignersOf: its printed function answers true wherever the arguments read as data. Conditions: what reading tells of numbers, texts and slices. -/
import Derived.Test.YtkohgekdpknloaaPFnExactSignersOfx2
set_option linter.unusedVariables false
namespace Go.Proofs.Ytkohgekdpknloaa.PFnExactSignersOf
open Go.RowKit Go.Proofs.YtkohgekdpknloaaW.PrintWords Go.Proofs.YtkohgekdpknloaaW.PrintLast Go.Proofs.YtkohgekdpknloaaW.PrintMore

def WF32 (x : S32) : Prop := ((Lit.int .i64 x.f0).wf = true) ∧ ((Lit.int .i64 x.f1).wf = true) ∧ ((Lit.int .i64 x.f2).wf = true) ∧ ((Lit.int .i64 x.f3).wf = true)
/-- The plain statement. -/
def laws_FnExactSignersOf.Pure : Prop := ∀ (l0 : (List S32)) (a1 : Int) (a2 : Int) (a3 : Int), (l0.length ≤ 9223372036854775807 ∧ ∀ x32 ∈ l0, WF32 x32) → (Lit.int .i64 a1).wf = true → (Lit.int .i64 a2).wf = true → (Lit.int .i64 a3).wf = true → ∃ k, laws_FnExactSignersOf.f k l0 a1 a2 a3 = some true

end Go.Proofs.Ytkohgekdpknloaa.PFnExactSignersOf
