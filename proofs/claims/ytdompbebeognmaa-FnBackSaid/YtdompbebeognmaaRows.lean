/-
  No cell of these rows narrows 'for every input' (looked for: loops, veiled, ifaces, maps, wideKeys, modest, calm, conditions, laid).
  DERIVED. THE GIVEN ROWS OF THIS SEAT. 11 by the template 'for every input the law returns true; each argument reads behind the call as it read before'; 0 by the template 'total and deterministic' (their statements: YtdompbebeognmaaTotals.lean).
  GIVEN WITH THE SEED: the statements are not yours to turn. If you find one false, say at which input.
  Laid BY PROGRAM, IN A SANDBOX (cutbox-rows.mjs): the forced cells as the released guide's own fill.sh prints them over the translation 5dd7a6d5d743ccce… (all of the seat's roots in one cut). By AI agents, Wed Nov 11 2026. No macro, syntax, notation, axiom, sorry.
-/
import Derived.Test.YtdompbebeognmaaChecked
import GoSem.Claim
import GoSem.ClaimJoined
import GoSem.ClaimMapViews
import Derived.JoinedTies
import Derived.KernelRfl
namespace Go.Proofs.Ytdompbebeognmaa
/- THE CELL 'sum', in the pinned program and in every row, IS THE sha256 OF THE DUMP (.gsa) THAT YtdompbebeognmaaProg.lean LOADS. Nothing in Lean hashes anything: it is a label: what it is worth is what the hold of that sum in a sandbox is worth. -/
noncomputable def Try.pinned : Pinned := { name := "ytdompbebeognmaa", sum := "5dd7a6d5d743ccce0b0b90af72eb4df4c755b987aa0c1b39b1efa73f0796982d", checked := Try.checked }
namespace Rows
def none {H : Type} : Left H := { results := [], args := [] }

/-- 'laws.FnExactCellAt': WHATEVER THE INPUT: true; the input reads as it did. -/
def fnExactCellAtSpec : ChangeSpec := { name := "fnExactCellAt", fn := fun _ => fun
  | [d1, d2] => { results := [.lit (.bool true)], args := [d1, d2] }
  | _ => none }
def fnExactCellAtRow : OpenClaim := { program := "ytdompbebeognmaa", sum := "5dd7a6d5d743ccce0b0b90af72eb4df4c755b987aa0c1b39b1efa73f0796982d", func := "loop.example/g00330/laws.FnExactCellAt", spec := "fnExactCellAt", unfollowed := true, recurses := true, apart := false }
def FnExactCellAtSaid : Prop := fnExactCellAtRow.holds Try.pinned (OpenSpec.ofChange fnExactCellAtSpec)

/-- ITS FALSE NEIGHBOUR: 'it returns false'. Refute it at one input. -/
def fnExactCellAtWrong : ChangeSpec := { name := "fnExactCellAt", fn := fun _ => fun
  | [d1, d2] => { results := [.lit (.bool false)], args := [d1, d2] }
  | _ => none }
def FnExactCellAtWrongFalsely : Prop := fnExactCellAtRow.holds Try.pinned (OpenSpec.ofChange fnExactCellAtWrong)

/-- 'laws.FnExactCellsOk': WHATEVER THE INPUT: true; the input reads as it did. -/
def fnExactCellsOkSpec : ChangeSpec := { name := "fnExactCellsOk", fn := fun _ => fun
  | [d] => { results := [.lit (.bool true)], args := [d] }
  | _ => none }
def fnExactCellsOkRow : OpenClaim := { program := "ytdompbebeognmaa", sum := "5dd7a6d5d743ccce0b0b90af72eb4df4c755b987aa0c1b39b1efa73f0796982d", func := "loop.example/g00330/laws.FnExactCellsOk", spec := "fnExactCellsOk", apart := false }
def FnExactCellsOkSaid : Prop := fnExactCellsOkRow.holds Try.pinned (OpenSpec.ofChange fnExactCellsOkSpec)

/-- ITS FALSE NEIGHBOUR: 'it returns false'. Refute it at one input. -/
def fnExactCellsOkWrong : ChangeSpec := { name := "fnExactCellsOk", fn := fun _ => fun
  | [d] => { results := [.lit (.bool false)], args := [d] }
  | _ => none }
def FnExactCellsOkWrongFalsely : Prop := fnExactCellsOkRow.holds Try.pinned (OpenSpec.ofChange fnExactCellsOkWrong)

/-- 'laws.FnExactUndoOf': WHATEVER THE INPUT: true; the input reads as it did. -/
def fnExactUndoOfSpec : ChangeSpec := { name := "fnExactUndoOf", fn := fun _ => fun
  | [d1, d2] => { results := [.lit (.bool true)], args := [d1, d2] }
  | _ => none }
def fnExactUndoOfRow : OpenClaim := { program := "ytdompbebeognmaa", sum := "5dd7a6d5d743ccce0b0b90af72eb4df4c755b987aa0c1b39b1efa73f0796982d", func := "loop.example/g00330/laws.FnExactUndoOf", spec := "fnExactUndoOf", unfollowed := true, recurses := true, apart := false }
def FnExactUndoOfSaid : Prop := fnExactUndoOfRow.holds Try.pinned (OpenSpec.ofChange fnExactUndoOfSpec)

/-- ITS FALSE NEIGHBOUR: 'it returns false'. Refute it at one input. -/
def fnExactUndoOfWrong : ChangeSpec := { name := "fnExactUndoOf", fn := fun _ => fun
  | [d1, d2] => { results := [.lit (.bool false)], args := [d1, d2] }
  | _ => none }
def FnExactUndoOfWrongFalsely : Prop := fnExactUndoOfRow.holds Try.pinned (OpenSpec.ofChange fnExactUndoOfWrong)

/-- 'laws.FnExactFirstBlock': WHATEVER THE INPUT: true; the input reads as it did. -/
def fnExactFirstBlockSpec : ChangeSpec := { name := "fnExactFirstBlock", fn := fun _ => fun
  | [] => { results := [.lit (.bool true)], args := [] }
  | _ => none }
def fnExactFirstBlockRow : OpenClaim := { program := "ytdompbebeognmaa", sum := "5dd7a6d5d743ccce0b0b90af72eb4df4c755b987aa0c1b39b1efa73f0796982d", func := "loop.example/g00330/laws.FnExactFirstBlock", spec := "fnExactFirstBlock", apart := false }
def FnExactFirstBlockSaid : Prop := fnExactFirstBlockRow.holds Try.pinned (OpenSpec.ofChange fnExactFirstBlockSpec)

/-- ITS FALSE NEIGHBOUR: 'it returns false'. Refute it at one input. -/
def fnExactFirstBlockWrong : ChangeSpec := { name := "fnExactFirstBlock", fn := fun _ => fun
  | [] => { results := [.lit (.bool false)], args := [] }
  | _ => none }
def FnExactFirstBlockWrongFalsely : Prop := fnExactFirstBlockRow.holds Try.pinned (OpenSpec.ofChange fnExactFirstBlockWrong)

/-- 'laws.FnExactCellsText': WHATEVER THE INPUT: true; the input reads as it did. -/
def fnExactCellsTextSpec : ChangeSpec := { name := "fnExactCellsText", fn := fun _ => fun
  | [d] => { results := [.lit (.bool true)], args := [d] }
  | _ => none }
def fnExactCellsTextRow : OpenClaim := { program := "ytdompbebeognmaa", sum := "5dd7a6d5d743ccce0b0b90af72eb4df4c755b987aa0c1b39b1efa73f0796982d", func := "loop.example/g00330/laws.FnExactCellsText", spec := "fnExactCellsText", apart := false }
def FnExactCellsTextSaid : Prop := fnExactCellsTextRow.holds Try.pinned (OpenSpec.ofChange fnExactCellsTextSpec)

/-- ITS FALSE NEIGHBOUR: 'it returns false'. Refute it at one input. -/
def fnExactCellsTextWrong : ChangeSpec := { name := "fnExactCellsText", fn := fun _ => fun
  | [d] => { results := [.lit (.bool false)], args := [d] }
  | _ => none }
def FnExactCellsTextWrongFalsely : Prop := fnExactCellsTextRow.holds Try.pinned (OpenSpec.ofChange fnExactCellsTextWrong)

/-- 'laws.FnExactSameBlock': WHATEVER THE INPUT: true; the input reads as it did. -/
def fnExactSameBlockSpec : ChangeSpec := { name := "fnExactSameBlock", fn := fun _ => fun
  | [d1, d2] => { results := [.lit (.bool true)], args := [d1, d2] }
  | _ => none }
def fnExactSameBlockRow : OpenClaim := { program := "ytdompbebeognmaa", sum := "5dd7a6d5d743ccce0b0b90af72eb4df4c755b987aa0c1b39b1efa73f0796982d", func := "loop.example/g00330/laws.FnExactSameBlock", spec := "fnExactSameBlock", apart := false }
def FnExactSameBlockSaid : Prop := fnExactSameBlockRow.holds Try.pinned (OpenSpec.ofChange fnExactSameBlockSpec)

/-- ITS FALSE NEIGHBOUR: 'it returns false'. Refute it at one input. -/
def fnExactSameBlockWrong : ChangeSpec := { name := "fnExactSameBlock", fn := fun _ => fun
  | [d1, d2] => { results := [.lit (.bool false)], args := [d1, d2] }
  | _ => none }
def FnExactSameBlockWrongFalsely : Prop := fnExactSameBlockRow.holds Try.pinned (OpenSpec.ofChange fnExactSameBlockWrong)

/-- 'laws.FnExactTreeNew': WHATEVER THE INPUT: true; the input reads as it did. -/
def fnExactTreeNewSpec : ChangeSpec := { name := "fnExactTreeNew", fn := fun _ => fun
  | [] => { results := [.lit (.bool true)], args := [] }
  | _ => none }
def fnExactTreeNewRow : OpenClaim := { program := "ytdompbebeognmaa", sum := "5dd7a6d5d743ccce0b0b90af72eb4df4c755b987aa0c1b39b1efa73f0796982d", func := "loop.example/g00330/laws.FnExactTreeNew", spec := "fnExactTreeNew", apart := false }
def FnExactTreeNewSaid : Prop := fnExactTreeNewRow.holds Try.pinned (OpenSpec.ofChange fnExactTreeNewSpec)

/-- ITS FALSE NEIGHBOUR: 'it returns false'. Refute it at one input. -/
def fnExactTreeNewWrong : ChangeSpec := { name := "fnExactTreeNew", fn := fun _ => fun
  | [] => { results := [.lit (.bool false)], args := [] }
  | _ => none }
def FnExactTreeNewWrongFalsely : Prop := fnExactTreeNewRow.holds Try.pinned (OpenSpec.ofChange fnExactTreeNewWrong)

/-- 'laws.FnExactUndone': WHATEVER THE INPUT: true; the input reads as it did. -/
def fnExactUndoneSpec : ChangeSpec := { name := "fnExactUndone", fn := fun _ => fun
  | [d1, d2] => { results := [.lit (.bool true)], args := [d1, d2] }
  | _ => none }
def fnExactUndoneRow : OpenClaim := { program := "ytdompbebeognmaa", sum := "5dd7a6d5d743ccce0b0b90af72eb4df4c755b987aa0c1b39b1efa73f0796982d", func := "loop.example/g00330/laws.FnExactUndone", spec := "fnExactUndone", inPlace := ["slices.overlaps[loop.example/g00330/impl.Cell]"], unfollowed := true, recurses := true, apart := false }
def FnExactUndoneSaid : Prop := fnExactUndoneRow.holds Try.pinned (OpenSpec.ofChange fnExactUndoneSpec)

/-- ITS FALSE NEIGHBOUR: 'it returns false'. Refute it at one input. -/
def fnExactUndoneWrong : ChangeSpec := { name := "fnExactUndone", fn := fun _ => fun
  | [d1, d2] => { results := [.lit (.bool false)], args := [d1, d2] }
  | _ => none }
def FnExactUndoneWrongFalsely : Prop := fnExactUndoneRow.holds Try.pinned (OpenSpec.ofChange fnExactUndoneWrong)

/-- 'laws.FnExactUndoneAll': WHATEVER THE INPUT: true; the input reads as it did. -/
def fnExactUndoneAllSpec : ChangeSpec := { name := "fnExactUndoneAll", fn := fun _ => fun
  | [d1, d2] => { results := [.lit (.bool true)], args := [d1, d2] }
  | _ => none }
def fnExactUndoneAllRow : OpenClaim := { program := "ytdompbebeognmaa", sum := "5dd7a6d5d743ccce0b0b90af72eb4df4c755b987aa0c1b39b1efa73f0796982d", func := "loop.example/g00330/laws.FnExactUndoneAll", spec := "fnExactUndoneAll", inPlace := ["slices.overlaps[loop.example/g00330/impl.Cell]"], unfollowed := true, recurses := true, apart := false }
def FnExactUndoneAllSaid : Prop := fnExactUndoneAllRow.holds Try.pinned (OpenSpec.ofChange fnExactUndoneAllSpec)

/-- ITS FALSE NEIGHBOUR: 'it returns false'. Refute it at one input. -/
def fnExactUndoneAllWrong : ChangeSpec := { name := "fnExactUndoneAll", fn := fun _ => fun
  | [d1, d2] => { results := [.lit (.bool false)], args := [d1, d2] }
  | _ => none }
def FnExactUndoneAllWrongFalsely : Prop := fnExactUndoneAllRow.holds Try.pinned (OpenSpec.ofChange fnExactUndoneAllWrong)

/-- 'laws.FnBack': WHATEVER THE INPUT: true; the input reads as it did. -/
def fnBackSpec : ChangeSpec := { name := "fnBack", fn := fun _ => fun
  | [d] => { results := [.lit (.bool true)], args := [d] }
  | _ => none }
def fnBackRow : OpenClaim := { program := "ytdompbebeognmaa", sum := "5dd7a6d5d743ccce0b0b90af72eb4df4c755b987aa0c1b39b1efa73f0796982d", func := "loop.example/g00330/laws.FnBack", spec := "fnBack", inPlace := ["slices.overlaps[loop.example/g00330/impl.Cell]"], unfollowed := true, recurses := true, apart := false }
def FnBackSaid : Prop := fnBackRow.holds Try.pinned (OpenSpec.ofChange fnBackSpec)

/-- ITS FALSE NEIGHBOUR: 'it returns false'. Refute it at one input. -/
def fnBackWrong : ChangeSpec := { name := "fnBack", fn := fun _ => fun
  | [d] => { results := [.lit (.bool false)], args := [d] }
  | _ => none }
def FnBackWrongFalsely : Prop := fnBackRow.holds Try.pinned (OpenSpec.ofChange fnBackWrong)

/-- 'laws.FnExactDoneBack': WHATEVER THE INPUT: true; the input reads as it did. -/
def fnExactDoneBackSpec : ChangeSpec := { name := "fnExactDoneBack", fn := fun _ => fun
  | [d1, d2] => { results := [.lit (.bool true)], args := [d1, d2] }
  | _ => none }
def fnExactDoneBackRow : OpenClaim := { program := "ytdompbebeognmaa", sum := "5dd7a6d5d743ccce0b0b90af72eb4df4c755b987aa0c1b39b1efa73f0796982d", func := "loop.example/g00330/laws.FnExactDoneBack", spec := "fnExactDoneBack", inPlace := ["slices.overlaps[loop.example/g00330/impl.Cell]"], unfollowed := true, recurses := true, apart := false }
def FnExactDoneBackSaid : Prop := fnExactDoneBackRow.holds Try.pinned (OpenSpec.ofChange fnExactDoneBackSpec)

/-- ITS FALSE NEIGHBOUR: 'it returns false'. Refute it at one input. -/
def fnExactDoneBackWrong : ChangeSpec := { name := "fnExactDoneBack", fn := fun _ => fun
  | [d1, d2] => { results := [.lit (.bool false)], args := [d1, d2] }
  | _ => none }
def FnExactDoneBackWrongFalsely : Prop := fnExactDoneBackRow.holds Try.pinned (OpenSpec.ofChange fnExactDoneBackWrong)

/- THE SECOND FORM. 'bulk': how many values and letters a reading holds, each counted each time it is reached (what is shared counts as often as it is met; a slice's spare places count too). A statement '..UptoSaid' is the law's where the arguments, and the package variables that the reading takes, are together of bulk at most 1048576: NARROWER than '..Said'. Prove '..Said' where nothing that the law and all that it calls make is longer than what came in: it says more and counts as full. Else prove '..UptoSaid'. A law counts once. -/
mutual
def uptoBulk {H : Type} : DataW H → Nat
  | .lit (.string bytes) => bytes.length + 1
  | .lit _ => 1
  | .nil => 1
  | .ptr d => uptoBulk d + 1
  | .slice elems spare => uptoBulkAll elems + uptoBulkAll spare + 1
  | .agg parts => uptoBulkAll parts + 1
  | .iface _ d => uptoBulk d + 1
  | .map entries => uptoBulkEntries entries + 1
  | .held _ => 1
def uptoBulkAll {H : Type} : List (DataW H) → Nat
  | [] => 0
  | d :: r => uptoBulk d + uptoBulkAll r
def uptoBulkEntries {H : Type} : List (Lit × DataW H) → Nat
  | [] => 0
  | x :: r => uptoBulkEntry x + uptoBulkEntries r
def uptoBulkEntry {H : Type} : Lit × DataW H → Nat
  | (.string bytes, d) => bytes.length + uptoBulk d + 1
  | (_, d) => uptoBulk d + 1
 end
def uptoSmall : (H : Type) → List (DataW H) → Bool := fun _ ds => decide (uptoBulkAll ds ≤ 1048576)
def OpenSpec.upto (s : _root_.Go.ChangeSpec) : _root_.Go.OpenSpec := { _root_.Go.OpenSpec.ofChange s with cond := some uptoSmall }

/-- 'laws.FnExactCellAt', WHERE WHAT IT READS IS OF BULK AT MOST 1048576: true; the input reads as it did. -/
def fnExactCellAtUptoRow : OpenClaim := { program := "ytdompbebeognmaa", sum := "5dd7a6d5d743ccce0b0b90af72eb4df4c755b987aa0c1b39b1efa73f0796982d", func := "loop.example/g00330/laws.FnExactCellAt", spec := "fnExactCellAt", unfollowed := true, recurses := true, apart := false, narrowed := true }
def FnExactCellAtUptoSaid : Prop := fnExactCellAtUptoRow.holds Try.pinned (OpenSpec.upto fnExactCellAtSpec)

/-- 'laws.FnExactCellsOk', WHERE WHAT IT READS IS OF BULK AT MOST 1048576: true; the input reads as it did. -/
def fnExactCellsOkUptoRow : OpenClaim := { program := "ytdompbebeognmaa", sum := "5dd7a6d5d743ccce0b0b90af72eb4df4c755b987aa0c1b39b1efa73f0796982d", func := "loop.example/g00330/laws.FnExactCellsOk", spec := "fnExactCellsOk", apart := false, narrowed := true }
def FnExactCellsOkUptoSaid : Prop := fnExactCellsOkUptoRow.holds Try.pinned (OpenSpec.upto fnExactCellsOkSpec)

/-- 'laws.FnExactUndoOf', WHERE WHAT IT READS IS OF BULK AT MOST 1048576: true; the input reads as it did. -/
def fnExactUndoOfUptoRow : OpenClaim := { program := "ytdompbebeognmaa", sum := "5dd7a6d5d743ccce0b0b90af72eb4df4c755b987aa0c1b39b1efa73f0796982d", func := "loop.example/g00330/laws.FnExactUndoOf", spec := "fnExactUndoOf", unfollowed := true, recurses := true, apart := false, narrowed := true }
def FnExactUndoOfUptoSaid : Prop := fnExactUndoOfUptoRow.holds Try.pinned (OpenSpec.upto fnExactUndoOfSpec)

/-- 'laws.FnExactFirstBlock', WHERE WHAT IT READS IS OF BULK AT MOST 1048576: true; the input reads as it did. -/
def fnExactFirstBlockUptoRow : OpenClaim := { program := "ytdompbebeognmaa", sum := "5dd7a6d5d743ccce0b0b90af72eb4df4c755b987aa0c1b39b1efa73f0796982d", func := "loop.example/g00330/laws.FnExactFirstBlock", spec := "fnExactFirstBlock", apart := false, narrowed := true }
def FnExactFirstBlockUptoSaid : Prop := fnExactFirstBlockUptoRow.holds Try.pinned (OpenSpec.upto fnExactFirstBlockSpec)

/-- 'laws.FnExactCellsText', WHERE WHAT IT READS IS OF BULK AT MOST 1048576: true; the input reads as it did. -/
def fnExactCellsTextUptoRow : OpenClaim := { program := "ytdompbebeognmaa", sum := "5dd7a6d5d743ccce0b0b90af72eb4df4c755b987aa0c1b39b1efa73f0796982d", func := "loop.example/g00330/laws.FnExactCellsText", spec := "fnExactCellsText", apart := false, narrowed := true }
def FnExactCellsTextUptoSaid : Prop := fnExactCellsTextUptoRow.holds Try.pinned (OpenSpec.upto fnExactCellsTextSpec)

/-- 'laws.FnExactSameBlock', WHERE WHAT IT READS IS OF BULK AT MOST 1048576: true; the input reads as it did. -/
def fnExactSameBlockUptoRow : OpenClaim := { program := "ytdompbebeognmaa", sum := "5dd7a6d5d743ccce0b0b90af72eb4df4c755b987aa0c1b39b1efa73f0796982d", func := "loop.example/g00330/laws.FnExactSameBlock", spec := "fnExactSameBlock", apart := false, narrowed := true }
def FnExactSameBlockUptoSaid : Prop := fnExactSameBlockUptoRow.holds Try.pinned (OpenSpec.upto fnExactSameBlockSpec)

/-- 'laws.FnExactTreeNew', WHERE WHAT IT READS IS OF BULK AT MOST 1048576: true; the input reads as it did. -/
def fnExactTreeNewUptoRow : OpenClaim := { program := "ytdompbebeognmaa", sum := "5dd7a6d5d743ccce0b0b90af72eb4df4c755b987aa0c1b39b1efa73f0796982d", func := "loop.example/g00330/laws.FnExactTreeNew", spec := "fnExactTreeNew", apart := false, narrowed := true }
def FnExactTreeNewUptoSaid : Prop := fnExactTreeNewUptoRow.holds Try.pinned (OpenSpec.upto fnExactTreeNewSpec)

/-- 'laws.FnExactUndone', WHERE WHAT IT READS IS OF BULK AT MOST 1048576: true; the input reads as it did. -/
def fnExactUndoneUptoRow : OpenClaim := { program := "ytdompbebeognmaa", sum := "5dd7a6d5d743ccce0b0b90af72eb4df4c755b987aa0c1b39b1efa73f0796982d", func := "loop.example/g00330/laws.FnExactUndone", spec := "fnExactUndone", inPlace := ["slices.overlaps[loop.example/g00330/impl.Cell]"], unfollowed := true, recurses := true, apart := false, narrowed := true }
def FnExactUndoneUptoSaid : Prop := fnExactUndoneUptoRow.holds Try.pinned (OpenSpec.upto fnExactUndoneSpec)

/-- 'laws.FnExactUndoneAll', WHERE WHAT IT READS IS OF BULK AT MOST 1048576: true; the input reads as it did. -/
def fnExactUndoneAllUptoRow : OpenClaim := { program := "ytdompbebeognmaa", sum := "5dd7a6d5d743ccce0b0b90af72eb4df4c755b987aa0c1b39b1efa73f0796982d", func := "loop.example/g00330/laws.FnExactUndoneAll", spec := "fnExactUndoneAll", inPlace := ["slices.overlaps[loop.example/g00330/impl.Cell]"], unfollowed := true, recurses := true, apart := false, narrowed := true }
def FnExactUndoneAllUptoSaid : Prop := fnExactUndoneAllUptoRow.holds Try.pinned (OpenSpec.upto fnExactUndoneAllSpec)

/-- 'laws.FnBack', WHERE WHAT IT READS IS OF BULK AT MOST 1048576: true; the input reads as it did. -/
def fnBackUptoRow : OpenClaim := { program := "ytdompbebeognmaa", sum := "5dd7a6d5d743ccce0b0b90af72eb4df4c755b987aa0c1b39b1efa73f0796982d", func := "loop.example/g00330/laws.FnBack", spec := "fnBack", inPlace := ["slices.overlaps[loop.example/g00330/impl.Cell]"], unfollowed := true, recurses := true, apart := false, narrowed := true }
def FnBackUptoSaid : Prop := fnBackUptoRow.holds Try.pinned (OpenSpec.upto fnBackSpec)

/-- 'laws.FnExactDoneBack', WHERE WHAT IT READS IS OF BULK AT MOST 1048576: true; the input reads as it did. -/
def fnExactDoneBackUptoRow : OpenClaim := { program := "ytdompbebeognmaa", sum := "5dd7a6d5d743ccce0b0b90af72eb4df4c755b987aa0c1b39b1efa73f0796982d", func := "loop.example/g00330/laws.FnExactDoneBack", spec := "fnExactDoneBack", inPlace := ["slices.overlaps[loop.example/g00330/impl.Cell]"], unfollowed := true, recurses := true, apart := false, narrowed := true }
def FnExactDoneBackUptoSaid : Prop := fnExactDoneBackUptoRow.holds Try.pinned (OpenSpec.upto fnExactDoneBackSpec)

end Rows
end Go.Proofs.Ytdompbebeognmaa
