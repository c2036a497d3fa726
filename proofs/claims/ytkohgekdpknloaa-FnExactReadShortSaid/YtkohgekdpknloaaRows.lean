/-
  No cell of these rows narrows 'for every input' (looked for: loops, veiled, ifaces, maps, wideKeys, modest, calm, conditions, laid).
  DERIVED. THE GIVEN ROWS OF THIS SEAT. 12 by the template 'for every input the law returns true; each argument reads behind the call as it read before'; 0 by the template 'total and deterministic' (their statements: YtkohgekdpknloaaTotals.lean).
  GIVEN WITH THE SEED: the statements are not yours to turn. If you find one false, say at which input.
  Laid BY PROGRAM, IN A SANDBOX (cutbox-rows.mjs): the forced cells as the released guide's own fill.sh prints them over the translation 0e48a07d73b367a8… (all of the seat's roots in one cut). By AI agents, Wed Nov 11 2026. No macro, syntax, notation, axiom, sorry.
-/
import Derived.Test.YtkohgekdpknloaaChecked
import GoSem.Claim
import GoSem.ClaimJoined
import GoSem.ClaimMapViews
import Derived.JoinedTies
import Derived.KernelRfl
namespace Go.Proofs.Ytkohgekdpknloaa
/- THE CELL 'sum', in the pinned program and in every row, IS THE sha256 OF THE DUMP (.gsa) THAT YtkohgekdpknloaaProg.lean LOADS. Nothing in Lean hashes anything: it is a label: what it is worth is what the hold of that sum in a sandbox is worth. -/
noncomputable def Try.pinned : Pinned := { name := "ytkohgekdpknloaa", sum := "0e48a07d73b367a8a4ca471b6f26d3b2f8fff3c1a6f6d5926451cf05bc02c434", checked := Try.checked }
namespace Rows
def none {H : Type} : Left H := { results := [], args := [] }

/-- 'laws.FnExactHigherQc': WHATEVER THE INPUT: true; the input reads as it did. -/
def fnExactHigherQcSpec : ChangeSpec := { name := "fnExactHigherQc", fn := fun _ => fun
  | [d1, d2] => { results := [.lit (.bool true)], args := [d1, d2] }
  | _ => none }
def fnExactHigherQcRow : OpenClaim := { program := "ytkohgekdpknloaa", sum := "0e48a07d73b367a8a4ca471b6f26d3b2f8fff3c1a6f6d5926451cf05bc02c434", func := "loop.example/g00330/laws.FnExactHigherQc", spec := "fnExactHigherQc", apart := false }
def FnExactHigherQcSaid : Prop := fnExactHigherQcRow.holds Try.pinned (OpenSpec.ofChange fnExactHigherQcSpec)

/-- ITS FALSE NEIGHBOUR: 'it returns false'. Refute it at one input. -/
def fnExactHigherQcWrong : ChangeSpec := { name := "fnExactHigherQc", fn := fun _ => fun
  | [d1, d2] => { results := [.lit (.bool false)], args := [d1, d2] }
  | _ => none }
def FnExactHigherQcWrongFalsely : Prop := fnExactHigherQcRow.holds Try.pinned (OpenSpec.ofChange fnExactHigherQcWrong)

/-- 'laws.FnExactQcText': WHATEVER THE INPUT: true; the input reads as it did. -/
def fnExactQcTextSpec : ChangeSpec := { name := "fnExactQcText", fn := fun _ => fun
  | [d] => { results := [.lit (.bool true)], args := [d] }
  | _ => none }
def fnExactQcTextRow : OpenClaim := { program := "ytkohgekdpknloaa", sum := "0e48a07d73b367a8a4ca471b6f26d3b2f8fff3c1a6f6d5926451cf05bc02c434", func := "loop.example/g00330/laws.FnExactQcText", spec := "fnExactQcText", apart := false }
def FnExactQcTextSaid : Prop := fnExactQcTextRow.holds Try.pinned (OpenSpec.ofChange fnExactQcTextSpec)

/-- ITS FALSE NEIGHBOUR: 'it returns false'. Refute it at one input. -/
def fnExactQcTextWrong : ChangeSpec := { name := "fnExactQcText", fn := fun _ => fun
  | [d] => { results := [.lit (.bool false)], args := [d] }
  | _ => none }
def FnExactQcTextWrongFalsely : Prop := fnExactQcTextRow.holds Try.pinned (OpenSpec.ofChange fnExactQcTextWrong)

/-- 'laws.FnExactVoteText': WHATEVER THE INPUT: true; the input reads as it did. -/
def fnExactVoteTextSpec : ChangeSpec := { name := "fnExactVoteText", fn := fun _ => fun
  | [d] => { results := [.lit (.bool true)], args := [d] }
  | _ => none }
def fnExactVoteTextRow : OpenClaim := { program := "ytkohgekdpknloaa", sum := "0e48a07d73b367a8a4ca471b6f26d3b2f8fff3c1a6f6d5926451cf05bc02c434", func := "loop.example/g00330/laws.FnExactVoteText", spec := "fnExactVoteText", apart := false }
def FnExactVoteTextSaid : Prop := fnExactVoteTextRow.holds Try.pinned (OpenSpec.ofChange fnExactVoteTextSpec)

/-- ITS FALSE NEIGHBOUR: 'it returns false'. Refute it at one input. -/
def fnExactVoteTextWrong : ChangeSpec := { name := "fnExactVoteText", fn := fun _ => fun
  | [d] => { results := [.lit (.bool false)], args := [d] }
  | _ => none }
def FnExactVoteTextWrongFalsely : Prop := fnExactVoteTextRow.holds Try.pinned (OpenSpec.ofChange fnExactVoteTextWrong)

/-- 'laws.FnExactCmdOk': WHATEVER THE INPUT: true; the input reads as it did. -/
def fnExactCmdOkSpec : ChangeSpec := { name := "fnExactCmdOk", fn := fun _ => fun
  | [d] => { results := [.lit (.bool true)], args := [d] }
  | _ => none }
def fnExactCmdOkRow : OpenClaim := { program := "ytkohgekdpknloaa", sum := "0e48a07d73b367a8a4ca471b6f26d3b2f8fff3c1a6f6d5926451cf05bc02c434", func := "loop.example/g00330/laws.FnExactCmdOk", spec := "fnExactCmdOk", apart := false }
def FnExactCmdOkSaid : Prop := fnExactCmdOkRow.holds Try.pinned (OpenSpec.ofChange fnExactCmdOkSpec)

/-- ITS FALSE NEIGHBOUR: 'it returns false'. Refute it at one input. -/
def fnExactCmdOkWrong : ChangeSpec := { name := "fnExactCmdOk", fn := fun _ => fun
  | [d] => { results := [.lit (.bool false)], args := [d] }
  | _ => none }
def FnExactCmdOkWrongFalsely : Prop := fnExactCmdOkRow.holds Try.pinned (OpenSpec.ofChange fnExactCmdOkWrong)

/-- 'laws.FnExactBeginning': WHATEVER THE INPUT: true; the input reads as it did. -/
def fnExactBeginningSpec : ChangeSpec := { name := "fnExactBeginning", fn := fun _ => fun
  | [d1, d2] => { results := [.lit (.bool true)], args := [d1, d2] }
  | _ => none }
def fnExactBeginningRow : OpenClaim := { program := "ytkohgekdpknloaa", sum := "0e48a07d73b367a8a4ca471b6f26d3b2f8fff3c1a6f6d5926451cf05bc02c434", func := "loop.example/g00330/laws.FnExactBeginning", spec := "fnExactBeginning", apart := false }
def FnExactBeginningSaid : Prop := fnExactBeginningRow.holds Try.pinned (OpenSpec.ofChange fnExactBeginningSpec)

/-- ITS FALSE NEIGHBOUR: 'it returns false'. Refute it at one input. -/
def fnExactBeginningWrong : ChangeSpec := { name := "fnExactBeginning", fn := fun _ => fun
  | [d1, d2] => { results := [.lit (.bool false)], args := [d1, d2] }
  | _ => none }
def FnExactBeginningWrongFalsely : Prop := fnExactBeginningRow.holds Try.pinned (OpenSpec.ofChange fnExactBeginningWrong)

/-- 'laws.FnExactUnhex': WHATEVER THE INPUT: true; the input reads as it did. -/
def fnExactUnhexSpec : ChangeSpec := { name := "fnExactUnhex", fn := fun _ => fun
  | [d] => { results := [.lit (.bool true)], args := [d] }
  | _ => none }
def fnExactUnhexRow : OpenClaim := { program := "ytkohgekdpknloaa", sum := "0e48a07d73b367a8a4ca471b6f26d3b2f8fff3c1a6f6d5926451cf05bc02c434", func := "loop.example/g00330/laws.FnExactUnhex", spec := "fnExactUnhex", inPlace := ["internal/bytealg.IndexByteString"], apart := false }
def FnExactUnhexSaid : Prop := fnExactUnhexRow.holds Try.pinned (OpenSpec.ofChange fnExactUnhexSpec)

/-- ITS FALSE NEIGHBOUR: 'it returns false'. Refute it at one input. -/
def fnExactUnhexWrong : ChangeSpec := { name := "fnExactUnhex", fn := fun _ => fun
  | [d] => { results := [.lit (.bool false)], args := [d] }
  | _ => none }
def FnExactUnhexWrongFalsely : Prop := fnExactUnhexRow.holds Try.pinned (OpenSpec.ofChange fnExactUnhexWrong)

/-- 'laws.FnExactReadVar': WHATEVER THE INPUT: true; the input reads as it did. -/
def fnExactReadVarSpec : ChangeSpec := { name := "fnExactReadVar", fn := fun _ => fun
  | [d1, d2] => { results := [.lit (.bool true)], args := [d1, d2] }
  | _ => none }
def fnExactReadVarRow : OpenClaim := { program := "ytkohgekdpknloaa", sum := "0e48a07d73b367a8a4ca471b6f26d3b2f8fff3c1a6f6d5926451cf05bc02c434", func := "loop.example/g00330/laws.FnExactReadVar", spec := "fnExactReadVar", apart := false }
def FnExactReadVarSaid : Prop := fnExactReadVarRow.holds Try.pinned (OpenSpec.ofChange fnExactReadVarSpec)

/-- ITS FALSE NEIGHBOUR: 'it returns false'. Refute it at one input. -/
def fnExactReadVarWrong : ChangeSpec := { name := "fnExactReadVar", fn := fun _ => fun
  | [d1, d2] => { results := [.lit (.bool false)], args := [d1, d2] }
  | _ => none }
def FnExactReadVarWrongFalsely : Prop := fnExactReadVarRow.holds Try.pinned (OpenSpec.ofChange fnExactReadVarWrong)

/-- 'laws.FnExactSealed': WHATEVER THE INPUT: true; the input reads as it did. -/
def fnExactSealedSpec : ChangeSpec := { name := "fnExactSealed", fn := fun _ => fun
  | [d] => { results := [.lit (.bool true)], args := [d] }
  | _ => none }
def fnExactSealedRow : OpenClaim := { program := "ytkohgekdpknloaa", sum := "0e48a07d73b367a8a4ca471b6f26d3b2f8fff3c1a6f6d5926451cf05bc02c434", func := "loop.example/g00330/laws.FnExactSealed", spec := "fnExactSealed", apart := false }
def FnExactSealedSaid : Prop := fnExactSealedRow.holds Try.pinned (OpenSpec.ofChange fnExactSealedSpec)

/-- ITS FALSE NEIGHBOUR: 'it returns false'. Refute it at one input. -/
def fnExactSealedWrong : ChangeSpec := { name := "fnExactSealed", fn := fun _ => fun
  | [d] => { results := [.lit (.bool false)], args := [d] }
  | _ => none }
def FnExactSealedWrongFalsely : Prop := fnExactSealedRow.holds Try.pinned (OpenSpec.ofChange fnExactSealedWrong)

/-- 'laws.FnExactUnsealed': WHATEVER THE INPUT: true; the input reads as it did. -/
def fnExactUnsealedSpec : ChangeSpec := { name := "fnExactUnsealed", fn := fun _ => fun
  | [d] => { results := [.lit (.bool true)], args := [d] }
  | _ => none }
def fnExactUnsealedRow : OpenClaim := { program := "ytkohgekdpknloaa", sum := "0e48a07d73b367a8a4ca471b6f26d3b2f8fff3c1a6f6d5926451cf05bc02c434", func := "loop.example/g00330/laws.FnExactUnsealed", spec := "fnExactUnsealed", apart := false }
def FnExactUnsealedSaid : Prop := fnExactUnsealedRow.holds Try.pinned (OpenSpec.ofChange fnExactUnsealedSpec)

/-- ITS FALSE NEIGHBOUR: 'it returns false'. Refute it at one input. -/
def fnExactUnsealedWrong : ChangeSpec := { name := "fnExactUnsealed", fn := fun _ => fun
  | [d] => { results := [.lit (.bool false)], args := [d] }
  | _ => none }
def FnExactUnsealedWrongFalsely : Prop := fnExactUnsealedRow.holds Try.pinned (OpenSpec.ofChange fnExactUnsealedWrong)

/-- 'laws.FnExactReadShort': WHATEVER THE INPUT: true; the input reads as it did. -/
def fnExactReadShortSpec : ChangeSpec := { name := "fnExactReadShort", fn := fun _ => fun
  | [d1, d2] => { results := [.lit (.bool true)], args := [d1, d2] }
  | _ => none }
def fnExactReadShortRow : OpenClaim := { program := "ytkohgekdpknloaa", sum := "0e48a07d73b367a8a4ca471b6f26d3b2f8fff3c1a6f6d5926451cf05bc02c434", func := "loop.example/g00330/laws.FnExactReadShort", spec := "fnExactReadShort", apart := false }
def FnExactReadShortSaid : Prop := fnExactReadShortRow.holds Try.pinned (OpenSpec.ofChange fnExactReadShortSpec)

/-- ITS FALSE NEIGHBOUR: 'it returns false'. Refute it at one input. -/
def fnExactReadShortWrong : ChangeSpec := { name := "fnExactReadShort", fn := fun _ => fun
  | [d1, d2] => { results := [.lit (.bool false)], args := [d1, d2] }
  | _ => none }
def FnExactReadShortWrongFalsely : Prop := fnExactReadShortRow.holds Try.pinned (OpenSpec.ofChange fnExactReadShortWrong)

/-- 'laws.FnTurned': WHATEVER THE INPUT: true; the input reads as it did. -/
def fnTurnedSpec : ChangeSpec := { name := "fnTurned", fn := fun _ => fun
  | [d] => { results := [.lit (.bool true)], args := [d] }
  | _ => none }
def fnTurnedRow : OpenClaim := { program := "ytkohgekdpknloaa", sum := "0e48a07d73b367a8a4ca471b6f26d3b2f8fff3c1a6f6d5926451cf05bc02c434", func := "loop.example/g00330/laws.FnTurned", spec := "fnTurned", apart := false }
def FnTurnedSaid : Prop := fnTurnedRow.holds Try.pinned (OpenSpec.ofChange fnTurnedSpec)

/-- ITS FALSE NEIGHBOUR: 'it returns false'. Refute it at one input. -/
def fnTurnedWrong : ChangeSpec := { name := "fnTurned", fn := fun _ => fun
  | [d] => { results := [.lit (.bool false)], args := [d] }
  | _ => none }
def FnTurnedWrongFalsely : Prop := fnTurnedRow.holds Try.pinned (OpenSpec.ofChange fnTurnedWrong)

/-- 'laws.FnExactSignersOf': WHATEVER THE INPUT: true; the input reads as it did. -/
def fnExactSignersOfSpec : ChangeSpec := { name := "fnExactSignersOf", fn := fun _ => fun
  | [d1, d2, d3, d4] => { results := [.lit (.bool true)], args := [d1, d2, d3, d4] }
  | _ => none }
def fnExactSignersOfRow : OpenClaim := { program := "ytkohgekdpknloaa", sum := "0e48a07d73b367a8a4ca471b6f26d3b2f8fff3c1a6f6d5926451cf05bc02c434", func := "loop.example/g00330/laws.FnExactSignersOf", spec := "fnExactSignersOf", apart := false }
def FnExactSignersOfSaid : Prop := fnExactSignersOfRow.holds Try.pinned (OpenSpec.ofChange fnExactSignersOfSpec)

/-- ITS FALSE NEIGHBOUR: 'it returns false'. Refute it at one input. -/
def fnExactSignersOfWrong : ChangeSpec := { name := "fnExactSignersOf", fn := fun _ => fun
  | [d1, d2, d3, d4] => { results := [.lit (.bool false)], args := [d1, d2, d3, d4] }
  | _ => none }
def FnExactSignersOfWrongFalsely : Prop := fnExactSignersOfRow.holds Try.pinned (OpenSpec.ofChange fnExactSignersOfWrong)

/- THE SECOND FORM. 'bulk': how many values and letters a reading holds, each counted each time it is reached (what is shared counts as often as it is met; a slice's spare places count too). A statement '..UptoSaid' is the law's where the arguments, and the package variables that the reading takes, are together of bulk at most 1048576: NARROWER than '..Said'. Prove '..Said' where nothing that the law and all that it calls make is longer than what came in: it says more and counts as full. Else prove '..UptoSaid'. A law counts once. -/
mutual
def uptoBulk {H : Type} : DataW H → Nat
  | .lit (.string bytes) => bytes.length + 1
  | .lit _ => 1
  | .nil => 1
  | .ptr d => uptoBulk d + 1
  | .slice elems spare => uptoBulkAll elems + uptoBulkAll spare + 1
  | .agg parts => uptoBulkAll parts + 1
  | .iface _ d => uptoBulk d + 1
  | .map entries => uptoBulkEntries entries + 1
  | .held _ => 1
def uptoBulkAll {H : Type} : List (DataW H) → Nat
  | [] => 0
  | d :: r => uptoBulk d + uptoBulkAll r
def uptoBulkEntries {H : Type} : List (Lit × DataW H) → Nat
  | [] => 0
  | x :: r => uptoBulkEntry x + uptoBulkEntries r
def uptoBulkEntry {H : Type} : Lit × DataW H → Nat
  | (.string bytes, d) => bytes.length + uptoBulk d + 1
  | (_, d) => uptoBulk d + 1
 end
def uptoSmall : (H : Type) → List (DataW H) → Bool := fun _ ds => decide (uptoBulkAll ds ≤ 1048576)
def OpenSpec.upto (s : _root_.Go.ChangeSpec) : _root_.Go.OpenSpec := { _root_.Go.OpenSpec.ofChange s with cond := some uptoSmall }

/-- 'laws.FnExactHigherQc', WHERE WHAT IT READS IS OF BULK AT MOST 1048576: true; the input reads as it did. -/
def fnExactHigherQcUptoRow : OpenClaim := { program := "ytkohgekdpknloaa", sum := "0e48a07d73b367a8a4ca471b6f26d3b2f8fff3c1a6f6d5926451cf05bc02c434", func := "loop.example/g00330/laws.FnExactHigherQc", spec := "fnExactHigherQc", apart := false, narrowed := true }
def FnExactHigherQcUptoSaid : Prop := fnExactHigherQcUptoRow.holds Try.pinned (OpenSpec.upto fnExactHigherQcSpec)

/-- 'laws.FnExactQcText', WHERE WHAT IT READS IS OF BULK AT MOST 1048576: true; the input reads as it did. -/
def fnExactQcTextUptoRow : OpenClaim := { program := "ytkohgekdpknloaa", sum := "0e48a07d73b367a8a4ca471b6f26d3b2f8fff3c1a6f6d5926451cf05bc02c434", func := "loop.example/g00330/laws.FnExactQcText", spec := "fnExactQcText", apart := false, narrowed := true }
def FnExactQcTextUptoSaid : Prop := fnExactQcTextUptoRow.holds Try.pinned (OpenSpec.upto fnExactQcTextSpec)

/-- 'laws.FnExactVoteText', WHERE WHAT IT READS IS OF BULK AT MOST 1048576: true; the input reads as it did. -/
def fnExactVoteTextUptoRow : OpenClaim := { program := "ytkohgekdpknloaa", sum := "0e48a07d73b367a8a4ca471b6f26d3b2f8fff3c1a6f6d5926451cf05bc02c434", func := "loop.example/g00330/laws.FnExactVoteText", spec := "fnExactVoteText", apart := false, narrowed := true }
def FnExactVoteTextUptoSaid : Prop := fnExactVoteTextUptoRow.holds Try.pinned (OpenSpec.upto fnExactVoteTextSpec)

/-- 'laws.FnExactCmdOk', WHERE WHAT IT READS IS OF BULK AT MOST 1048576: true; the input reads as it did. -/
def fnExactCmdOkUptoRow : OpenClaim := { program := "ytkohgekdpknloaa", sum := "0e48a07d73b367a8a4ca471b6f26d3b2f8fff3c1a6f6d5926451cf05bc02c434", func := "loop.example/g00330/laws.FnExactCmdOk", spec := "fnExactCmdOk", apart := false, narrowed := true }
def FnExactCmdOkUptoSaid : Prop := fnExactCmdOkUptoRow.holds Try.pinned (OpenSpec.upto fnExactCmdOkSpec)

/-- 'laws.FnExactBeginning', WHERE WHAT IT READS IS OF BULK AT MOST 1048576: true; the input reads as it did. -/
def fnExactBeginningUptoRow : OpenClaim := { program := "ytkohgekdpknloaa", sum := "0e48a07d73b367a8a4ca471b6f26d3b2f8fff3c1a6f6d5926451cf05bc02c434", func := "loop.example/g00330/laws.FnExactBeginning", spec := "fnExactBeginning", apart := false, narrowed := true }
def FnExactBeginningUptoSaid : Prop := fnExactBeginningUptoRow.holds Try.pinned (OpenSpec.upto fnExactBeginningSpec)

/-- 'laws.FnExactUnhex', WHERE WHAT IT READS IS OF BULK AT MOST 1048576: true; the input reads as it did. -/
def fnExactUnhexUptoRow : OpenClaim := { program := "ytkohgekdpknloaa", sum := "0e48a07d73b367a8a4ca471b6f26d3b2f8fff3c1a6f6d5926451cf05bc02c434", func := "loop.example/g00330/laws.FnExactUnhex", spec := "fnExactUnhex", inPlace := ["internal/bytealg.IndexByteString"], apart := false, narrowed := true }
def FnExactUnhexUptoSaid : Prop := fnExactUnhexUptoRow.holds Try.pinned (OpenSpec.upto fnExactUnhexSpec)

/-- 'laws.FnExactReadVar', WHERE WHAT IT READS IS OF BULK AT MOST 1048576: true; the input reads as it did. -/
def fnExactReadVarUptoRow : OpenClaim := { program := "ytkohgekdpknloaa", sum := "0e48a07d73b367a8a4ca471b6f26d3b2f8fff3c1a6f6d5926451cf05bc02c434", func := "loop.example/g00330/laws.FnExactReadVar", spec := "fnExactReadVar", apart := false, narrowed := true }
def FnExactReadVarUptoSaid : Prop := fnExactReadVarUptoRow.holds Try.pinned (OpenSpec.upto fnExactReadVarSpec)

/-- 'laws.FnExactSealed', WHERE WHAT IT READS IS OF BULK AT MOST 1048576: true; the input reads as it did. -/
def fnExactSealedUptoRow : OpenClaim := { program := "ytkohgekdpknloaa", sum := "0e48a07d73b367a8a4ca471b6f26d3b2f8fff3c1a6f6d5926451cf05bc02c434", func := "loop.example/g00330/laws.FnExactSealed", spec := "fnExactSealed", apart := false, narrowed := true }
def FnExactSealedUptoSaid : Prop := fnExactSealedUptoRow.holds Try.pinned (OpenSpec.upto fnExactSealedSpec)

/-- 'laws.FnExactUnsealed', WHERE WHAT IT READS IS OF BULK AT MOST 1048576: true; the input reads as it did. -/
def fnExactUnsealedUptoRow : OpenClaim := { program := "ytkohgekdpknloaa", sum := "0e48a07d73b367a8a4ca471b6f26d3b2f8fff3c1a6f6d5926451cf05bc02c434", func := "loop.example/g00330/laws.FnExactUnsealed", spec := "fnExactUnsealed", apart := false, narrowed := true }
def FnExactUnsealedUptoSaid : Prop := fnExactUnsealedUptoRow.holds Try.pinned (OpenSpec.upto fnExactUnsealedSpec)

/-- 'laws.FnExactReadShort', WHERE WHAT IT READS IS OF BULK AT MOST 1048576: true; the input reads as it did. -/
def fnExactReadShortUptoRow : OpenClaim := { program := "ytkohgekdpknloaa", sum := "0e48a07d73b367a8a4ca471b6f26d3b2f8fff3c1a6f6d5926451cf05bc02c434", func := "loop.example/g00330/laws.FnExactReadShort", spec := "fnExactReadShort", apart := false, narrowed := true }
def FnExactReadShortUptoSaid : Prop := fnExactReadShortUptoRow.holds Try.pinned (OpenSpec.upto fnExactReadShortSpec)

/-- 'laws.FnTurned', WHERE WHAT IT READS IS OF BULK AT MOST 1048576: true; the input reads as it did. -/
def fnTurnedUptoRow : OpenClaim := { program := "ytkohgekdpknloaa", sum := "0e48a07d73b367a8a4ca471b6f26d3b2f8fff3c1a6f6d5926451cf05bc02c434", func := "loop.example/g00330/laws.FnTurned", spec := "fnTurned", apart := false, narrowed := true }
def FnTurnedUptoSaid : Prop := fnTurnedUptoRow.holds Try.pinned (OpenSpec.upto fnTurnedSpec)

/-- 'laws.FnExactSignersOf', WHERE WHAT IT READS IS OF BULK AT MOST 1048576: true; the input reads as it did. -/
def fnExactSignersOfUptoRow : OpenClaim := { program := "ytkohgekdpknloaa", sum := "0e48a07d73b367a8a4ca471b6f26d3b2f8fff3c1a6f6d5926451cf05bc02c434", func := "loop.example/g00330/laws.FnExactSignersOf", spec := "fnExactSignersOf", apart := false, narrowed := true }
def FnExactSignersOfUptoSaid : Prop := fnExactSignersOfUptoRow.holds Try.pinned (OpenSpec.upto fnExactSignersOfSpec)

end Rows
end Go.Proofs.Ytkohgekdpknloaa
