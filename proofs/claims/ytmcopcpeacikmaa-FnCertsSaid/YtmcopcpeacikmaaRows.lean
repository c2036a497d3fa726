/-
  No cell of these rows narrows 'for every input' (looked for: loops, veiled, ifaces, maps, wideKeys, modest, calm, conditions, laid).
  DERIVED. THE GIVEN ROWS OF THIS SEAT. 12 by the template 'for every input the law returns true; each argument reads behind the call as it read before'; 0 by the template 'total and deterministic' (their statements: YtmcopcpeacikmaaTotals.lean).
  GIVEN WITH THE SEED: the statements are not yours to turn. If you find one false, say at which input.
  Laid BY PROGRAM, IN A SANDBOX (cutbox-rows.mjs): the forced cells as the released guide's own fill.sh prints them over the translation f2ee702bd7d88ee7… (all of the seat's roots in one cut). By AI agents, Wed Nov 11 2026. No macro, syntax, notation, axiom, sorry.
-/
import Derived.Test.YtmcopcpeacikmaaChecked
import GoSem.Claim
import GoSem.ClaimJoined
import GoSem.ClaimMapViews
import Derived.JoinedTies
import Derived.KernelRfl
namespace Go.Proofs.Ytmcopcpeacikmaa
/- THE CELL 'sum', in the pinned program and in every row, IS THE sha256 OF THE DUMP (.gsa) THAT YtmcopcpeacikmaaProg.lean LOADS. Nothing in Lean hashes anything: it is a label: what it is worth is what the hold of that sum in a sandbox is worth. -/
noncomputable def Try.pinned : Pinned := { name := "ytmcopcpeacikmaa", sum := "f2ee702bd7d88ee73ce6b92af96ae5e25a887bd0517a526b9fb1349b48fb3d50", checked := Try.checked }
namespace Rows
def none {H : Type} : Left H := { results := [], args := [] }

/-- 'laws.FnExactQcOf': WHATEVER THE INPUT: true; the input reads as it did. -/
def fnExactQcOfSpec : ChangeSpec := { name := "fnExactQcOf", fn := fun _ => fun
  | [d1, d2, d3, d4, d5] => { results := [.lit (.bool true)], args := [d1, d2, d3, d4, d5] }
  | _ => none }
def fnExactQcOfRow : OpenClaim := { program := "ytmcopcpeacikmaa", sum := "f2ee702bd7d88ee73ce6b92af96ae5e25a887bd0517a526b9fb1349b48fb3d50", func := "loop.example/g00330/laws.FnExactQcOf", spec := "fnExactQcOf", apart := false }
def FnExactQcOfSaid : Prop := fnExactQcOfRow.holds Try.pinned (OpenSpec.ofChange fnExactQcOfSpec)

/-- ITS FALSE NEIGHBOUR: 'it returns false'. Refute it at one input. -/
def fnExactQcOfWrong : ChangeSpec := { name := "fnExactQcOf", fn := fun _ => fun
  | [d1, d2, d3, d4, d5] => { results := [.lit (.bool false)], args := [d1, d2, d3, d4, d5] }
  | _ => none }
def FnExactQcOfWrongFalsely : Prop := fnExactQcOfRow.holds Try.pinned (OpenSpec.ofChange fnExactQcOfWrong)

/-- 'laws.FnExactVoteOk': WHATEVER THE INPUT: true; the input reads as it did. -/
def fnExactVoteOkSpec : ChangeSpec := { name := "fnExactVoteOk", fn := fun _ => fun
  | [d1, d2, d3] => { results := [.lit (.bool true)], args := [d1, d2, d3] }
  | _ => none }
def fnExactVoteOkRow : OpenClaim := { program := "ytmcopcpeacikmaa", sum := "f2ee702bd7d88ee73ce6b92af96ae5e25a887bd0517a526b9fb1349b48fb3d50", func := "loop.example/g00330/laws.FnExactVoteOk", spec := "fnExactVoteOk", apart := false }
def FnExactVoteOkSaid : Prop := fnExactVoteOkRow.holds Try.pinned (OpenSpec.ofChange fnExactVoteOkSpec)

/-- ITS FALSE NEIGHBOUR: 'it returns false'. Refute it at one input. -/
def fnExactVoteOkWrong : ChangeSpec := { name := "fnExactVoteOk", fn := fun _ => fun
  | [d1, d2, d3] => { results := [.lit (.bool false)], args := [d1, d2, d3] }
  | _ => none }
def FnExactVoteOkWrongFalsely : Prop := fnExactVoteOkRow.holds Try.pinned (OpenSpec.ofChange fnExactVoteOkWrong)

/-- 'laws.FnExactQcRight': WHATEVER THE INPUT: true; the input reads as it did. -/
def fnExactQcRightSpec : ChangeSpec := { name := "fnExactQcRight", fn := fun _ => fun
  | [d1, d2, d3] => { results := [.lit (.bool true)], args := [d1, d2, d3] }
  | _ => none }
def fnExactQcRightRow : OpenClaim := { program := "ytmcopcpeacikmaa", sum := "f2ee702bd7d88ee73ce6b92af96ae5e25a887bd0517a526b9fb1349b48fb3d50", func := "loop.example/g00330/laws.FnExactQcRight", spec := "fnExactQcRight", apart := false }
def FnExactQcRightSaid : Prop := fnExactQcRightRow.holds Try.pinned (OpenSpec.ofChange fnExactQcRightSpec)

/-- ITS FALSE NEIGHBOUR: 'it returns false'. Refute it at one input. -/
def fnExactQcRightWrong : ChangeSpec := { name := "fnExactQcRight", fn := fun _ => fun
  | [d1, d2, d3] => { results := [.lit (.bool false)], args := [d1, d2, d3] }
  | _ => none }
def FnExactQcRightWrongFalsely : Prop := fnExactQcRightRow.holds Try.pinned (OpenSpec.ofChange fnExactQcRightWrong)

/-- 'laws.FnCerts': WHATEVER THE INPUT: true; the input reads as it did. -/
def fnCertsSpec : ChangeSpec := { name := "fnCerts", fn := fun _ => fun
  | [d] => { results := [.lit (.bool true)], args := [d] }
  | _ => none }
def fnCertsRow : OpenClaim := { program := "ytmcopcpeacikmaa", sum := "f2ee702bd7d88ee73ce6b92af96ae5e25a887bd0517a526b9fb1349b48fb3d50", func := "loop.example/g00330/laws.FnCerts", spec := "fnCerts", apart := false }
def FnCertsSaid : Prop := fnCertsRow.holds Try.pinned (OpenSpec.ofChange fnCertsSpec)

/-- ITS FALSE NEIGHBOUR: 'it returns false'. Refute it at one input. -/
def fnCertsWrong : ChangeSpec := { name := "fnCerts", fn := fun _ => fun
  | [d] => { results := [.lit (.bool false)], args := [d] }
  | _ => none }
def FnCertsWrongFalsely : Prop := fnCertsRow.holds Try.pinned (OpenSpec.ofChange fnCertsWrong)

/-- 'laws.FnExactBlockAt': WHATEVER THE INPUT: true; the input reads as it did. -/
def fnExactBlockAtSpec : ChangeSpec := { name := "fnExactBlockAt", fn := fun _ => fun
  | [d1, d2] => { results := [.lit (.bool true)], args := [d1, d2] }
  | _ => none }
def fnExactBlockAtRow : OpenClaim := { program := "ytmcopcpeacikmaa", sum := "f2ee702bd7d88ee73ce6b92af96ae5e25a887bd0517a526b9fb1349b48fb3d50", func := "loop.example/g00330/laws.FnExactBlockAt", spec := "fnExactBlockAt", unfollowed := true, recurses := true, apart := false }
def FnExactBlockAtSaid : Prop := fnExactBlockAtRow.holds Try.pinned (OpenSpec.ofChange fnExactBlockAtSpec)

/-- ITS FALSE NEIGHBOUR: 'it returns false'. Refute it at one input. -/
def fnExactBlockAtWrong : ChangeSpec := { name := "fnExactBlockAt", fn := fun _ => fun
  | [d1, d2] => { results := [.lit (.bool false)], args := [d1, d2] }
  | _ => none }
def FnExactBlockAtWrongFalsely : Prop := fnExactBlockAtRow.holds Try.pinned (OpenSpec.ofChange fnExactBlockAtWrong)

/-- 'laws.FnExactBlockOk': WHATEVER THE INPUT: true; the input reads as it did. -/
def fnExactBlockOkSpec : ChangeSpec := { name := "fnExactBlockOk", fn := fun _ => fun
  | [d1, d2] => { results := [.lit (.bool true)], args := [d1, d2] }
  | _ => none }
def fnExactBlockOkRow : OpenClaim := { program := "ytmcopcpeacikmaa", sum := "f2ee702bd7d88ee73ce6b92af96ae5e25a887bd0517a526b9fb1349b48fb3d50", func := "loop.example/g00330/laws.FnExactBlockOk", spec := "fnExactBlockOk", unfollowed := true, recurses := true, apart := false }
def FnExactBlockOkSaid : Prop := fnExactBlockOkRow.holds Try.pinned (OpenSpec.ofChange fnExactBlockOkSpec)

/-- ITS FALSE NEIGHBOUR: 'it returns false'. Refute it at one input. -/
def fnExactBlockOkWrong : ChangeSpec := { name := "fnExactBlockOk", fn := fun _ => fun
  | [d1, d2] => { results := [.lit (.bool false)], args := [d1, d2] }
  | _ => none }
def FnExactBlockOkWrongFalsely : Prop := fnExactBlockOkRow.holds Try.pinned (OpenSpec.ofChange fnExactBlockOkWrong)

/-- 'laws.FnExactHeightOf': WHATEVER THE INPUT: true; the input reads as it did. -/
def fnExactHeightOfSpec : ChangeSpec := { name := "fnExactHeightOf", fn := fun _ => fun
  | [d1, d2] => { results := [.lit (.bool true)], args := [d1, d2] }
  | _ => none }
def fnExactHeightOfRow : OpenClaim := { program := "ytmcopcpeacikmaa", sum := "f2ee702bd7d88ee73ce6b92af96ae5e25a887bd0517a526b9fb1349b48fb3d50", func := "loop.example/g00330/laws.FnExactHeightOf", spec := "fnExactHeightOf", apart := false }
def FnExactHeightOfSaid : Prop := fnExactHeightOfRow.holds Try.pinned (OpenSpec.ofChange fnExactHeightOfSpec)

/-- ITS FALSE NEIGHBOUR: 'it returns false'. Refute it at one input. -/
def fnExactHeightOfWrong : ChangeSpec := { name := "fnExactHeightOf", fn := fun _ => fun
  | [d1, d2] => { results := [.lit (.bool false)], args := [d1, d2] }
  | _ => none }
def FnExactHeightOfWrongFalsely : Prop := fnExactHeightOfRow.holds Try.pinned (OpenSpec.ofChange fnExactHeightOfWrong)

/-- 'laws.FnExactExtends': WHATEVER THE INPUT: true; the input reads as it did. -/
def fnExactExtendsSpec : ChangeSpec := { name := "fnExactExtends", fn := fun _ => fun
  | [d1, d2, d3] => { results := [.lit (.bool true)], args := [d1, d2, d3] }
  | _ => none }
def fnExactExtendsRow : OpenClaim := { program := "ytmcopcpeacikmaa", sum := "f2ee702bd7d88ee73ce6b92af96ae5e25a887bd0517a526b9fb1349b48fb3d50", func := "loop.example/g00330/laws.FnExactExtends", spec := "fnExactExtends", apart := false }
def FnExactExtendsSaid : Prop := fnExactExtendsRow.holds Try.pinned (OpenSpec.ofChange fnExactExtendsSpec)

/-- ITS FALSE NEIGHBOUR: 'it returns false'. Refute it at one input. -/
def fnExactExtendsWrong : ChangeSpec := { name := "fnExactExtends", fn := fun _ => fun
  | [d1, d2, d3] => { results := [.lit (.bool false)], args := [d1, d2, d3] }
  | _ => none }
def FnExactExtendsWrongFalsely : Prop := fnExactExtendsRow.holds Try.pinned (OpenSpec.ofChange fnExactExtendsWrong)

/-- 'laws.FnExactClash': WHATEVER THE INPUT: true; the input reads as it did. -/
def fnExactClashSpec : ChangeSpec := { name := "fnExactClash", fn := fun _ => fun
  | [d1, d2, d3] => { results := [.lit (.bool true)], args := [d1, d2, d3] }
  | _ => none }
def fnExactClashRow : OpenClaim := { program := "ytmcopcpeacikmaa", sum := "f2ee702bd7d88ee73ce6b92af96ae5e25a887bd0517a526b9fb1349b48fb3d50", func := "loop.example/g00330/laws.FnExactClash", spec := "fnExactClash", apart := false }
def FnExactClashSaid : Prop := fnExactClashRow.holds Try.pinned (OpenSpec.ofChange fnExactClashSpec)

/-- ITS FALSE NEIGHBOUR: 'it returns false'. Refute it at one input. -/
def fnExactClashWrong : ChangeSpec := { name := "fnExactClash", fn := fun _ => fun
  | [d1, d2, d3] => { results := [.lit (.bool false)], args := [d1, d2, d3] }
  | _ => none }
def FnExactClashWrongFalsely : Prop := fnExactClashRow.holds Try.pinned (OpenSpec.ofChange fnExactClashWrong)

/-- 'laws.FnExactRowTo': WHATEVER THE INPUT: true; the input reads as it did. -/
def fnExactRowToSpec : ChangeSpec := { name := "fnExactRowTo", fn := fun _ => fun
  | [d1, d2] => { results := [.lit (.bool true)], args := [d1, d2] }
  | _ => none }
def fnExactRowToRow : OpenClaim := { program := "ytmcopcpeacikmaa", sum := "f2ee702bd7d88ee73ce6b92af96ae5e25a887bd0517a526b9fb1349b48fb3d50", func := "loop.example/g00330/laws.FnExactRowTo", spec := "fnExactRowTo", apart := false }
def FnExactRowToSaid : Prop := fnExactRowToRow.holds Try.pinned (OpenSpec.ofChange fnExactRowToSpec)

/-- ITS FALSE NEIGHBOUR: 'it returns false'. Refute it at one input. -/
def fnExactRowToWrong : ChangeSpec := { name := "fnExactRowTo", fn := fun _ => fun
  | [d1, d2] => { results := [.lit (.bool false)], args := [d1, d2] }
  | _ => none }
def FnExactRowToWrongFalsely : Prop := fnExactRowToRow.holds Try.pinned (OpenSpec.ofChange fnExactRowToWrong)

/-- 'laws.FnExactRowAfter': WHATEVER THE INPUT: true; the input reads as it did. -/
def fnExactRowAfterSpec : ChangeSpec := { name := "fnExactRowAfter", fn := fun _ => fun
  | [d1, d2, d3] => { results := [.lit (.bool true)], args := [d1, d2, d3] }
  | _ => none }
def fnExactRowAfterRow : OpenClaim := { program := "ytmcopcpeacikmaa", sum := "f2ee702bd7d88ee73ce6b92af96ae5e25a887bd0517a526b9fb1349b48fb3d50", func := "loop.example/g00330/laws.FnExactRowAfter", spec := "fnExactRowAfter", apart := false }
def FnExactRowAfterSaid : Prop := fnExactRowAfterRow.holds Try.pinned (OpenSpec.ofChange fnExactRowAfterSpec)

/-- ITS FALSE NEIGHBOUR: 'it returns false'. Refute it at one input. -/
def fnExactRowAfterWrong : ChangeSpec := { name := "fnExactRowAfter", fn := fun _ => fun
  | [d1, d2, d3] => { results := [.lit (.bool false)], args := [d1, d2, d3] }
  | _ => none }
def FnExactRowAfterWrongFalsely : Prop := fnExactRowAfterRow.holds Try.pinned (OpenSpec.ofChange fnExactRowAfterWrong)

/-- 'laws.FnExactTreeOk': WHATEVER THE INPUT: true; the input reads as it did. -/
def fnExactTreeOkSpec : ChangeSpec := { name := "fnExactTreeOk", fn := fun _ => fun
  | [d] => { results := [.lit (.bool true)], args := [d] }
  | _ => none }
def fnExactTreeOkRow : OpenClaim := { program := "ytmcopcpeacikmaa", sum := "f2ee702bd7d88ee73ce6b92af96ae5e25a887bd0517a526b9fb1349b48fb3d50", func := "loop.example/g00330/laws.FnExactTreeOk", spec := "fnExactTreeOk", unfollowed := true, recurses := true, apart := false }
def FnExactTreeOkSaid : Prop := fnExactTreeOkRow.holds Try.pinned (OpenSpec.ofChange fnExactTreeOkSpec)

/-- ITS FALSE NEIGHBOUR: 'it returns false'. Refute it at one input. -/
def fnExactTreeOkWrong : ChangeSpec := { name := "fnExactTreeOk", fn := fun _ => fun
  | [d] => { results := [.lit (.bool false)], args := [d] }
  | _ => none }
def FnExactTreeOkWrongFalsely : Prop := fnExactTreeOkRow.holds Try.pinned (OpenSpec.ofChange fnExactTreeOkWrong)

/- THE SECOND FORM. 'bulk': how many values and letters a reading holds, each counted each time it is reached (what is shared counts as often as it is met; a slice's spare places count too). A statement '..UptoSaid' is the law's where the arguments, and the package variables that the reading takes, are together of bulk at most 1048576: NARROWER than '..Said'. Prove '..Said' where nothing that the law and all that it calls make is longer than what came in: it says more and counts as full. Else prove '..UptoSaid'. A law counts once. -/
mutual
def uptoBulk {H : Type} : DataW H → Nat
  | .lit (.string bytes) => bytes.length + 1
  | .lit _ => 1
  | .nil => 1
  | .ptr d => uptoBulk d + 1
  | .slice elems spare => uptoBulkAll elems + uptoBulkAll spare + 1
  | .agg parts => uptoBulkAll parts + 1
  | .iface _ d => uptoBulk d + 1
  | .map entries => uptoBulkEntries entries + 1
  | .held _ => 1
def uptoBulkAll {H : Type} : List (DataW H) → Nat
  | [] => 0
  | d :: r => uptoBulk d + uptoBulkAll r
def uptoBulkEntries {H : Type} : List (Lit × DataW H) → Nat
  | [] => 0
  | x :: r => uptoBulkEntry x + uptoBulkEntries r
def uptoBulkEntry {H : Type} : Lit × DataW H → Nat
  | (.string bytes, d) => bytes.length + uptoBulk d + 1
  | (_, d) => uptoBulk d + 1
 end
def uptoSmall : (H : Type) → List (DataW H) → Bool := fun _ ds => decide (uptoBulkAll ds ≤ 1048576)
def OpenSpec.upto (s : _root_.Go.ChangeSpec) : _root_.Go.OpenSpec := { _root_.Go.OpenSpec.ofChange s with cond := some uptoSmall }

/-- 'laws.FnExactQcOf', WHERE WHAT IT READS IS OF BULK AT MOST 1048576: true; the input reads as it did. -/
def fnExactQcOfUptoRow : OpenClaim := { program := "ytmcopcpeacikmaa", sum := "f2ee702bd7d88ee73ce6b92af96ae5e25a887bd0517a526b9fb1349b48fb3d50", func := "loop.example/g00330/laws.FnExactQcOf", spec := "fnExactQcOf", apart := false, narrowed := true }
def FnExactQcOfUptoSaid : Prop := fnExactQcOfUptoRow.holds Try.pinned (OpenSpec.upto fnExactQcOfSpec)

/-- 'laws.FnExactVoteOk', WHERE WHAT IT READS IS OF BULK AT MOST 1048576: true; the input reads as it did. -/
def fnExactVoteOkUptoRow : OpenClaim := { program := "ytmcopcpeacikmaa", sum := "f2ee702bd7d88ee73ce6b92af96ae5e25a887bd0517a526b9fb1349b48fb3d50", func := "loop.example/g00330/laws.FnExactVoteOk", spec := "fnExactVoteOk", apart := false, narrowed := true }
def FnExactVoteOkUptoSaid : Prop := fnExactVoteOkUptoRow.holds Try.pinned (OpenSpec.upto fnExactVoteOkSpec)

/-- 'laws.FnExactQcRight', WHERE WHAT IT READS IS OF BULK AT MOST 1048576: true; the input reads as it did. -/
def fnExactQcRightUptoRow : OpenClaim := { program := "ytmcopcpeacikmaa", sum := "f2ee702bd7d88ee73ce6b92af96ae5e25a887bd0517a526b9fb1349b48fb3d50", func := "loop.example/g00330/laws.FnExactQcRight", spec := "fnExactQcRight", apart := false, narrowed := true }
def FnExactQcRightUptoSaid : Prop := fnExactQcRightUptoRow.holds Try.pinned (OpenSpec.upto fnExactQcRightSpec)

/-- 'laws.FnCerts', WHERE WHAT IT READS IS OF BULK AT MOST 1048576: true; the input reads as it did. -/
def fnCertsUptoRow : OpenClaim := { program := "ytmcopcpeacikmaa", sum := "f2ee702bd7d88ee73ce6b92af96ae5e25a887bd0517a526b9fb1349b48fb3d50", func := "loop.example/g00330/laws.FnCerts", spec := "fnCerts", apart := false, narrowed := true }
def FnCertsUptoSaid : Prop := fnCertsUptoRow.holds Try.pinned (OpenSpec.upto fnCertsSpec)

/-- 'laws.FnExactBlockAt', WHERE WHAT IT READS IS OF BULK AT MOST 1048576: true; the input reads as it did. -/
def fnExactBlockAtUptoRow : OpenClaim := { program := "ytmcopcpeacikmaa", sum := "f2ee702bd7d88ee73ce6b92af96ae5e25a887bd0517a526b9fb1349b48fb3d50", func := "loop.example/g00330/laws.FnExactBlockAt", spec := "fnExactBlockAt", unfollowed := true, recurses := true, apart := false, narrowed := true }
def FnExactBlockAtUptoSaid : Prop := fnExactBlockAtUptoRow.holds Try.pinned (OpenSpec.upto fnExactBlockAtSpec)

/-- 'laws.FnExactBlockOk', WHERE WHAT IT READS IS OF BULK AT MOST 1048576: true; the input reads as it did. -/
def fnExactBlockOkUptoRow : OpenClaim := { program := "ytmcopcpeacikmaa", sum := "f2ee702bd7d88ee73ce6b92af96ae5e25a887bd0517a526b9fb1349b48fb3d50", func := "loop.example/g00330/laws.FnExactBlockOk", spec := "fnExactBlockOk", unfollowed := true, recurses := true, apart := false, narrowed := true }
def FnExactBlockOkUptoSaid : Prop := fnExactBlockOkUptoRow.holds Try.pinned (OpenSpec.upto fnExactBlockOkSpec)

/-- 'laws.FnExactHeightOf', WHERE WHAT IT READS IS OF BULK AT MOST 1048576: true; the input reads as it did. -/
def fnExactHeightOfUptoRow : OpenClaim := { program := "ytmcopcpeacikmaa", sum := "f2ee702bd7d88ee73ce6b92af96ae5e25a887bd0517a526b9fb1349b48fb3d50", func := "loop.example/g00330/laws.FnExactHeightOf", spec := "fnExactHeightOf", apart := false, narrowed := true }
def FnExactHeightOfUptoSaid : Prop := fnExactHeightOfUptoRow.holds Try.pinned (OpenSpec.upto fnExactHeightOfSpec)

/-- 'laws.FnExactExtends', WHERE WHAT IT READS IS OF BULK AT MOST 1048576: true; the input reads as it did. -/
def fnExactExtendsUptoRow : OpenClaim := { program := "ytmcopcpeacikmaa", sum := "f2ee702bd7d88ee73ce6b92af96ae5e25a887bd0517a526b9fb1349b48fb3d50", func := "loop.example/g00330/laws.FnExactExtends", spec := "fnExactExtends", apart := false, narrowed := true }
def FnExactExtendsUptoSaid : Prop := fnExactExtendsUptoRow.holds Try.pinned (OpenSpec.upto fnExactExtendsSpec)

/-- 'laws.FnExactClash', WHERE WHAT IT READS IS OF BULK AT MOST 1048576: true; the input reads as it did. -/
def fnExactClashUptoRow : OpenClaim := { program := "ytmcopcpeacikmaa", sum := "f2ee702bd7d88ee73ce6b92af96ae5e25a887bd0517a526b9fb1349b48fb3d50", func := "loop.example/g00330/laws.FnExactClash", spec := "fnExactClash", apart := false, narrowed := true }
def FnExactClashUptoSaid : Prop := fnExactClashUptoRow.holds Try.pinned (OpenSpec.upto fnExactClashSpec)

/-- 'laws.FnExactRowTo', WHERE WHAT IT READS IS OF BULK AT MOST 1048576: true; the input reads as it did. -/
def fnExactRowToUptoRow : OpenClaim := { program := "ytmcopcpeacikmaa", sum := "f2ee702bd7d88ee73ce6b92af96ae5e25a887bd0517a526b9fb1349b48fb3d50", func := "loop.example/g00330/laws.FnExactRowTo", spec := "fnExactRowTo", apart := false, narrowed := true }
def FnExactRowToUptoSaid : Prop := fnExactRowToUptoRow.holds Try.pinned (OpenSpec.upto fnExactRowToSpec)

/-- 'laws.FnExactRowAfter', WHERE WHAT IT READS IS OF BULK AT MOST 1048576: true; the input reads as it did. -/
def fnExactRowAfterUptoRow : OpenClaim := { program := "ytmcopcpeacikmaa", sum := "f2ee702bd7d88ee73ce6b92af96ae5e25a887bd0517a526b9fb1349b48fb3d50", func := "loop.example/g00330/laws.FnExactRowAfter", spec := "fnExactRowAfter", apart := false, narrowed := true }
def FnExactRowAfterUptoSaid : Prop := fnExactRowAfterUptoRow.holds Try.pinned (OpenSpec.upto fnExactRowAfterSpec)

/-- 'laws.FnExactTreeOk', WHERE WHAT IT READS IS OF BULK AT MOST 1048576: true; the input reads as it did. -/
def fnExactTreeOkUptoRow : OpenClaim := { program := "ytmcopcpeacikmaa", sum := "f2ee702bd7d88ee73ce6b92af96ae5e25a887bd0517a526b9fb1349b48fb3d50", func := "loop.example/g00330/laws.FnExactTreeOk", spec := "fnExactTreeOk", unfollowed := true, recurses := true, apart := false, narrowed := true }
def FnExactTreeOkUptoSaid : Prop := fnExactTreeOkUptoRow.holds Try.pinned (OpenSpec.upto fnExactTreeOkSpec)

end Rows
end Go.Proofs.Ytmcopcpeacikmaa
