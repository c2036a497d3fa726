-- Written by a program of this session, for this claim.
import Derived.Test.YtjbbdjdbffaidaaDoorProg
import Derived.Below
import Derived.Deep.Draws
import Derived.Deep.AppendLies
import Derived.Maps.AppendAt
import Derived.OwnWalk
import Derived.Laws.BytesArg
import Derived.Laws.MakeOwn
import Derived.Laws.OwnMore
import Derived.Deep.OwnRows
import Derived.Tactics
import Derived.Lib.ConvBytes
import Derived.Laws.Slices
import Derived.WalkKit
import Derived.KernelRfl
import Derived.RowKit3
import Derived.Deep.LoopGhost
import Derived.Deep.QuietTactic
import Derived.BigQuiet
import Derived.WideLaws
import Derived.Deep.DeepCutAuto
import Derived.Deep.CutBlock
import Derived.Deep.RegionHeld3
import Derived.Laws.Rows
import Derived.Lib.AppendStr
import Derived.ArgAppend
import Derived.Laws.IdiomCopy
import Derived.OrdersHeld
import Derived.Laws.BitsLemmas
import Derived.RowKit
import Derived.Shelf.Abstract
import Derived.Laws.Cover1
import Derived.Lib.Strings
import Derived.Lib.Slices
import Derived.Lib.Walk
import Derived.Lib.Bytealg
import Derived.Test.YtjbbdjdbffaidaaDoorWWords
import Derived.Test.YtjbbdjdbffaidaaDoorWLast
import Derived.Test.YtjbbdjdbffaidaaDoorWTab
import Derived.Test.YtjbbdjdbffaidaaDoorWFour
import Derived.Test.YtjbbdjdbffaidaaDoorWQPut
import Derived.Test.YtjbbdjdbffaidaaDoorWApart
import Derived.Test.YtjbbdjdbffaidaaDoorWArr
import Derived.Test.YtjbbdjdbffaidaaDoorWZeros
import Derived.Test.YtjbbdjdbffaidaaDoorWFoot
import Derived.Test.YtjbbdjdbffaidaaDoorWKept
import Derived.Test.YtjbbdjdbffaidaaDoorWShare
import Derived.Test.YtjbbdjdbffaidaaDoorWN
import Derived.Test.YtjbbdjdbffaidaaDoorWFootNe
import Derived.Test.YtjbbdjdbffaidaaDoorWAt
import Derived.Test.YtjbbdjdbffaidaaDoorWEqStruct
import Derived.Test.YtjbbdjdbffaidaaDoorWRepsOne
import Derived.Test.YtjbbdjdbffaidaaDoorWInv
import Derived.Test.YtjbbdjdbffaidaaDoorWInvWords
import Derived.Test.YtjbbdjdbffaidaaDoorWGuard
import Derived.Test.YtjbbdjdbffaidaaDoorWNEv
import Derived.Test.YtjbbdjdbffaidaaDoorWMore
namespace Go.Proofs.YtjbbdjdbffaidaaDoor.QFnNumbers
open Go.RowKit Go.Proofs.YtjbbdjdbffaidaaDoorW.PrintWords Go.Proofs.YtjbbdjdbffaidaaDoorW.PrintLast Go.Proofs.YtjbbdjdbffaidaaDoorW.PrintMore
attribute [local go_sem] max2_int min2_int max_two min_two max_three min_three max_four min_four   -- for this text's walks alone
set_option linter.unusedVariables false
set_option linter.unusedSimpArgs false



def errW : Option Int → Value
  | none => .nilIface
  | some c => .iface 0 (.int .i64 c)
theorem errW_none : errW none = .nilIface := rfl
theorem errW_some (c : Int) : errW (some c) = .iface 0 (.int .i64 c) := rfl

theorem bless_flip : ∀ a b : List UInt8, (!Op.bytesLess b a && !(b == a)) = Op.bytesLess a b
  | [], [] => rfl
  | [], _ :: _ => rfl
  | _ :: _, [] => rfl
  | x :: a, y :: b => by
    have ih := bless_flip a b
    simp only [Op.bytesLess]
    rw [← ih]
    by_cases h : x = y
    · subst h
      have h1 : ¬ x < x := by simp [UInt8.lt_iff_toNat_lt]
      simp [h1]
    · have h0 : x.toNat ≠ y.toNat := fun e => h (UInt8.toNat_inj.1 e)
      have h2 : ¬ y = x := fun e => h e.symm
      by_cases h1 : x.toNat < y.toNat
      · simp [h, h2, UInt8.lt_iff_toNat_lt, h1, show ¬ y.toNat < x.toNat by omega]
      · simp [h, h2, UInt8.lt_iff_toNat_lt, h1, show y.toNat < x.toNat by omega]
theorem info3 : (Tryd.prog.info? 3).map (fun i => (i.zero, i.size, i.bytes)) = some (some (.int .i64 0), 1, 8) := by kernel_rfl
theorem info5 : (Tryd.prog.info? 5).map (fun i => (i.zero, i.size, i.bytes)) = some (some (.int .u8 0), 1, 1) := by kernel_rfl
-- the values' own types

end Go.Proofs.YtjbbdjdbffaidaaDoor.QFnNumbers
