/- impl.Decimal of the given program gives the decimal numeral of every int; the law FnExactDecimal is walked. Conditions: the table of powers of ten reads as the program's text lays it; the reference's answer is that numeral. -/
import Derived.Test.YtjbbdjdbffaidaaDoorShelf
import Derived.Test.YtjbbdjdbffaidaaDoorQDecimal
import Derived.Lib.SmallJoins
import Derived.Lib.AppendIntMem
namespace Go.Proofs.YtjbbdjdbffaidaaDoor.WalkDecimal
open Go.RowKit Go.Proofs.YtjbbdjdbffaidaaDoorW.PrintWords Go.Proofs.YtjbbdjdbffaidaaDoorW.PrintLast Go.Proofs.YtjbbdjdbffaidaaDoorW.PrintMore
set_option linter.unusedVariables false
def Pow (w : World) : Prop := Lib.TabIs Tryd.prog w "internal/strconv.uint64pow10" .u64 Lib.pow10Tab
theorem Pow.below {w w' : World} (h : Pow w) (hb : Below w.heap.size w w') : Pow w' :=
  Go.Joins.tab_stays (show Tryd.prog.globalNamed "internal/strconv.uint64pow10" = some 5 from by kernel_rfl) h hb (Nat.le_refl _)
def numeral (n : Int) : ByteArray := ⟨(Lib.itoa n).toArray⟩
theorem impl_Decimal.calls (n : Int) (h0 : -9223372036854775808 ≤ n) (h1 : n ≤ 9223372036854775807) (w : World) (ht : Pow w) :
    Calls Tryd.prog 8 #[.int .i64 n] w fun e w' => e = .returned (.string (numeral n)) ∧ Below w.heap.size w w' := by
  have HC := Aside0.mk (Tryd.strconv_Itoa n h0 h1 w ht)
  clear ht h0 h1
  go_enter Tryd.func8, Tryd.ntmps8
  go_wp2_with (go_at_call 26; refine HC.out.mono ?_; rintro e w' ⟨rfl, k, os, rfl⟩)
  go_ret
  exact ⟨rfl, Lib.below_grow _ _ (Nat.le_refl _) _ _⟩
theorem law (k : Nat) (n : Int) (h0 : -9223372036854775808 ≤ n) (h1 : n ≤ 9223372036854775807) (w : World) (ht : Pow w) (hs : QDecimal.spec_Decimal.f k n = some (numeral n)) :
    Calls Tryd.prog 3 #[.int .i64 n] w fun e w' => e = .returned (.bool true) ∧ Below w.heap.size w w' := by
  have HS := Aside0.mk hs
  have HT := Aside0.mk ht
  have H0 := Aside0.mk h0
  have H1 := Aside0.mk h1
  clear hs ht h0 h1
  generalize hg : numeral n = g
  have HG := Aside0.mk hg
  clear hg
  go_enter Tryd.func3, Tryd.ntmps3
  go_wp2_with (first | (go_at_call 7; refine (QDecimal.spec_Decimal.calls k n g _ (by rw [← HG.out]; exact HS.out)).mono ?_; rintro e w1 ⟨rfl, hb⟩; have HB := Aside0.mk hb; clear hb) | (go_at_call 8; refine (impl_Decimal.calls n H0.out H1.out _ (HT.out.below HB.out)).mono ?_; rw [HG.out]; rintro e w2 ⟨rfl, hb⟩; have HB2 : Aside0 (Below w.heap.size w w2) := ⟨HB.out.trans (hb.mono HB.out.size)⟩; clear hb))
  go_ret
  exact ⟨rfl, HB2.out⟩
end Go.Proofs.YtjbbdjdbffaidaaDoor.WalkDecimal
