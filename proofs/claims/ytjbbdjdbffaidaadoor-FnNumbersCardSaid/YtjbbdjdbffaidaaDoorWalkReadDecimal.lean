/- impl.ReadDecimal of the given program is walked at every text, and the law FnExactReadDecimal. Conditions: the table of powers of ten and the two errors read as the program's text lays them; the reference's answer is the same. -/
import Derived.Test.YtjbbdjdbffaidaaDoorShelfA
import Derived.Test.YtjbbdjdbffaidaaDoorQReadDecimal
import Derived.Test.YtjbbdjdbffaidaaDoorWalkDecimal
import Derived.Lib.AtoiTie
namespace Go.Proofs.YtjbbdjdbffaidaaDoor.WalkReadDecimal
open Go.RowKit Go.Proofs.YtjbbdjdbffaidaaDoorW.PrintWords Go.Proofs.YtjbbdjdbffaidaaDoorW.PrintLast Go.Proofs.YtjbbdjdbffaidaaDoorW.PrintMore Go.Proofs.YtjbbdjdbffaidaaDoor.WalkDecimal
set_option linter.unusedVariables false
structure Errs (w : World) : Prop where
  syn : ∃ (tp : TypeId) (p : Value), w.var? Tryd.prog "strconv.ErrSyntax" = some #[.iface tp p]
  rng : ∃ (tp : TypeId) (p : Value), w.var? Tryd.prog "strconv.ErrRange" = some #[.iface tp p]
theorem Errs.below {w w' : World} (h : Errs w) (hb : Below w.heap.size w w') : Errs w' := by
  obtain ⟨⟨t0, p0, h0⟩, t1, p1, h1⟩ := h
  exact ⟨⟨t0, p0, Go.Joins.var_stays (show Tryd.prog.globalNamed "strconv.ErrSyntax" = some 2 from by kernel_rfl) h0 hb (Nat.le_refl _)⟩, t1, p1, Go.Joins.var_stays (show Tryd.prog.globalNamed "strconv.ErrRange" = some 3 from by kernel_rfl) h1 hb (Nat.le_refl _)⟩
/-- What impl.ReadDecimal answers. -/
def ends (s : ByteArray) : Int × Bool := match Lib.atoiAll s.data.toList with
  | .ok v => if 0 ≤ v ∧ v ≤ 1000000000 ∧ (numeral v).toList = s.toList then (v, true) else (0, false)
  | _ => (0, false)
theorem impl_ReadDecimal.calls (s : ByteArray) (hlim : s.size ≤ 140737488351232) (w : World) (hp : Pow w) (he : Errs w) :
    Calls Tryd.prog 15 #[.string s] w fun e w' => e = .returned (.tuple #[.int .i64 (ends s).1, .bool (ends s).2]) ∧ Below w.heap.size w w' := by
  rcases h : Lib.atoiAll s.data.toList with v | _ | _
  · have HC := Aside0.mk (Tryd.strconv_Atoi_ok s (by omega) v h w)
    have HP := Aside0.mk hp
    clear hp he
    by_cases h1 : 0 ≤ v
    · by_cases h2 : v ≤ 1000000000
      · have HI : Aside0 (QDecimal.impl_in.f v 0 1000000000 = some true) := ⟨by unfold QDecimal.impl_in.f; rw [if_pos h1, decide_eq_true h2]⟩
        have H0 : Aside0 (-9223372036854775808 ≤ v) := ⟨by omega⟩
        have H1 : Aside0 (v ≤ 9223372036854775807) := ⟨by omega⟩
        by_cases h3 : (numeral v).toList = s.toList
        · have hr : ends s = (v, true) := by simp only [ends, h, h1, h2, h3, and_self, ↓reduceIte]
          rw [hr]
          have h4 : ((numeral v).toList == s.toList) = true := beq_iff_eq.mpr h3
          generalize hg : numeral v = g at h3 h4
          have HG := Aside0.mk hg
          clear hg hr h h1 h2 h3 hlim
          go_enter Tryd.func15, Tryd.ntmps15
          go_wp2_with (first | (go_at_call 29; refine HC.out.mono ?_; rintro e w1 ⟨rfl, hb0⟩; have HB : Aside0 (Below w.heap.size w w1) := ⟨by rcases hb0 with rfl | ⟨t, rfl⟩; exact Below.refl _ _; exact Lib.bytesWorld_below _ _ _⟩; clear hb0) | (go_at_call 30; refine (QDecimal.impl_in.calls v 0 1000000000 true _ HI.out).mono ?_; rintro e w2 ⟨rfl, hd⟩; have HB2 : Aside0 (Below w.heap.size w w2) := ⟨HB.out.trans (hd.below.mono HB.out.size)⟩; clear hd) | (go_at_call 8; refine (impl_Decimal.calls v H0.out H1.out _ (HP.out.below HB2.out)).mono ?_; rw [HG.out]; rintro e w3 ⟨rfl, hb⟩; have HB3 : Aside0 (Below w.heap.size w w3) := ⟨HB2.out.trans (hb.mono HB2.out.size)⟩; clear hb))
          go_ret2
          exact ⟨rfl, HB3.out⟩
        · have hr : ends s = (0, false) := by simp only [ends, h, h3, and_false, ↓reduceIte]
          rw [hr]
          have h4 : ((numeral v).toList == s.toList) = false := beq_eq_false_iff_ne.2 h3
          generalize hg : numeral v = g at h3 h4
          have HG := Aside0.mk hg
          clear hg hr h h1 h2 h3 hlim
          go_enter Tryd.func15, Tryd.ntmps15
          go_wp2_with (first | (go_at_call 29; refine HC.out.mono ?_; rintro e w1 ⟨rfl, hb0⟩; have HB : Aside0 (Below w.heap.size w w1) := ⟨by rcases hb0 with rfl | ⟨t, rfl⟩; exact Below.refl _ _; exact Lib.bytesWorld_below _ _ _⟩; clear hb0) | (go_at_call 30; refine (QDecimal.impl_in.calls v 0 1000000000 true _ HI.out).mono ?_; rintro e w2 ⟨rfl, hd⟩; have HB2 : Aside0 (Below w.heap.size w w2) := ⟨HB.out.trans (hd.below.mono HB.out.size)⟩; clear hd) | (go_at_call 8; refine (impl_Decimal.calls v H0.out H1.out _ (HP.out.below HB2.out)).mono ?_; rw [HG.out]; rintro e w3 ⟨rfl, hb⟩; have HB3 : Aside0 (Below w.heap.size w w3) := ⟨HB2.out.trans (hb.mono HB2.out.size)⟩; clear hb))
          go_ret2
          exact ⟨rfl, HB3.out⟩
      · have HI : Aside0 (QDecimal.impl_in.f v 0 1000000000 = some false) := ⟨by unfold QDecimal.impl_in.f; rw [if_pos h1, decide_eq_false h2]⟩
        have hr : ends s = (0, false) := by simp only [ends, h, h2, false_and, and_false, ↓reduceIte]
        rw [hr]
        clear hr h h1 h2 hlim
        go_enter Tryd.func15, Tryd.ntmps15
        go_wp2_with (first | (go_at_call 29; refine HC.out.mono ?_; rintro e w1 ⟨rfl, hb0⟩; have HB : Aside0 (Below w.heap.size w w1) := ⟨by rcases hb0 with rfl | ⟨t, rfl⟩; exact Below.refl _ _; exact Lib.bytesWorld_below _ _ _⟩; clear hb0) | (go_at_call 30; refine (QDecimal.impl_in.calls v 0 1000000000 false _ HI.out).mono ?_; rintro e w2 ⟨rfl, hd⟩; have HB2 : Aside0 (Below w.heap.size w w2) := ⟨HB.out.trans (hd.below.mono HB.out.size)⟩; clear hd))
        go_ret2
        exact ⟨rfl, HB2.out⟩
    · have HI : Aside0 (QDecimal.impl_in.f v 0 1000000000 = some false) := ⟨by unfold QDecimal.impl_in.f; rw [if_neg h1]⟩
      have hr : ends s = (0, false) := by simp only [ends, h, h1, false_and, ↓reduceIte]
      rw [hr]
      clear hr h h1 hlim
      go_enter Tryd.func15, Tryd.ntmps15
      go_wp2_with (first | (go_at_call 29; refine HC.out.mono ?_; rintro e w1 ⟨rfl, hb0⟩; have HB : Aside0 (Below w.heap.size w w1) := ⟨by rcases hb0 with rfl | ⟨t, rfl⟩; exact Below.refl _ _; exact Lib.bytesWorld_below _ _ _⟩; clear hb0) | (go_at_call 30; refine (QDecimal.impl_in.calls v 0 1000000000 false _ HI.out).mono ?_; rintro e w2 ⟨rfl, hd⟩; have HB2 : Aside0 (Below w.heap.size w w2) := ⟨HB.out.trans (hd.below.mono HB.out.size)⟩; clear hd))
      go_ret2
      exact ⟨rfl, HB2.out⟩
  · obtain ⟨tp, p, hv⟩ := he.syn
    have HC := Aside0.mk (Tryd.strconv_Atoi_syntax_var s (by omega) h tp p w hv)
    have hr : ends s = (0, false) := by simp only [ends, h]
    rw [hr]
    clear hr h hp he hlim hv
    go_enter Tryd.func15, Tryd.ntmps15
    go_wp2_with (go_at_call 29; refine HC.out.mono ?_; rintro e w1 ⟨N, rfl, _, _, hb⟩; have HB := Aside0.mk hb; clear hb)
    go_ret2
    exact ⟨rfl, HB.out⟩
  · obtain ⟨tp, p, hv⟩ := he.rng
    have HC := Aside0.mk (Tryd.strconv_Atoi_range_var s (by omega) h tp p w hv)
    have hr : ends s = (0, false) := by simp only [ends, h]
    rw [hr]
    clear hr h hp he hlim hv
    go_enter Tryd.func15, Tryd.ntmps15
    go_wp2_with (go_at_call 29; refine HC.out.mono ?_; rintro e w1 ⟨N, rfl, _, _, hb⟩; have HB := Aside0.mk hb; clear hb)
    go_ret2
    exact ⟨rfl, HB.out⟩
theorem law (k : Nat) (s : ByteArray) (hlim : s.size ≤ 140737488351232) (w : World) (hp : Pow w) (he : Errs w) (hs : (s.size : Int) > 1048576 ∨ ¬ (s.size : Int) > 1048576 ∧ QDecimal.spec_ReadDecimal.f k s = some (ends s)) :
    Calls Tryd.prog 5 #[.string s] w fun e w' => e = .returned (.bool true) ∧ Below w.heap.size w w' := by
  rcases hs with hs | ⟨hs, hk⟩
  · have hd : decide ((s.size : Int) > 1048576) = true := decide_eq_true hs
    have hd2 : decide (1048576 < (s.size : Int)) = true := decide_eq_true hs
    go_enter Tryd.func5, Tryd.ntmps5
    go_wp2
    go_ret
    exact ⟨rfl, Below.refl _ _⟩
  · have hd : decide ((s.size : Int) > 1048576) = false := decide_eq_false hs
    have hd2 : decide (1048576 < (s.size : Int)) = false := decide_eq_false hs
    generalize hq : ends s = q at hk
    obtain ⟨v, b⟩ := q
    have HK := Aside0.mk hk
    have HP := Aside0.mk hp
    have HE := Aside0.mk he
    have HQ := Aside0.mk hq
    have HL := Aside0.mk hlim
    have hv : (v != v) = false := bne_self_eq_false _
    have hb : (b != b) = false := bne_self_eq_false _
    clear hk hp he hq hlim
    go_enter Tryd.func5, Tryd.ntmps5
    go_wp2_with (first | (go_at_call 14; refine (QDecimal.spec_ReadDecimal.calls k s v b _ HK.out).mono ?_; rintro e w1 ⟨rfl, hb⟩; have HB := Aside0.mk hb; clear hb) | (go_at_call 15; refine (impl_ReadDecimal.calls s HL.out _ (HP.out.below HB.out) (HE.out.below HB.out)).mono ?_; rw [HQ.out]; rintro e w2 ⟨rfl, hb⟩; have HB2 : Aside0 (Below w.heap.size w w2) := ⟨HB.out.trans (hb.mono HB.out.size)⟩; clear hb))
    go_ret
    exact ⟨rfl, HB2.out⟩
end Go.Proofs.YtjbbdjdbffaidaaDoor.WalkReadDecimal
