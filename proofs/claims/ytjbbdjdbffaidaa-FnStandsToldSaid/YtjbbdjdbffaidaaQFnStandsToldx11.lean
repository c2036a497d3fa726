-- Written by a program of this session, for this claim.
import Derived.Test.YtjbbdjdbffaidaaQFnStandsToldx0
import Derived.Test.YtjbbdjdbffaidaaQFnStandsToldx3
import Derived.Test.YtjbbdjdbffaidaaQFnStandsToldx4
import Derived.Test.YtjbbdjdbffaidaaQFnStandsToldx9
import Derived.Test.YtjbbdjdbffaidaaQFnStandsToldx10
namespace Go.Proofs.Ytjbbdjdbffaidaa.QFnStandsTold
open Go.RowKit Go.Proofs.YtjbbdjdbffaidaaW.PrintWords Go.Proofs.YtjbbdjdbffaidaaW.PrintLast Go.Proofs.YtjbbdjdbffaidaaW.PrintMore
attribute [local go_sem] max2_int min2_int max_two min_two max_three min_three max_four min_four   -- for this text's walks alone
set_option linter.unusedVariables false
set_option linter.unusedSimpArgs false

/-! ### slices_Equal_int_int: function 35 -/
def slices_Equal_int_int.l0 : Nat → List Int → List Int → Int → Int → Option (Bool)
  | 0, _, _, _, _ => none
  | k + 1, x0, x1, x12, x13 => if x13 < x12 then (if 0 ≤ x13 then (if x13 < (x0.length : Int) then (if x13 < (x1.length : Int) then (if (rd x0 x13) = (rd x1 x13) then (slices_Equal_int_int.l0 k x0 x1 x12 (wrap64 (x13 + 1))) else (some false)) else (none)) else (none)) else (none)) else (some true)
def slices_Equal_int_int.f (k : Nat) (l0 : List Int) (l1 : List Int) : Option (Bool) := if (l0.length : Int) = (l1.length : Int) then (slices_Equal_int_int.l0 k l0 l1 (l0.length : Int) 0) else (some false)
theorem slices_Equal_int_int.mono_l : ∀ k, (∀ y0 y1 y2 y3, LeO (slices_Equal_int_int.l0 k y0 y1 y2 y3) (slices_Equal_int_int.l0 (k + 1) y0 y1 y2 y3))
  | 0 => fun _ _ _ _ r h => by simp [slices_Equal_int_int.l0] at h
  | k + 1 => by
    have ih0 := slices_Equal_int_int.mono_l k
    · intro y0 y1 y2 y3
      unfold slices_Equal_int_int.l0
      repeat' first
      | (with_reducible exact ih0 _ _ _ _)
      | (with_reducible exact LeO.refl _)
      | (with_reducible exact LeO.none _)
      | (with_reducible refine LeO.ite ?_ ?_)
      | (with_reducible refine LeO.bind ?_ (fun _ => ?_))
      | exact ih0 _ _ _ _
      | exact LeO.none _
      | refine LeO.ite ?_ ?_
      | refine LeO.bind ?_ (fun _ => ?_)
theorem slices_Equal_int_int.mono : ∀ a0 a1 k, LeO (slices_Equal_int_int.f k a0 a1) (slices_Equal_int_int.f (k + 1) a0 a1) := by
  intro a0 a1 k
  have ih0 := slices_Equal_int_int.mono_l k
  unfold slices_Equal_int_int.f
  repeat' first
      | (with_reducible exact ih0 _ _ _ _)
      | (with_reducible exact LeO.refl _)
      | (with_reducible exact LeO.none _)
      | (with_reducible refine LeO.ite ?_ ?_)
      | (with_reducible refine LeO.bind ?_ (fun _ => ?_))
      | exact ih0 _ _ _ _
      | exact LeO.none _
      | refine LeO.ite ?_ ?_
      | refine LeO.bind ?_ (fun _ => ?_)
set_option maxHeartbeats 8000000 in
set_option maxRecDepth 100000 in
theorem slices_Equal_int_int.calls (k : Nat) (A0 : Option Addr) (c0 : Nat) (l0 : List Int) (A1 : Option Addr) (c1 : Nat) (l1 : List Int) (r : Bool) (w : World) (hr0 : Kd.C (Kd.int .i64) w A0 l0.length l0) (hc0 : l0.length ≤ c0) (hr1 : Kd.C (Kd.int .i64) w A1 l1.length l1) (hc1 : l1.length ≤ c1) (h : slices_Equal_int_int.f k l0 l1 = some r) :
    Calls Try.prog 35 #[.slice A0 l0.length c0, .slice A1 l1.length c1] w fun e w' => e = .returned (.bool r) ∧ Drawn0 w w' := by
  have HR0 := Aside0.mk hr0
  have HC0 := Aside0.mk hc0
  clear hr0 hc0
  have HR1 := Aside0.mk hr1
  have HC1 := Aside0.mk hc1
  clear hr1 hc1
  have H : (if (l0.length : Int) = (l1.length : Int) then (slices_Equal_int_int.l0 k l0 l1 (l0.length : Int) 0) else (some false)) = some r := h
  clear h
  by_cases c3 : (l0.length : Int) = (l1.length : Int)
  · rw [if_pos c3] at H
    have c3b0 : ((l0.length : Int) == (l1.length : Int)) = true := beq_iff_eq.mpr c3
    have c3b1 : ((l0.length : Int) != (l1.length : Int)) = false := bne_eq_false_iff_eq.mpr c3
    have c3b2 : (l0.length == l1.length) = true := by first | simpa using c3 | (simp at c3 ⊢; omega)
    clear c3
    have H' := Aside0.mk H
    clear H
    go_enter Try.func35, Try.ntmps35
    go_wp2
    repeat (go_quiet (fail); try go_wp2)
    go_loopg [13] k (fun kq v13 w' => ∃ (x13_1 : Int), v13 = .int .i64 x13_1 ∧ Aside0 (slices_Equal_int_int.l0 kq l0 l1 (l0.length : Int) x13_1 = some r) ∧ Aside0 (kq ≤ k) ∧ Drawn0 w w')
    case atStart => exact ⟨(0), (by first | rfl | (simp; done) | (simp [*]; done)), H', ⟨Nat.le_refl _⟩, by repeat (first | exact Drawn0.refl _ | apply Drawn0.step)⟩
    case round =>
      clear H'
      try clear c1
      try clear p2
      try clear c3
      try clear c3b0
      try clear c3b1
      try clear c3b2
      obtain ⟨x13_1, rfl, HA, HK1, ⟨m1, rfl⟩⟩ := hrel
      cases gk with
      | zero => exact absurd HA.out (by simp [slices_Equal_int_int.l0])
      | succ k1 =>
        have H := HA.out
        clear HA
        simp only [slices_Equal_int_int.l0] at H
        by_cases c4 : x13_1 < (l0.length : Int)
        · rw [if_pos c4] at H
          have c4b0 : decide (x13_1 < (l0.length : Int)) = true := decide_eq_true c4
          clear c4
          by_cases c5 : 0 ≤ x13_1
          · rw [if_pos c5] at H
            have c5b0 : decide (0 ≤ x13_1) = true := decide_eq_true c5
            clear c5
            by_cases c6 : x13_1 < (l0.length : Int)
            · rw [if_pos c6] at H
              have c6b0 : decide (x13_1 < (l0.length : Int)) = true := decide_eq_true c6
              clear c6
              by_cases c7 : x13_1 < (l1.length : Int)
              · rw [if_pos c7] at H
                have c7b0 : decide (x13_1 < (l1.length : Int)) = true := decide_eq_true c7
                clear c7
                by_cases c8 : (rd l0 x13_1) = (rd l1 x13_1)
                · rw [if_pos c8] at H
                  have c8b0 : ((rd l0 x13_1) == (rd l1 x13_1)) = true := beq_iff_eq.mpr c8
                  have c8b1 : ((rd l0 x13_1) != (rd l1 x13_1)) = false := bne_eq_false_iff_eq.mpr c8
                  clear c8
                  have H' := Aside0.mk H
                  clear H
                  have p474 : 0 ≤ (x13_1 : Int) := of_decide_eq_true (by first | (with_reducible assumption) | assumption)
                  have q474 : x13_1 < (l0.length : Int) := of_decide_eq_true (by first | (with_reducible assumption) | assumption)
                  obtain ⟨ad474, e474, hx474_0⟩ := Kd.at_int HR0.out x13_1 p474 q474
                  cases e474
                  replace p474 := eq_true p474
                  replace q474 := eq_true q474
                  have p475 : 0 ≤ (x13_1 : Int) := of_decide_eq_true (by first | (with_reducible assumption) | assumption)
                  have q475 : x13_1 < (l1.length : Int) := of_decide_eq_true (by first | (with_reducible assumption) | assumption)
                  obtain ⟨ad475, e475, hx475_0⟩ := Kd.at_int HR1.out x13_1 p475 q475
                  cases e475
                  replace p475 := eq_true p475
                  replace q475 := eq_true q475
                  go_wp2
                  repeat (go_quiet (fail); try go_wp2)
                  go_roundg k1
                  case measure => have := HK1.out; omega
                  case rel => exact ⟨(wrap64 (x13_1 + 1)), (by first | rfl | (simp; done) | (simp [*]; done)), H', ⟨by have := HK1.out; omega⟩, by repeat (first | exact Drawn0.refl _ | apply Drawn0.step)⟩
                · rw [if_neg c8] at H
                  have c8b0 : ((rd l0 x13_1) == (rd l1 x13_1)) = false := beq_eq_false_iff_ne.mpr c8
                  have c8b1 : ((rd l0 x13_1) != (rd l1 x13_1)) = true := bne_iff_ne.mpr c8
                  obtain rfl := Option.some.inj H
                  have p474 : 0 ≤ (x13_1 : Int) := of_decide_eq_true (by first | (with_reducible assumption) | assumption)
                  have q474 : x13_1 < (l0.length : Int) := of_decide_eq_true (by first | (with_reducible assumption) | assumption)
                  obtain ⟨ad474, e474, hx474_0⟩ := Kd.at_int HR0.out x13_1 p474 q474
                  cases e474
                  replace p474 := eq_true p474
                  replace q474 := eq_true q474
                  have p475 : 0 ≤ (x13_1 : Int) := of_decide_eq_true (by first | (with_reducible assumption) | assumption)
                  have q475 : x13_1 < (l1.length : Int) := of_decide_eq_true (by first | (with_reducible assumption) | assumption)
                  obtain ⟨ad475, e475, hx475_0⟩ := Kd.at_int HR1.out x13_1 p475 q475
                  cases e475
                  replace p475 := eq_true p475
                  replace q475 := eq_true q475
                  go_wp2
                  repeat (go_quiet (fail); try go_wp2)
                  go_ret
                  exact ⟨by first | rfl | (simp; done) | (simp [*]; done), by repeat (first | exact Drawn0.refl _ | apply Drawn0.step)⟩
              · rw [if_neg c7] at H
                exact absurd H (by simp)
            · rw [if_neg c6] at H
              exact absurd H (by simp)
          · rw [if_neg c5] at H
            exact absurd H (by simp)
        · rw [if_neg c4] at H
          have c4b0 : decide (x13_1 < (l0.length : Int)) = false := decide_eq_false c4
          clear c4
          obtain rfl := Option.some.inj H
          go_wp2
          repeat (go_quiet (fail); try go_wp2)
          go_ret
          exact ⟨by first | rfl | (simp; done) | (simp [*]; done), by repeat (first | exact Drawn0.refl _ | apply Drawn0.step)⟩
  · rw [if_neg c3] at H
    have c3b0 : ((l0.length : Int) == (l1.length : Int)) = false := beq_eq_false_iff_ne.mpr c3
    have c3b1 : ((l0.length : Int) != (l1.length : Int)) = true := bne_iff_ne.mpr c3
    have c3b2 : (l0.length == l1.length) = false := by first | simpa using c3 | (simp at c3 ⊢; omega)
    obtain rfl := Option.some.inj H
    go_enter Try.func35, Try.ntmps35
    go_wp2
    repeat (go_quiet (fail); try go_wp2)
    go_ret
    exact ⟨by first | rfl | (simp; done) | (simp [*]; done), by repeat (first | exact Drawn0.refl _ | apply Drawn0.step)⟩

/-! ### impl_Beginning: function 22 -/
def impl_Beginning.f (k : Nat) (l0 : List Int) (l1 : List Int) : Option (Bool) := if 0 ≤ (mn (l0.length : Int) (l1.length : Int)) then (if (mn (l0.length : Int) (l1.length : Int)) ≤ (l0.length : Int) then (if (mn (l0.length : Int) (l1.length : Int)) ≤ (l1.length : Int) then ((slices_Equal_int_int.f k (l0.take ((mn (l0.length : Int) (l1.length : Int)) : Int).toNat) (l1.take ((mn (l0.length : Int) (l1.length : Int)) : Int).toNat)).bind fun t478 => (some t478)) else (none)) else (none)) else (none)
theorem impl_Beginning.mono : ∀ a0 a1 k, LeO (impl_Beginning.f k a0 a1) (impl_Beginning.f (k + 1) a0 a1) := by
  intro a0 a1 k
  unfold impl_Beginning.f
  repeat' first
      | (with_reducible exact slices_Equal_int_int.mono _ _ _)
      | (with_reducible exact LeO.refl _)
      | (with_reducible exact LeO.none _)
      | (with_reducible refine LeO.ite ?_ ?_)
      | (with_reducible refine LeO.bind ?_ (fun _ => ?_))
      | exact slices_Equal_int_int.mono _ _ _
      | exact LeO.none _
      | refine LeO.ite ?_ ?_
      | refine LeO.bind ?_ (fun _ => ?_)
set_option maxHeartbeats 8000000 in
set_option maxRecDepth 100000 in
theorem impl_Beginning.calls (k : Nat) (A0 : Option Addr) (c0 : Nat) (l0 : List Int) (A1 : Option Addr) (c1 : Nat) (l1 : List Int) (r : Bool) (w : World) (hr0 : Kd.C (Kd.int .i64) w A0 l0.length l0) (hc0 : l0.length ≤ c0) (hr1 : Kd.C (Kd.int .i64) w A1 l1.length l1) (hc1 : l1.length ≤ c1) (h : impl_Beginning.f k l0 l1 = some r) :
    Calls Try.prog 22 #[.slice A0 l0.length c0, .slice A1 l1.length c1] w fun e w' => e = .returned (.bool r) ∧ Below w.heap.size w w' := by
  have HR0 := Aside0.mk hr0
  have HC0 := Aside0.mk hc0
  clear hr0 hc0
  have HR1 := Aside0.mk hr1
  have HC1 := Aside0.mk hc1
  clear hr1 hc1
  have HB := Aside0.mk (Below.refl w.heap.size w)
  have H : (if 0 ≤ (mn (l0.length : Int) (l1.length : Int)) then (if (mn (l0.length : Int) (l1.length : Int)) ≤ (l0.length : Int) then (if (mn (l0.length : Int) (l1.length : Int)) ≤ (l1.length : Int) then ((slices_Equal_int_int.f k (l0.take ((mn (l0.length : Int) (l1.length : Int)) : Int).toNat) (l1.take ((mn (l0.length : Int) (l1.length : Int)) : Int).toNat)).bind fun t478 => (some t478)) else (none)) else (none)) else (none)) = some r := h
  clear h
  obtain ⟨ji3, hji3⟩ : ∃ j_ : Int, (mn (l0.length : Int) (l1.length : Int)) = j_ := ⟨_, rfl⟩
  replace H : (if 0 ≤ (ji3) then (if (ji3) ≤ (l0.length : Int) then (if (ji3) ≤ (l1.length : Int) then ((slices_Equal_int_int.f k (l0.take ((ji3) : Int).toNat) (l1.take ((ji3) : Int).toNat)).bind fun t478 => (some t478)) else (none)) else (none)) else (none)) = some r := by first | (rw [hji3] at H; exact H) | (simp only [hji3] at H ⊢; exact H)
  (try (have hji3l : 0 ≤ ji3 := by (rw [← hji3]; unfold mn; (repeat' split) <;> omega)))
  (try (have hji3m : 0 ≤ ji3 := by omega))
  have hji3_ : (if (l1.length : Int) < (l0.length : Int) then (l1.length : Int) else (l0.length : Int)) = ji3 := hji3
  have hji3n := hji3_
  (try simp only [Int.ofNat_lt] at hji3n)
  by_cases c4 : 0 ≤ (ji3)
  · rw [if_pos c4] at H
    have c4b0 := eq_true c4
    have c4b1 : decide (0 ≤ (ji3)) = true := decide_eq_true c4
    clear c4
    by_cases c5 : (ji3) ≤ (l0.length : Int)
    · rw [if_pos c5] at H
      have c5b0 := eq_true c5
      have c5b1 : decide ((ji3) ≤ (l0.length : Int)) = true := decide_eq_true c5
      clear c5
      have c6b0 := eq_true (of_decide_eq_true (by first | (with_reducible assumption) | assumption) : 0 ≤ (ji3))
      by_cases c7 : (ji3) ≤ (l1.length : Int)
      · rw [if_pos c7] at H
        have c7b0 := eq_true c7
        have c7b1 : decide ((ji3) ≤ (l1.length : Int)) = true := decide_eq_true c7
        clear c7
        replace H := Option.bind_eq_some_iff.mp H
        obtain ⟨t478, A80, H⟩ := H
        replace H : (some t478) = some r := H
        have A8 := Aside0.mk A80
        clear A80
        obtain rfl := Option.some.inj H
        obtain ⟨i09, hi09, _, hsz9, _⟩ := info_parts info3
        obtain ⟨hcut9, hA9, hC9⟩ := print_take_of (P := Try.prog) (Value.int .i64) 0 26 3 .i64 Try.underlying26 hi09 hsz9 A0 c0 l0 (ji3) (of_decide_eq_true (by first | (with_reducible assumption) | assumption)) (of_decide_eq_true (by first | (with_reducible assumption) | assumption)) HC0.out
        have HR476 := Aside0.mk (Kd.C_of_reads (h1 := fun _ => rfl) (hA9 _ (Kd.reads_of_C HR0.out)))
        have HC476 := Aside0.mk hC9
        clear hA9 hC9 hi09 hsz9
        obtain ⟨i010, hi010, _, hsz10, _⟩ := info_parts info3
        obtain ⟨hcut10, hA10, hC10⟩ := print_take_of (P := Try.prog) (Value.int .i64) 0 26 3 .i64 Try.underlying26 hi010 hsz10 A1 c1 l1 (ji3) (of_decide_eq_true (by first | (with_reducible assumption) | assumption)) (of_decide_eq_true (by first | (with_reducible assumption) | assumption)) HC1.out
        have HR477 := Aside0.mk (Kd.C_of_reads (h1 := fun _ => rfl) (hA10 _ (Kd.reads_of_C HR1.out)))
        have HC477 := Aside0.mk hC10
        clear hA10 hC10 hi010 hsz10
        have hl0_ := Aside0.mk (show (l0.take ((ji3) : Int).toNat).length = ((ji3) : Int).toNat by rw [List.length_take]; have := of_eq_true c5b0; omega)
        have hl1_ := Aside0.mk (show (l1.take ((ji3) : Int).toNat).length = ((ji3) : Int).toNat by rw [List.length_take]; have := of_eq_true c7b0; omega)
        go_enter Try.func22, Try.ntmps22
        go_wp2_with (first | (go_at_call 35; (refine calls_of_args (args' := #[.slice A0 (l0.take ((ji3) : Int).toNat).length c0, .slice A1 (l1.take ((ji3) : Int).toNat).length c1]) (by rw [hl0_.out, hl1_.out]) ?_); (with_reducible refine (slices_Equal_int_int.calls k _ _ (l0.take ((ji3) : Int).toNat) _ _ (l1.take ((ji3) : Int).toNat) t478 _ ?side1 ?side2 ?side3 ?side4 A8.out).mono ?_); (case side1 => repeat (first | exact HR476.out | (with_reducible refine Kd.C_alloc ?_ _) | (with_reducible refine Kd.C_drewN ?_ _) | (with_reducible refine Kd.C_drew ?_))); (case side2 => exact HC476.out); (case side3 => repeat (first | exact HR477.out | (with_reducible refine Kd.C_alloc ?_ _) | (with_reducible refine Kd.C_drewN ?_ _) | (with_reducible refine Kd.C_drew ?_))); (case side4 => exact HC477.out); rintro e w' ⟨rfl, ⟨nd, rfl⟩⟩; (try first | exact ⟨rfl, _, World.drewN_drewN _ _ _⟩ | exact ⟨rfl, _, Eq.trans (World.drewN_drewN _ _ _) (congrArg (World.drewN _) (Nat.add_assoc _ _ _))⟩)))
        repeat (go_quiet (first | (go_at_call 35; (refine calls_of_args (args' := #[.slice A0 (l0.take ((ji3) : Int).toNat).length c0, .slice A1 (l1.take ((ji3) : Int).toNat).length c1]) (by rw [hl0_.out, hl1_.out]) ?_); (with_reducible refine (slices_Equal_int_int.calls k _ _ (l0.take ((ji3) : Int).toNat) _ _ (l1.take ((ji3) : Int).toNat) t478 _ ?side1 ?side2 ?side3 ?side4 A8.out).mono ?_); (case side1 => repeat (first | exact HR476.out | (with_reducible refine Kd.C_alloc ?_ _) | (with_reducible refine Kd.C_drewN ?_ _) | (with_reducible refine Kd.C_drew ?_))); (case side2 => exact HC476.out); (case side3 => repeat (first | exact HR477.out | (with_reducible refine Kd.C_alloc ?_ _) | (with_reducible refine Kd.C_drewN ?_ _) | (with_reducible refine Kd.C_drew ?_))); (case side4 => exact HC477.out); rintro e w' ⟨rfl, ⟨nd, rfl⟩⟩; (try first | exact ⟨rfl, _, World.drewN_drewN _ _ _⟩ | exact ⟨rfl, _, Eq.trans (World.drewN_drewN _ _ _) (congrArg (World.drewN _) (Nat.add_assoc _ _ _))⟩))); try go_wp2_with (first | (go_at_call 35; (refine calls_of_args (args' := #[.slice A0 (l0.take ((ji3) : Int).toNat).length c0, .slice A1 (l1.take ((ji3) : Int).toNat).length c1]) (by rw [hl0_.out, hl1_.out]) ?_); (with_reducible refine (slices_Equal_int_int.calls k _ _ (l0.take ((ji3) : Int).toNat) _ _ (l1.take ((ji3) : Int).toNat) t478 _ ?side1 ?side2 ?side3 ?side4 A8.out).mono ?_); (case side1 => repeat (first | exact HR476.out | (with_reducible refine Kd.C_alloc ?_ _) | (with_reducible refine Kd.C_drewN ?_ _) | (with_reducible refine Kd.C_drew ?_))); (case side2 => exact HC476.out); (case side3 => repeat (first | exact HR477.out | (with_reducible refine Kd.C_alloc ?_ _) | (with_reducible refine Kd.C_drewN ?_ _) | (with_reducible refine Kd.C_drew ?_))); (case side4 => exact HC477.out); rintro e w' ⟨rfl, ⟨nd, rfl⟩⟩; (try first | exact ⟨rfl, _, World.drewN_drewN _ _ _⟩ | exact ⟨rfl, _, Eq.trans (World.drewN_drewN _ _ _) (congrArg (World.drewN _) (Nat.add_assoc _ _ _))⟩))))
        go_ret
        exact ⟨by first | rfl | (simp [errW_none, errW_some] <;> rfl) | (simp only [← hji3]; first | rfl | (simp [errW_none, errW_some] <;> rfl)) | (simp [*, errW_none, errW_some] <;> rfl), by repeat (first | (with_reducible first | exact HB.out | apply below_alloc | apply pw_below_drewN | apply below_drew1) | exact HB.out)⟩
      · rw [if_neg c7] at H
        exact absurd H (by simp)
    · rw [if_neg c5] at H
      exact absurd H (by simp)
  · rw [if_neg c4] at H
    exact absurd H (by simp)

/-! ### spec_Beginning: function 23 -/
mutual
def spec_Beginning.l0 : Nat → List Int → List Int → Int → Option (Bool)
  | 0, _, _, _ => none
  | k + 1, x0, x1, x5 => if x5 < (x0.length : Int) then (spec_Beginning.j1 k x0 x1 x5 (decide (x5 < (x1.length : Int)))) else (spec_Beginning.j1 k x0 x1 x5 false)
def spec_Beginning.j1 : Nat → List Int → List Int → Int → Bool → Option (Bool)
  | 0, _, _, _, _ => none
  | k + 1, x0, x1, x5, x15 => if x15 = true then (if 0 ≤ x5 then (if x5 < (x0.length : Int) then (if x5 < (x1.length : Int) then (if (rd x0 x5) = (rd x1 x5) then (spec_Beginning.l0 k x0 x1 (wrap64 (x5 + 1))) else (some false)) else (none)) else (none)) else (none)) else (some true)
end
def spec_Beginning.f (k : Nat) (l0 : List Int) (l1 : List Int) : Option (Bool) := spec_Beginning.l0 k l0 l1 0
theorem spec_Beginning.mono_l : ∀ k, (∀ y0 y1 y2, LeO (spec_Beginning.l0 k y0 y1 y2) (spec_Beginning.l0 (k + 1) y0 y1 y2)) ∧ (∀ y0 y1 y2 y3, LeO (spec_Beginning.j1 k y0 y1 y2 y3) (spec_Beginning.j1 (k + 1) y0 y1 y2 y3))
  | 0 => ⟨fun _ _ _ r h => by simp [spec_Beginning.l0] at h, fun _ _ _ _ r h => by simp [spec_Beginning.j1] at h⟩
  | k + 1 => by
    obtain ⟨ih0, ih1⟩ := spec_Beginning.mono_l k
    refine ⟨?_, ?_⟩
    · intro y0 y1 y2
      unfold spec_Beginning.l0
      repeat' first
      | (with_reducible exact ih0 _ _ _)
      | (with_reducible exact ih1 _ _ _ _)
      | (with_reducible exact LeO.refl _)
      | (with_reducible exact LeO.none _)
      | (with_reducible refine LeO.ite ?_ ?_)
      | (with_reducible refine LeO.bind ?_ (fun _ => ?_))
      | exact ih0 _ _ _
      | exact ih1 _ _ _ _
      | exact LeO.none _
      | refine LeO.ite ?_ ?_
      | refine LeO.bind ?_ (fun _ => ?_)
    · intro y0 y1 y2 y3
      unfold spec_Beginning.j1
      repeat' first
      | (with_reducible exact ih0 _ _ _)
      | (with_reducible exact ih1 _ _ _ _)
      | (with_reducible exact LeO.refl _)
      | (with_reducible exact LeO.none _)
      | (with_reducible refine LeO.ite ?_ ?_)
      | (with_reducible refine LeO.bind ?_ (fun _ => ?_))
      | exact ih0 _ _ _
      | exact ih1 _ _ _ _
      | exact LeO.none _
      | refine LeO.ite ?_ ?_
      | refine LeO.bind ?_ (fun _ => ?_)
theorem spec_Beginning.mono : ∀ a0 a1 k, LeO (spec_Beginning.f k a0 a1) (spec_Beginning.f (k + 1) a0 a1) := by
  intro a0 a1 k
  obtain ⟨ih0, ih1⟩ := spec_Beginning.mono_l k
  unfold spec_Beginning.f
  repeat' first
      | (with_reducible exact ih0 _ _ _)
      | (with_reducible exact ih1 _ _ _ _)
      | (with_reducible exact LeO.refl _)
      | (with_reducible exact LeO.none _)
      | (with_reducible refine LeO.ite ?_ ?_)
      | (with_reducible refine LeO.bind ?_ (fun _ => ?_))
      | exact ih0 _ _ _
      | exact ih1 _ _ _ _
      | exact LeO.none _
      | refine LeO.ite ?_ ?_
      | refine LeO.bind ?_ (fun _ => ?_)
set_option maxHeartbeats 8000000 in
set_option maxRecDepth 100000 in
theorem spec_Beginning.calls (k : Nat) (A0 : Option Addr) (c0 : Nat) (l0 : List Int) (A1 : Option Addr) (c1 : Nat) (l1 : List Int) (r : Bool) (w : World) (hr0 : Kd.C (Kd.int .i64) w A0 l0.length l0) (hc0 : l0.length ≤ c0) (hr1 : Kd.C (Kd.int .i64) w A1 l1.length l1) (hc1 : l1.length ≤ c1) (h : spec_Beginning.f k l0 l1 = some r) :
    Calls Try.prog 23 #[.slice A0 l0.length c0, .slice A1 l1.length c1] w fun e w' => e = .returned (.bool r) ∧ Drawn0 w w' := by
  have HR0 := Aside0.mk hr0
  have HC0 := Aside0.mk hc0
  clear hr0 hc0
  have HR1 := Aside0.mk hr1
  have HC1 := Aside0.mk hc1
  clear hr1 hc1
  have H : (spec_Beginning.l0 k l0 l1 0) = some r := h
  clear h
  have H' := Aside0.mk H
  clear H
  go_enter Try.func23, Try.ntmps23
  go_wp2
  repeat (go_quiet (fail); try go_wp2)
  go_loopg [5] k (fun kq v5 w' => ∃ (x5_1 : Int), v5 = .int .i64 x5_1 ∧ Aside0 (spec_Beginning.l0 kq l0 l1 x5_1 = some r) ∧ Aside0 (kq ≤ k) ∧ Drawn0 w w')
  case atStart => exact ⟨(0), (by first | rfl | (simp; done) | (simp [*]; done)), H', ⟨Nat.le_refl _⟩, by repeat (first | exact Drawn0.refl _ | apply Drawn0.step)⟩
  case round =>
    clear H'
    try clear c1
    try clear c2
    try clear p2
    obtain ⟨x5_1, rfl, HA, HK1, ⟨m1, rfl⟩⟩ := hrel
    cases gk with
    | zero => exact absurd HA.out (by simp [spec_Beginning.l0])
    | succ k1 =>
      have H := HA.out
      clear HA
      simp only [spec_Beginning.l0] at H
      have HC3 := Aside0.mk H
      clear H
      go_upto_region 2 with (fail)
      repeat (go_quiet (fail); go_upto_region 2 with (fail))
      go_cut [15] (fun v15 wc => ∃ (kq : Nat) (x15_2 : Bool), v15 = .bool x15_2 ∧ Aside0 (spec_Beginning.j1 kq l0 l1 x5_1 x15_2 = some r) ∧ Aside0 (kq ≤ k1) ∧ Drawn0 w wc)
      case first =>
        have H := HC3.out
        clear HC3
        by_cases c4 : x5_1 < (l0.length : Int)
        · rw [if_pos c4] at H
          have c4b0 : decide (x5_1 < (l0.length : Int)) = true := decide_eq_true c4
          clear c4
          (first | rw [c4b0] | (simp only [i64_w, i32_w]; rw [c4b0]) | skip)
          have H' := Aside0.mk H
          clear H
          go_wp2
          repeat (go_quiet (fail); try go_wp2)
          go_meet
          case rel => exact ⟨_, (decide (x5_1 < (l1.length : Int))), (by first | rfl | (simp; done) | (simp [*]; done)), H', ⟨by have := HK1.out; first | omega | exact Nat.le_refl _⟩, by repeat (first | exact Drawn0.refl _ | apply Drawn0.step)⟩
        · rw [if_neg c4] at H
          have c4b0 : decide (x5_1 < (l0.length : Int)) = false := decide_eq_false c4
          clear c4
          (first | rw [c4b0] | (simp only [i64_w, i32_w]; rw [c4b0]) | skip)
          have H' := Aside0.mk H
          clear H
          go_wp2
          repeat (go_quiet (fail); try go_wp2)
          go_meet
          case rel => exact ⟨_, (false), (by first | rfl | (simp; done) | (simp [*]; done)), H', ⟨by have := HK1.out; first | omega | exact Nat.le_refl _⟩, by repeat (first | exact Drawn0.refl _ | apply Drawn0.step)⟩
      case rest =>
        clear HC3
        try clear c1
        try clear c2
        try clear p2
        try clear c4
        try clear c4b0
        try clear p2
        obtain ⟨kq, x15_2, rfl, HA, HJ2, ⟨mc2, rfl⟩⟩ := hcut
        cases kq with
        | zero => exact absurd HA.out (by simp [spec_Beginning.j1])
        | succ kj2 =>
          have H := HA.out
          clear HA
          simp only [spec_Beginning.j1] at H
          by_cases c5 : x15_2 = true
          · subst c5
            have H1 : (if 0 ≤ x5_1 then (if x5_1 < (l0.length : Int) then (if x5_1 < (l1.length : Int) then (if (rd l0 x5_1) = (rd l1 x5_1) then (spec_Beginning.l0 kj2 l0 l1 (wrap64 (x5_1 + 1))) else (some false)) else (none)) else (none)) else (none)) = some r := by rw [if_pos rfl] at H; exact H
            clear H
            have H := H1
            clear H1
            by_cases c6 : 0 ≤ x5_1
            · rw [if_pos c6] at H
              have c6b0 : decide (0 ≤ x5_1) = true := decide_eq_true c6
              clear c6
              by_cases c7 : x5_1 < (l0.length : Int)
              · rw [if_pos c7] at H
                have c7b0 : decide (x5_1 < (l0.length : Int)) = true := decide_eq_true c7
                clear c7
                by_cases c8 : x5_1 < (l1.length : Int)
                · rw [if_pos c8] at H
                  have c8b0 : decide (x5_1 < (l1.length : Int)) = true := decide_eq_true c8
                  clear c8
                  by_cases c9 : (rd l0 x5_1) = (rd l1 x5_1)
                  · rw [if_pos c9] at H
                    have c9b0 : ((rd l0 x5_1) == (rd l1 x5_1)) = true := beq_iff_eq.mpr c9
                    have c9b1 : ((rd l0 x5_1) != (rd l1 x5_1)) = false := bne_eq_false_iff_eq.mpr c9
                    clear c9
                    have H' := Aside0.mk H
                    clear H
                    have p479 : 0 ≤ (x5_1 : Int) := of_decide_eq_true (by first | (with_reducible assumption) | assumption)
                    have q479 : x5_1 < (l0.length : Int) := of_decide_eq_true (by first | (with_reducible assumption) | assumption)
                    obtain ⟨ad479, e479, hx479_0⟩ := Kd.at_int HR0.out x5_1 p479 q479
                    cases e479
                    replace p479 := eq_true p479
                    replace q479 := eq_true q479
                    have p480 : 0 ≤ (x5_1 : Int) := of_decide_eq_true (by first | (with_reducible assumption) | assumption)
                    have q480 : x5_1 < (l1.length : Int) := of_decide_eq_true (by first | (with_reducible assumption) | assumption)
                    obtain ⟨ad480, e480, hx480_0⟩ := Kd.at_int HR1.out x5_1 p480 q480
                    cases e480
                    replace p480 := eq_true p480
                    replace q480 := eq_true q480
                    go_wp2
                    repeat (go_quiet (fail); try go_wp2)
                    go_roundg kj2
                    case measure => have := HK1.out; have := HJ2.out; omega
                    case rel => exact ⟨(wrap64 (x5_1 + 1)), (by first | rfl | (simp; done) | (simp [*]; done)), H', ⟨by have := HK1.out; have := HJ2.out; omega⟩, by repeat (first | exact Drawn0.refl _ | apply Drawn0.step)⟩
                  · rw [if_neg c9] at H
                    have c9b0 : ((rd l0 x5_1) == (rd l1 x5_1)) = false := beq_eq_false_iff_ne.mpr c9
                    have c9b1 : ((rd l0 x5_1) != (rd l1 x5_1)) = true := bne_iff_ne.mpr c9
                    obtain rfl := Option.some.inj H
                    have p479 : 0 ≤ (x5_1 : Int) := of_decide_eq_true (by first | (with_reducible assumption) | assumption)
                    have q479 : x5_1 < (l0.length : Int) := of_decide_eq_true (by first | (with_reducible assumption) | assumption)
                    obtain ⟨ad479, e479, hx479_0⟩ := Kd.at_int HR0.out x5_1 p479 q479
                    cases e479
                    replace p479 := eq_true p479
                    replace q479 := eq_true q479
                    have p480 : 0 ≤ (x5_1 : Int) := of_decide_eq_true (by first | (with_reducible assumption) | assumption)
                    have q480 : x5_1 < (l1.length : Int) := of_decide_eq_true (by first | (with_reducible assumption) | assumption)
                    obtain ⟨ad480, e480, hx480_0⟩ := Kd.at_int HR1.out x5_1 p480 q480
                    cases e480
                    replace p480 := eq_true p480
                    replace q480 := eq_true q480
                    go_wp2
                    repeat (go_quiet (fail); try go_wp2)
                    go_ret
                    exact ⟨by first | rfl | (simp; done) | (simp [*]; done), by repeat (first | exact Drawn0.refl _ | apply Drawn0.step)⟩
                · rw [if_neg c8] at H
                  exact absurd H (by simp)
              · rw [if_neg c7] at H
                exact absurd H (by simp)
            · rw [if_neg c6] at H
              exact absurd H (by simp)
          · replace c5 := Bool.eq_false_iff.mpr c5
            subst c5
            have H1 : (some true) = some r := by rw [if_neg (show ¬ (false = true) by decide)] at H; exact H
            clear H
            have H := H1
            clear H1
            obtain rfl := Option.some.inj H
            go_wp2
            repeat (go_quiet (fail); try go_wp2)
            go_ret
            exact ⟨by first | rfl | (simp; done) | (simp [*]; done), by repeat (first | exact Drawn0.refl _ | apply Drawn0.step)⟩

/-! ### laws_FnStandsTold: function 4 -/
def laws_FnStandsTold.f (k : Nat) (l0 : List Int) : Option (Bool) := (laws_big.f l0).bind fun t481 => (if t481 = true then (some true) else ((spec_DrawExtends.f k l0).bind fun bt482 => ((spec_DrawBeginning.f k l0).bind fun bt487 => ((impl_HeightOf.f k bt482.1 bt482.2.1).bind fun t493 => ((spec_HeightOf.f k bt482.1 bt482.2.1).bind fun t494 => (if t493 = t494 then ((impl_Extends.f k bt482.1 bt482.2.1 bt482.2.2).bind fun t495 => ((spec_Extends.f k bt482.1 bt482.2.1 bt482.2.2).bind fun t496 => (if (t495 == t496) = true then ((impl_RowTo.f k bt482.1 bt482.2.1).bind fun t497 => ((spec_RowTo.f k bt482.1 bt482.2.1).bind fun t500 => ((laws_sameInts.f k t497 t500).bind fun t503 => (if t503 = true then ((impl_Clash.f k bt482.1 bt482.2.1 bt482.2.2).bind fun t504 => ((spec_Clash.f k bt482.1 bt482.2.1 bt482.2.2).bind fun t505 => (if (t504 == t505) = true then ((impl_RowAfter.f k bt482.1 bt482.2.1 bt482.2.2).bind fun t506 => ((spec_RowAfter.f k bt482.1 bt482.2.1 bt482.2.2).bind fun t509 => ((laws_sameInts.f k t506 t509).bind fun t512 => (if t512 = true then ((impl_Beginning.f k bt487.1 bt487.2).bind fun t513 => ((spec_Beginning.f k bt487.1 bt487.2).bind fun t514 => (if (t513 == t514) = true then ((impl_Beginning.f k bt487.1 bt487.1).bind fun t515 => (if t515 = true then ((impl_Beginning.f k (([] : List Int)) bt487.2).bind fun t519 => (some t519)) else (some false))) else (some false)))) else (some false))))) else (some false)))) else (some false))))) else (some false)))) else (some false)))))))
theorem laws_FnStandsTold.mono : ∀ a0 k, LeO (laws_FnStandsTold.f k a0) (laws_FnStandsTold.f (k + 1) a0) := by
  intro a0 k
  unfold laws_FnStandsTold.f
  repeat' first
      | (with_reducible exact impl_Beginning.mono _ _ _)
      | (with_reducible exact impl_Clash.mono _ _ _ _)
      | (with_reducible exact impl_Extends.mono _ _ _ _)
      | (with_reducible exact impl_HeightOf.mono _ _ _)
      | (with_reducible exact impl_RowAfter.mono _ _ _ _)
      | (with_reducible exact impl_RowTo.mono _ _ _)
      | (with_reducible exact laws_sameInts.mono _ _ _)
      | (with_reducible exact spec_Beginning.mono _ _ _)
      | (with_reducible exact spec_Clash.mono _ _ _ _)
      | (with_reducible exact spec_DrawBeginning.mono _ _)
      | (with_reducible exact spec_DrawExtends.mono _ _)
      | (with_reducible exact spec_Extends.mono _ _ _ _)
      | (with_reducible exact spec_HeightOf.mono _ _ _)
      | (with_reducible exact spec_RowAfter.mono _ _ _ _)
      | (with_reducible exact spec_RowTo.mono _ _ _)
      | (with_reducible exact LeO.refl _)
      | (with_reducible exact LeO.none _)
      | (with_reducible refine LeO.ite ?_ ?_)
      | (with_reducible refine LeO.bind ?_ (fun _ => ?_))
      | exact impl_Beginning.mono _ _ _
      | exact impl_Clash.mono _ _ _ _
      | exact impl_Extends.mono _ _ _ _
      | exact impl_HeightOf.mono _ _ _
      | exact impl_RowAfter.mono _ _ _ _
      | exact impl_RowTo.mono _ _ _
      | exact laws_sameInts.mono _ _ _
      | exact spec_Beginning.mono _ _ _
      | exact spec_Clash.mono _ _ _ _
      | exact spec_DrawBeginning.mono _ _
      | exact spec_DrawExtends.mono _ _
      | exact spec_Extends.mono _ _ _ _
      | exact spec_HeightOf.mono _ _ _
      | exact spec_RowAfter.mono _ _ _ _
      | exact spec_RowTo.mono _ _ _
      | exact LeO.none _
      | refine LeO.ite ?_ ?_
      | refine LeO.bind ?_ (fun _ => ?_)
set_option maxHeartbeats 8000000 in
set_option maxRecDepth 100000 in
theorem laws_FnStandsTold.calls (k : Nat) (A0 : Option Addr) (c0 : Nat) (l0 : List Int) (r : Bool) (w : World) (hr0 : Kd.C (Kd.int .u8) w A0 l0.length l0) (hc0 : l0.length ≤ c0) (h : laws_FnStandsTold.f k l0 = some r) (hrt : r = true) :
    Calls Try.prog 4 #[.slice A0 l0.length c0] w fun e w' => e = .returned (.bool r) ∧ Below w.heap.size w w' := by
  have HRT := Aside0.mk hrt
  clear hrt
  have HR0 := Aside0.mk hr0
  have HC0 := Aside0.mk hc0
  clear hr0 hc0
  have HB := Aside0.mk (Below.refl w.heap.size w)
  have H : ((laws_big.f l0).bind fun t481 => (if t481 = true then (some true) else ((spec_DrawExtends.f k l0).bind fun bt482 => ((spec_DrawBeginning.f k l0).bind fun bt487 => ((impl_HeightOf.f k bt482.1 bt482.2.1).bind fun t493 => ((spec_HeightOf.f k bt482.1 bt482.2.1).bind fun t494 => (if t493 = t494 then ((impl_Extends.f k bt482.1 bt482.2.1 bt482.2.2).bind fun t495 => ((spec_Extends.f k bt482.1 bt482.2.1 bt482.2.2).bind fun t496 => (if (t495 == t496) = true then ((impl_RowTo.f k bt482.1 bt482.2.1).bind fun t497 => ((spec_RowTo.f k bt482.1 bt482.2.1).bind fun t500 => ((laws_sameInts.f k t497 t500).bind fun t503 => (if t503 = true then ((impl_Clash.f k bt482.1 bt482.2.1 bt482.2.2).bind fun t504 => ((spec_Clash.f k bt482.1 bt482.2.1 bt482.2.2).bind fun t505 => (if (t504 == t505) = true then ((impl_RowAfter.f k bt482.1 bt482.2.1 bt482.2.2).bind fun t506 => ((spec_RowAfter.f k bt482.1 bt482.2.1 bt482.2.2).bind fun t509 => ((laws_sameInts.f k t506 t509).bind fun t512 => (if t512 = true then ((impl_Beginning.f k bt487.1 bt487.2).bind fun t513 => ((spec_Beginning.f k bt487.1 bt487.2).bind fun t514 => (if (t513 == t514) = true then ((impl_Beginning.f k bt487.1 bt487.1).bind fun t515 => (if t515 = true then ((impl_Beginning.f k (([] : List Int)) bt487.2).bind fun t519 => (some t519)) else (some false))) else (some false)))) else (some false))))) else (some false)))) else (some false))))) else (some false)))) else (some false)))))))) = some r := h
  clear h
  replace H := Option.bind_eq_some_iff.mp H
  obtain ⟨t481, A20, H⟩ := H
  replace H : (if t481 = true then (some true) else ((spec_DrawExtends.f k l0).bind fun bt482 => ((spec_DrawBeginning.f k l0).bind fun bt487 => ((impl_HeightOf.f k bt482.1 bt482.2.1).bind fun t493 => ((spec_HeightOf.f k bt482.1 bt482.2.1).bind fun t494 => (if t493 = t494 then ((impl_Extends.f k bt482.1 bt482.2.1 bt482.2.2).bind fun t495 => ((spec_Extends.f k bt482.1 bt482.2.1 bt482.2.2).bind fun t496 => (if (t495 == t496) = true then ((impl_RowTo.f k bt482.1 bt482.2.1).bind fun t497 => ((spec_RowTo.f k bt482.1 bt482.2.1).bind fun t500 => ((laws_sameInts.f k t497 t500).bind fun t503 => (if t503 = true then ((impl_Clash.f k bt482.1 bt482.2.1 bt482.2.2).bind fun t504 => ((spec_Clash.f k bt482.1 bt482.2.1 bt482.2.2).bind fun t505 => (if (t504 == t505) = true then ((impl_RowAfter.f k bt482.1 bt482.2.1 bt482.2.2).bind fun t506 => ((spec_RowAfter.f k bt482.1 bt482.2.1 bt482.2.2).bind fun t509 => ((laws_sameInts.f k t506 t509).bind fun t512 => (if t512 = true then ((impl_Beginning.f k bt487.1 bt487.2).bind fun t513 => ((spec_Beginning.f k bt487.1 bt487.2).bind fun t514 => (if (t513 == t514) = true then ((impl_Beginning.f k bt487.1 bt487.1).bind fun t515 => (if t515 = true then ((impl_Beginning.f k (([] : List Int)) bt487.2).bind fun t519 => (some t519)) else (some false))) else (some false)))) else (some false))))) else (some false)))) else (some false))))) else (some false)))) else (some false))))))) = some r := H
  have A2 := Aside0.mk A20
  clear A20
  by_cases c3 : t481 = true
  · subst c3
    have H1 : (some true) = some r := by rw [if_pos rfl] at H; exact H
    clear H
    have H := H1
    clear H1
    obtain rfl := Option.some.inj H
    go_enter Try.func4, Try.ntmps4
    go_wp2_with (first | ((with_reducible refine gate_callee (f := 5) rfl ?_); refine goesL_ (some 9) rfl rfl Try.func5 (by kernel_rfl) rfl #[.slice A0 l0.length c0] rfl (by (try simp only [List.map_toArray, List.map_cons, List.map_nil]); first | done | rfl | (simp only [List.length_drop, List.length_take]; rfl)) ?_; (with_reducible refine (laws_big.calls _ _ l0 true _ ?side1 ?side2 A2.out).mono ?_); (case side1 => repeat (first | exact HR0.out | (with_reducible refine Kd.C_alloc ?_ _) | (with_reducible refine Kd.C_drewN ?_ _) | (with_reducible refine Kd.C_drew ?_))); (case side2 => exact HC0.out); rintro e w' ⟨rfl, ⟨nd, rfl⟩⟩; refine ⟨_, rfl, ?_⟩))
    go_ret
    exact ⟨by first | rfl | (simp [errW_none, errW_some] <;> rfl) | (simp [*, errW_none, errW_some] <;> rfl), by repeat (first | (with_reducible first | exact HB.out | apply below_alloc | apply pw_below_drewN | apply below_drew1) | exact HB.out)⟩
  · replace c3 := Bool.eq_false_iff.mpr c3
    subst c3
    have H1 : ((spec_DrawExtends.f k l0).bind fun bt482 => ((spec_DrawBeginning.f k l0).bind fun bt487 => ((impl_HeightOf.f k bt482.1 bt482.2.1).bind fun t493 => ((spec_HeightOf.f k bt482.1 bt482.2.1).bind fun t494 => (if t493 = t494 then ((impl_Extends.f k bt482.1 bt482.2.1 bt482.2.2).bind fun t495 => ((spec_Extends.f k bt482.1 bt482.2.1 bt482.2.2).bind fun t496 => (if (t495 == t496) = true then ((impl_RowTo.f k bt482.1 bt482.2.1).bind fun t497 => ((spec_RowTo.f k bt482.1 bt482.2.1).bind fun t500 => ((laws_sameInts.f k t497 t500).bind fun t503 => (if t503 = true then ((impl_Clash.f k bt482.1 bt482.2.1 bt482.2.2).bind fun t504 => ((spec_Clash.f k bt482.1 bt482.2.1 bt482.2.2).bind fun t505 => (if (t504 == t505) = true then ((impl_RowAfter.f k bt482.1 bt482.2.1 bt482.2.2).bind fun t506 => ((spec_RowAfter.f k bt482.1 bt482.2.1 bt482.2.2).bind fun t509 => ((laws_sameInts.f k t506 t509).bind fun t512 => (if t512 = true then ((impl_Beginning.f k bt487.1 bt487.2).bind fun t513 => ((spec_Beginning.f k bt487.1 bt487.2).bind fun t514 => (if (t513 == t514) = true then ((impl_Beginning.f k bt487.1 bt487.1).bind fun t515 => (if t515 = true then ((impl_Beginning.f k (([] : List Int)) bt487.2).bind fun t519 => (some t519)) else (some false))) else (some false)))) else (some false))))) else (some false)))) else (some false))))) else (some false)))) else (some false)))))) = some r := by rw [if_neg (show ¬ (false = true) by decide)] at H; exact H
    clear H
    have H := H1
    clear H1
    replace H := Option.bind_eq_some_iff.mp H
    obtain ⟨⟨t482, t483, t484⟩, A40, H⟩ := H
    replace H : ((spec_DrawBeginning.f k l0).bind fun bt487 => ((impl_HeightOf.f k t482 t483).bind fun t493 => ((spec_HeightOf.f k t482 t483).bind fun t494 => (if t493 = t494 then ((impl_Extends.f k t482 t483 t484).bind fun t495 => ((spec_Extends.f k t482 t483 t484).bind fun t496 => (if (t495 == t496) = true then ((impl_RowTo.f k t482 t483).bind fun t497 => ((spec_RowTo.f k t482 t483).bind fun t500 => ((laws_sameInts.f k t497 t500).bind fun t503 => (if t503 = true then ((impl_Clash.f k t482 t483 t484).bind fun t504 => ((spec_Clash.f k t482 t483 t484).bind fun t505 => (if (t504 == t505) = true then ((impl_RowAfter.f k t482 t483 t484).bind fun t506 => ((spec_RowAfter.f k t482 t483 t484).bind fun t509 => ((laws_sameInts.f k t506 t509).bind fun t512 => (if t512 = true then ((impl_Beginning.f k bt487.1 bt487.2).bind fun t513 => ((spec_Beginning.f k bt487.1 bt487.2).bind fun t514 => (if (t513 == t514) = true then ((impl_Beginning.f k bt487.1 bt487.1).bind fun t515 => (if t515 = true then ((impl_Beginning.f k (([] : List Int)) bt487.2).bind fun t519 => (some t519)) else (some false))) else (some false)))) else (some false))))) else (some false)))) else (some false))))) else (some false)))) else (some false))))) = some r := H
    have A4 := Aside0.mk A40
    clear A40
    replace H := Option.bind_eq_some_iff.mp H
    obtain ⟨⟨t487, t488⟩, A50, H⟩ := H
    replace H : ((impl_HeightOf.f k t482 t483).bind fun t493 => ((spec_HeightOf.f k t482 t483).bind fun t494 => (if t493 = t494 then ((impl_Extends.f k t482 t483 t484).bind fun t495 => ((spec_Extends.f k t482 t483 t484).bind fun t496 => (if (t495 == t496) = true then ((impl_RowTo.f k t482 t483).bind fun t497 => ((spec_RowTo.f k t482 t483).bind fun t500 => ((laws_sameInts.f k t497 t500).bind fun t503 => (if t503 = true then ((impl_Clash.f k t482 t483 t484).bind fun t504 => ((spec_Clash.f k t482 t483 t484).bind fun t505 => (if (t504 == t505) = true then ((impl_RowAfter.f k t482 t483 t484).bind fun t506 => ((spec_RowAfter.f k t482 t483 t484).bind fun t509 => ((laws_sameInts.f k t506 t509).bind fun t512 => (if t512 = true then ((impl_Beginning.f k t487 t488).bind fun t513 => ((spec_Beginning.f k t487 t488).bind fun t514 => (if (t513 == t514) = true then ((impl_Beginning.f k t487 t487).bind fun t515 => (if t515 = true then ((impl_Beginning.f k (([] : List Int)) t488).bind fun t519 => (some t519)) else (some false))) else (some false)))) else (some false))))) else (some false)))) else (some false))))) else (some false)))) else (some false)))) = some r := H
    have A5 := Aside0.mk A50
    clear A50
    replace H := Option.bind_eq_some_iff.mp H
    obtain ⟨t493, A60, H⟩ := H
    replace H : ((spec_HeightOf.f k t482 t483).bind fun t494 => (if t493 = t494 then ((impl_Extends.f k t482 t483 t484).bind fun t495 => ((spec_Extends.f k t482 t483 t484).bind fun t496 => (if (t495 == t496) = true then ((impl_RowTo.f k t482 t483).bind fun t497 => ((spec_RowTo.f k t482 t483).bind fun t500 => ((laws_sameInts.f k t497 t500).bind fun t503 => (if t503 = true then ((impl_Clash.f k t482 t483 t484).bind fun t504 => ((spec_Clash.f k t482 t483 t484).bind fun t505 => (if (t504 == t505) = true then ((impl_RowAfter.f k t482 t483 t484).bind fun t506 => ((spec_RowAfter.f k t482 t483 t484).bind fun t509 => ((laws_sameInts.f k t506 t509).bind fun t512 => (if t512 = true then ((impl_Beginning.f k t487 t488).bind fun t513 => ((spec_Beginning.f k t487 t488).bind fun t514 => (if (t513 == t514) = true then ((impl_Beginning.f k t487 t487).bind fun t515 => (if t515 = true then ((impl_Beginning.f k (([] : List Int)) t488).bind fun t519 => (some t519)) else (some false))) else (some false)))) else (some false))))) else (some false)))) else (some false))))) else (some false)))) else (some false))) = some r := H
    have A6 := Aside0.mk A60
    clear A60
    replace H := Option.bind_eq_some_iff.mp H
    obtain ⟨t494, A70, H⟩ := H
    replace H : (if t493 = t494 then ((impl_Extends.f k t482 t483 t484).bind fun t495 => ((spec_Extends.f k t482 t483 t484).bind fun t496 => (if (t495 == t496) = true then ((impl_RowTo.f k t482 t483).bind fun t497 => ((spec_RowTo.f k t482 t483).bind fun t500 => ((laws_sameInts.f k t497 t500).bind fun t503 => (if t503 = true then ((impl_Clash.f k t482 t483 t484).bind fun t504 => ((spec_Clash.f k t482 t483 t484).bind fun t505 => (if (t504 == t505) = true then ((impl_RowAfter.f k t482 t483 t484).bind fun t506 => ((spec_RowAfter.f k t482 t483 t484).bind fun t509 => ((laws_sameInts.f k t506 t509).bind fun t512 => (if t512 = true then ((impl_Beginning.f k t487 t488).bind fun t513 => ((spec_Beginning.f k t487 t488).bind fun t514 => (if (t513 == t514) = true then ((impl_Beginning.f k t487 t487).bind fun t515 => (if t515 = true then ((impl_Beginning.f k (([] : List Int)) t488).bind fun t519 => (some t519)) else (some false))) else (some false)))) else (some false))))) else (some false)))) else (some false))))) else (some false)))) else (some false)) = some r := H
    have A7 := Aside0.mk A70
    clear A70
    by_cases c8 : t493 = t494
    · rw [if_pos c8] at H
      have c8b0 : (t493 == t494) = true := beq_iff_eq.mpr c8
      have c8b1 : (t493 != t494) = false := bne_eq_false_iff_eq.mpr c8
      clear c8
      replace H := Option.bind_eq_some_iff.mp H
      obtain ⟨t495, A90, H⟩ := H
      replace H : ((spec_Extends.f k t482 t483 t484).bind fun t496 => (if (t495 == t496) = true then ((impl_RowTo.f k t482 t483).bind fun t497 => ((spec_RowTo.f k t482 t483).bind fun t500 => ((laws_sameInts.f k t497 t500).bind fun t503 => (if t503 = true then ((impl_Clash.f k t482 t483 t484).bind fun t504 => ((spec_Clash.f k t482 t483 t484).bind fun t505 => (if (t504 == t505) = true then ((impl_RowAfter.f k t482 t483 t484).bind fun t506 => ((spec_RowAfter.f k t482 t483 t484).bind fun t509 => ((laws_sameInts.f k t506 t509).bind fun t512 => (if t512 = true then ((impl_Beginning.f k t487 t488).bind fun t513 => ((spec_Beginning.f k t487 t488).bind fun t514 => (if (t513 == t514) = true then ((impl_Beginning.f k t487 t487).bind fun t515 => (if t515 = true then ((impl_Beginning.f k (([] : List Int)) t488).bind fun t519 => (some t519)) else (some false))) else (some false)))) else (some false))))) else (some false)))) else (some false))))) else (some false))) = some r := H
      have A9 := Aside0.mk A90
      clear A90
      replace H := Option.bind_eq_some_iff.mp H
      obtain ⟨t496, A100, H⟩ := H
      replace H : (if (t495 == t496) = true then ((impl_RowTo.f k t482 t483).bind fun t497 => ((spec_RowTo.f k t482 t483).bind fun t500 => ((laws_sameInts.f k t497 t500).bind fun t503 => (if t503 = true then ((impl_Clash.f k t482 t483 t484).bind fun t504 => ((spec_Clash.f k t482 t483 t484).bind fun t505 => (if (t504 == t505) = true then ((impl_RowAfter.f k t482 t483 t484).bind fun t506 => ((spec_RowAfter.f k t482 t483 t484).bind fun t509 => ((laws_sameInts.f k t506 t509).bind fun t512 => (if t512 = true then ((impl_Beginning.f k t487 t488).bind fun t513 => ((spec_Beginning.f k t487 t488).bind fun t514 => (if (t513 == t514) = true then ((impl_Beginning.f k t487 t487).bind fun t515 => (if t515 = true then ((impl_Beginning.f k (([] : List Int)) t488).bind fun t519 => (some t519)) else (some false))) else (some false)))) else (some false))))) else (some false)))) else (some false))))) else (some false)) = some r := H
      have A10 := Aside0.mk A100
      clear A100
      by_cases c11 : (t495 == t496) = true
      · rw [if_pos c11] at H
        have c11b0 : (t495 == t496) = true := c11
        (try (have c11b1 : decide (t495 = t496) = true := by simpa using c11))
        (try (have c11b2 : (t495 == t496) = true := by simpa using c11))
        clear c11
        replace H := Option.bind_eq_some_iff.mp H
        obtain ⟨t497, A120, H⟩ := H
        replace H : ((spec_RowTo.f k t482 t483).bind fun t500 => ((laws_sameInts.f k t497 t500).bind fun t503 => (if t503 = true then ((impl_Clash.f k t482 t483 t484).bind fun t504 => ((spec_Clash.f k t482 t483 t484).bind fun t505 => (if (t504 == t505) = true then ((impl_RowAfter.f k t482 t483 t484).bind fun t506 => ((spec_RowAfter.f k t482 t483 t484).bind fun t509 => ((laws_sameInts.f k t506 t509).bind fun t512 => (if t512 = true then ((impl_Beginning.f k t487 t488).bind fun t513 => ((spec_Beginning.f k t487 t488).bind fun t514 => (if (t513 == t514) = true then ((impl_Beginning.f k t487 t487).bind fun t515 => (if t515 = true then ((impl_Beginning.f k (([] : List Int)) t488).bind fun t519 => (some t519)) else (some false))) else (some false)))) else (some false))))) else (some false)))) else (some false)))) = some r := H
        have A12 := Aside0.mk A120
        clear A120
        replace H := Option.bind_eq_some_iff.mp H
        obtain ⟨t500, A130, H⟩ := H
        replace H : ((laws_sameInts.f k t497 t500).bind fun t503 => (if t503 = true then ((impl_Clash.f k t482 t483 t484).bind fun t504 => ((spec_Clash.f k t482 t483 t484).bind fun t505 => (if (t504 == t505) = true then ((impl_RowAfter.f k t482 t483 t484).bind fun t506 => ((spec_RowAfter.f k t482 t483 t484).bind fun t509 => ((laws_sameInts.f k t506 t509).bind fun t512 => (if t512 = true then ((impl_Beginning.f k t487 t488).bind fun t513 => ((spec_Beginning.f k t487 t488).bind fun t514 => (if (t513 == t514) = true then ((impl_Beginning.f k t487 t487).bind fun t515 => (if t515 = true then ((impl_Beginning.f k (([] : List Int)) t488).bind fun t519 => (some t519)) else (some false))) else (some false)))) else (some false))))) else (some false)))) else (some false))) = some r := H
        have A13 := Aside0.mk A130
        clear A130
        replace H := Option.bind_eq_some_iff.mp H
        obtain ⟨t503, A140, H⟩ := H
        replace H : (if t503 = true then ((impl_Clash.f k t482 t483 t484).bind fun t504 => ((spec_Clash.f k t482 t483 t484).bind fun t505 => (if (t504 == t505) = true then ((impl_RowAfter.f k t482 t483 t484).bind fun t506 => ((spec_RowAfter.f k t482 t483 t484).bind fun t509 => ((laws_sameInts.f k t506 t509).bind fun t512 => (if t512 = true then ((impl_Beginning.f k t487 t488).bind fun t513 => ((spec_Beginning.f k t487 t488).bind fun t514 => (if (t513 == t514) = true then ((impl_Beginning.f k t487 t487).bind fun t515 => (if t515 = true then ((impl_Beginning.f k (([] : List Int)) t488).bind fun t519 => (some t519)) else (some false))) else (some false)))) else (some false))))) else (some false)))) else (some false)) = some r := H
        have A14 := Aside0.mk A140
        clear A140
        by_cases c15 : t503 = true
        · subst c15
          have H1 : ((impl_Clash.f k t482 t483 t484).bind fun t504 => ((spec_Clash.f k t482 t483 t484).bind fun t505 => (if (t504 == t505) = true then ((impl_RowAfter.f k t482 t483 t484).bind fun t506 => ((spec_RowAfter.f k t482 t483 t484).bind fun t509 => ((laws_sameInts.f k t506 t509).bind fun t512 => (if t512 = true then ((impl_Beginning.f k t487 t488).bind fun t513 => ((spec_Beginning.f k t487 t488).bind fun t514 => (if (t513 == t514) = true then ((impl_Beginning.f k t487 t487).bind fun t515 => (if t515 = true then ((impl_Beginning.f k (([] : List Int)) t488).bind fun t519 => (some t519)) else (some false))) else (some false)))) else (some false))))) else (some false)))) = some r := by rw [if_pos rfl] at H; exact H
          clear H
          have H := H1
          clear H1
          replace H := Option.bind_eq_some_iff.mp H
          obtain ⟨t504, A160, H⟩ := H
          replace H : ((spec_Clash.f k t482 t483 t484).bind fun t505 => (if (t504 == t505) = true then ((impl_RowAfter.f k t482 t483 t484).bind fun t506 => ((spec_RowAfter.f k t482 t483 t484).bind fun t509 => ((laws_sameInts.f k t506 t509).bind fun t512 => (if t512 = true then ((impl_Beginning.f k t487 t488).bind fun t513 => ((spec_Beginning.f k t487 t488).bind fun t514 => (if (t513 == t514) = true then ((impl_Beginning.f k t487 t487).bind fun t515 => (if t515 = true then ((impl_Beginning.f k (([] : List Int)) t488).bind fun t519 => (some t519)) else (some false))) else (some false)))) else (some false))))) else (some false))) = some r := H
          have A16 := Aside0.mk A160
          clear A160
          replace H := Option.bind_eq_some_iff.mp H
          obtain ⟨t505, A170, H⟩ := H
          replace H : (if (t504 == t505) = true then ((impl_RowAfter.f k t482 t483 t484).bind fun t506 => ((spec_RowAfter.f k t482 t483 t484).bind fun t509 => ((laws_sameInts.f k t506 t509).bind fun t512 => (if t512 = true then ((impl_Beginning.f k t487 t488).bind fun t513 => ((spec_Beginning.f k t487 t488).bind fun t514 => (if (t513 == t514) = true then ((impl_Beginning.f k t487 t487).bind fun t515 => (if t515 = true then ((impl_Beginning.f k (([] : List Int)) t488).bind fun t519 => (some t519)) else (some false))) else (some false)))) else (some false))))) else (some false)) = some r := H
          have A17 := Aside0.mk A170
          clear A170
          by_cases c18 : (t504 == t505) = true
          · rw [if_pos c18] at H
            have c18b0 : (t504 == t505) = true := c18
            (try (have c18b1 : decide (t504 = t505) = true := by simpa using c18))
            (try (have c18b2 : (t504 == t505) = true := by simpa using c18))
            clear c18
            replace H := Option.bind_eq_some_iff.mp H
            obtain ⟨t506, A190, H⟩ := H
            replace H : ((spec_RowAfter.f k t482 t483 t484).bind fun t509 => ((laws_sameInts.f k t506 t509).bind fun t512 => (if t512 = true then ((impl_Beginning.f k t487 t488).bind fun t513 => ((spec_Beginning.f k t487 t488).bind fun t514 => (if (t513 == t514) = true then ((impl_Beginning.f k t487 t487).bind fun t515 => (if t515 = true then ((impl_Beginning.f k (([] : List Int)) t488).bind fun t519 => (some t519)) else (some false))) else (some false)))) else (some false)))) = some r := H
            have A19 := Aside0.mk A190
            clear A190
            replace H := Option.bind_eq_some_iff.mp H
            obtain ⟨t509, A200, H⟩ := H
            replace H : ((laws_sameInts.f k t506 t509).bind fun t512 => (if t512 = true then ((impl_Beginning.f k t487 t488).bind fun t513 => ((spec_Beginning.f k t487 t488).bind fun t514 => (if (t513 == t514) = true then ((impl_Beginning.f k t487 t487).bind fun t515 => (if t515 = true then ((impl_Beginning.f k (([] : List Int)) t488).bind fun t519 => (some t519)) else (some false))) else (some false)))) else (some false))) = some r := H
            have A20 := Aside0.mk A200
            clear A200
            replace H := Option.bind_eq_some_iff.mp H
            obtain ⟨t512, A210, H⟩ := H
            replace H : (if t512 = true then ((impl_Beginning.f k t487 t488).bind fun t513 => ((spec_Beginning.f k t487 t488).bind fun t514 => (if (t513 == t514) = true then ((impl_Beginning.f k t487 t487).bind fun t515 => (if t515 = true then ((impl_Beginning.f k (([] : List Int)) t488).bind fun t519 => (some t519)) else (some false))) else (some false)))) else (some false)) = some r := H
            have A21 := Aside0.mk A210
            clear A210
            by_cases c22 : t512 = true
            · subst c22
              have H1 : ((impl_Beginning.f k t487 t488).bind fun t513 => ((spec_Beginning.f k t487 t488).bind fun t514 => (if (t513 == t514) = true then ((impl_Beginning.f k t487 t487).bind fun t515 => (if t515 = true then ((impl_Beginning.f k (([] : List Int)) t488).bind fun t519 => (some t519)) else (some false))) else (some false)))) = some r := by rw [if_pos rfl] at H; exact H
              clear H
              have H := H1
              clear H1
              replace H := Option.bind_eq_some_iff.mp H
              obtain ⟨t513, A230, H⟩ := H
              replace H : ((spec_Beginning.f k t487 t488).bind fun t514 => (if (t513 == t514) = true then ((impl_Beginning.f k t487 t487).bind fun t515 => (if t515 = true then ((impl_Beginning.f k (([] : List Int)) t488).bind fun t519 => (some t519)) else (some false))) else (some false))) = some r := H
              have A23 := Aside0.mk A230
              clear A230
              replace H := Option.bind_eq_some_iff.mp H
              obtain ⟨t514, A240, H⟩ := H
              replace H : (if (t513 == t514) = true then ((impl_Beginning.f k t487 t487).bind fun t515 => (if t515 = true then ((impl_Beginning.f k (([] : List Int)) t488).bind fun t519 => (some t519)) else (some false))) else (some false)) = some r := H
              have A24 := Aside0.mk A240
              clear A240
              by_cases c25 : (t513 == t514) = true
              · rw [if_pos c25] at H
                have c25b0 : (t513 == t514) = true := c25
                (try (have c25b1 : decide (t513 = t514) = true := by simpa using c25))
                (try (have c25b2 : (t513 == t514) = true := by simpa using c25))
                clear c25
                replace H := Option.bind_eq_some_iff.mp H
                obtain ⟨t515, A260, H⟩ := H
                replace H : (if t515 = true then ((impl_Beginning.f k (([] : List Int)) t488).bind fun t519 => (some t519)) else (some false)) = some r := H
                have A26 := Aside0.mk A260
                clear A260
                by_cases c27 : t515 = true
                · subst c27
                  have H1 : ((impl_Beginning.f k (([] : List Int)) t488).bind fun t519 => (some t519)) = some r := by rw [if_pos rfl] at H; exact H
                  clear H
                  have H := H1
                  clear H1
                  obtain ⟨y516, hy516⟩ : ∃ y_ : List Int, y_ = (([] : List Int)) := ⟨_, rfl⟩
                  replace H : ((impl_Beginning.f k y516 t488).bind fun t519 => (some t519)) = some r := by first | (rw [hy516]; with_reducible exact H) | (have H2_ := (Option.bind_some _ _).symm.trans H; rw [hy516]; with_reducible exact H2_) | (have H2_ := (Option.bind_some _ _).symm.trans H; with_reducible exact H2_) | with_reducible exact H | (rw [hy516]; exact H) | exact H
                  have Ny516 := Aside0.mk hy516
                  clear hy516
                  replace H := Option.bind_eq_some_iff.mp H
                  obtain ⟨t519, A280, H⟩ := H
                  replace H : (some t519) = some r := H
                  have A28 := Aside0.mk A280
                  clear A280
                  obtain rfl := Option.some.inj H
                  go_enter Try.func4, Try.ntmps4
                  go_wp2_with (first | ((with_reducible refine gate_callee (f := 5) rfl ?_); refine goesL_ (some 9) rfl rfl Try.func5 (by kernel_rfl) rfl #[.slice A0 l0.length c0] rfl (by (try simp only [List.map_toArray, List.map_cons, List.map_nil]); first | done | rfl | (simp only [List.length_drop, List.length_take]; rfl)) ?_; (with_reducible refine (laws_big.calls _ _ l0 false _ ?side1 ?side2 A2.out).mono ?_); (case side1 => repeat (first | exact HR0.out | (with_reducible refine Kd.C_alloc ?_ _) | (with_reducible refine Kd.C_drewN ?_ _) | (with_reducible refine Kd.C_drew ?_))); (case side2 => exact HC0.out); rintro e w' ⟨rfl, ⟨nd, rfl⟩⟩; refine ⟨_, rfl, ?_⟩) | ((with_reducible refine gate_callee (f := 14) rfl ?_); refine goesL_ (some 12) rfl rfl Try.func14 (by kernel_rfl) rfl #[.slice A0 l0.length c0] rfl (by (try simp only [List.map_toArray, List.map_cons, List.map_nil]); first | done | rfl | (simp only [List.length_drop, List.length_take]; rfl)) ?_; (with_reducible refine (spec_DrawExtends.calls k _ _ l0 t482 t483 t484 _ ?side1 ?side2 A4.out).mono ?_); (case side1 => repeat (first | exact HR0.out | (with_reducible refine Kd.C_alloc ?_ _) | (with_reducible refine Kd.C_drewN ?_ _) | (with_reducible refine Kd.C_drew ?_))); (case side2 => exact HC0.out); rintro e w29 ⟨v485, rfl, ho0, hb⟩; refine ⟨_, rfl, ?_⟩; have n0_ := Aside0.mk (Kd.S_lower ho0 (below_size (by repeat (first | (with_reducible first | exact HB.out | apply below_alloc | apply pw_below_drewN | apply below_drew1) | exact HB.out)))); have n1_ := Aside0.mk (below_step (by repeat (first | (with_reducible first | exact HB.out | apply below_alloc | apply pw_below_drewN | apply below_drew1) | exact HB.out)) hb); clear HB; have HO486 := n0_; have HB := n1_; clear n0_ n1_; (try clear hb); (try clear hb2); (try clear hk); (try clear hi); (try clear ho0)) | ((with_reducible refine gate_callee (f := 15) rfl ?_); refine goesL_ (some 18) rfl rfl Try.func15 (by kernel_rfl) rfl #[.slice A0 l0.length c0] rfl (by (try simp only [List.map_toArray, List.map_cons, List.map_nil]); first | done | rfl | (simp only [List.length_drop, List.length_take]; rfl)) ?_; (with_reducible refine (spec_DrawBeginning.calls k _ _ l0 t487 t488 _ ?side1 ?side2 A5.out).mono ?_); (case side1 => repeat (first | exact (Kd.C_below HR0.out HB.out) | (with_reducible refine Kd.C_alloc ?_ _) | (with_reducible refine Kd.C_drewN ?_ _) | (with_reducible refine Kd.C_drew ?_))); (case side2 => exact HC0.out); rintro e w30 ⟨v489, v491, rfl, ho0, ho1, hb⟩; refine ⟨_, rfl, ?_⟩; have n0_ := Aside0.mk (Kd.S_below (by (with_reducible repeat (first | apply Kd.S_alloc | apply Kd.S_drewN | apply Kd.S_drew)); exact HO486.out) hb); have n1_ := Aside0.mk (Kd.R_lower ho0 (below_size (by repeat (first | (with_reducible first | exact HB.out | apply below_alloc | apply pw_below_drewN | apply below_drew1) | exact HB.out)))); have n2_ := Aside0.mk (Kd.R_lower ho1 (below_size (by repeat (first | (with_reducible first | exact HB.out | apply below_alloc | apply pw_below_drewN | apply below_drew1) | exact HB.out)))); have n3_ := Aside0.mk (below_step (by repeat (first | (with_reducible first | exact HB.out | apply below_alloc | apply pw_below_drewN | apply below_drew1) | exact HB.out)) hb); clear HO486; clear HB; have HO486 := n0_; have HO490 := n1_; have HO492 := n2_; have HB := n3_; clear n0_ n1_ n2_ n3_; (try clear hb); (try clear hb2); (try clear hk); (try clear hi); (try clear ho0); (try clear ho1); obtain ⟨Ao31, co31, eo31⟩ := Kd.S_slice HO486.out; subst eo31) | (go_at_call 10; (with_reducible refine (impl_HeightOf.calls k _ _ t482 t483 t493 _ ?side1 ?side2 A6.out).mono ?_); (case side1 => repeat (first | exact (Kd.S_reads' HO486.out).2.2 | (with_reducible refine Kd.C_alloc ?_ _) | (with_reducible refine Kd.C_drewN ?_ _) | (with_reducible refine Kd.C_drew ?_))); (case side2 => exact (Kd.S_reads' HO486.out).2.1); rintro e w32 ⟨rfl, hb⟩; have n0_ := Aside0.mk (Kd.S_below (by (with_reducible repeat (first | apply Kd.S_alloc | apply Kd.S_drewN | apply Kd.S_drew)); exact HO486.out) hb); have n1_ := Aside0.mk (Kd.R_below (by (with_reducible repeat (first | apply Kd.R_alloc | apply Kd.R_drewN | apply Kd.R_drew)); exact HO490.out) hb); have n2_ := Aside0.mk (Kd.R_below (by (with_reducible repeat (first | apply Kd.R_alloc | apply Kd.R_drewN | apply Kd.R_drew)); exact HO492.out) hb); have n3_ := Aside0.mk (below_step (by repeat (first | (with_reducible first | exact HB.out | apply below_alloc | apply pw_below_drewN | apply below_drew1) | exact HB.out)) hb); clear HO486; clear HO490; clear HO492; clear HB; have HO486 := n0_; have HO490 := n1_; have HO492 := n2_; have HB := n3_; clear n0_ n1_ n2_ n3_; (try clear hb); (try clear hb2); (try clear hk); (try clear hi)) | (go_at_call 16; (with_reducible refine (spec_HeightOf.calls k _ _ t482 t483 t494 _ ?side1 ?side2 A7.out).mono ?_); (case side1 => repeat (first | exact (Kd.S_reads' HO486.out).2.2 | (with_reducible refine Kd.C_alloc ?_ _) | (with_reducible refine Kd.C_drewN ?_ _) | (with_reducible refine Kd.C_drew ?_))); (case side2 => exact (Kd.S_reads' HO486.out).2.1); rintro e w' ⟨rfl, ⟨nd, rfl⟩⟩) | (go_at_call 9; (with_reducible refine (impl_Extends.calls k _ _ t482 t483 t484 t495 _ ?side1 ?side2 A9.out).mono ?_); (case side1 => repeat (first | exact (Kd.S_reads' HO486.out).2.2 | (with_reducible refine Kd.C_alloc ?_ _) | (with_reducible refine Kd.C_drewN ?_ _) | (with_reducible refine Kd.C_drew ?_))); (case side2 => exact (Kd.S_reads' HO486.out).2.1); rintro e w33 ⟨rfl, hb⟩; have n0_ := Aside0.mk (Kd.S_below (by (with_reducible repeat (first | apply Kd.S_alloc | apply Kd.S_drewN | apply Kd.S_drew)); exact HO486.out) hb); have n1_ := Aside0.mk (Kd.R_below (by (with_reducible repeat (first | apply Kd.R_alloc | apply Kd.R_drewN | apply Kd.R_drew)); exact HO490.out) hb); have n2_ := Aside0.mk (Kd.R_below (by (with_reducible repeat (first | apply Kd.R_alloc | apply Kd.R_drewN | apply Kd.R_drew)); exact HO492.out) hb); have n3_ := Aside0.mk (below_step (by repeat (first | (with_reducible first | exact HB.out | apply below_alloc | apply pw_below_drewN | apply below_drew1) | exact HB.out)) hb); clear HO486; clear HO490; clear HO492; clear HB; have HO486 := n0_; have HO490 := n1_; have HO492 := n2_; have HB := n3_; clear n0_ n1_ n2_ n3_; (try clear hb); (try clear hb2); (try clear hk); (try clear hi)) | (go_at_call 17; (with_reducible refine (spec_Extends.calls k _ _ t482 t483 t484 t496 _ ?side1 ?side2 A10.out).mono ?_); (case side1 => repeat (first | exact (Kd.S_reads' HO486.out).2.2 | (with_reducible refine Kd.C_alloc ?_ _) | (with_reducible refine Kd.C_drewN ?_ _) | (with_reducible refine Kd.C_drew ?_))); (case side2 => exact (Kd.S_reads' HO486.out).2.1); rintro e w' ⟨rfl, ⟨nd, rfl⟩⟩) | (go_at_call 8; (with_reducible refine (impl_RowTo.calls k _ _ t482 t483 t497 _ ?side1 ?side2 A12.out).mono ?_); (case side1 => repeat (first | exact (Kd.S_reads' HO486.out).2.2 | (with_reducible refine Kd.C_alloc ?_ _) | (with_reducible refine Kd.C_drewN ?_ _) | (with_reducible refine Kd.C_drew ?_))); (case side2 => exact (Kd.S_reads' HO486.out).2.1); rintro e w34 ⟨v498, rfl, ho0, hb⟩; have n0_ := Aside0.mk (Kd.S_below (by (with_reducible repeat (first | apply Kd.S_alloc | apply Kd.S_drewN | apply Kd.S_drew)); exact HO486.out) hb); have n1_ := Aside0.mk (Kd.R_elder' (by (with_reducible repeat (first | apply Kd.R_alloc | apply Kd.R_drewN | apply Kd.R_drew)); exact HO490.out) (Kd.Q_base ho0) hb); have n2_ := Aside0.mk (Kd.R_elder' (by (with_reducible repeat (first | apply Kd.R_alloc | apply Kd.R_drewN | apply Kd.R_drew)); exact HO492.out) (Kd.Q_base ho0) hb); have n3_ := Aside0.mk (Kd.Q_lower (Kd.Q_new' (Kd.Q_new' ho0 (Kd.R_lt (by (with_reducible repeat (first | apply Kd.R_alloc | apply Kd.R_drewN | apply Kd.R_drew)); exact HO490.out))) (Kd.R_lt (by (with_reducible repeat (first | apply Kd.R_alloc | apply Kd.R_drewN | apply Kd.R_drew)); exact HO492.out))) (below_size (by repeat (first | (with_reducible first | exact HB.out | apply below_alloc | apply pw_below_drewN | apply below_drew1) | exact HB.out)))); have n4_ := Aside0.mk (below_step (by repeat (first | (with_reducible first | exact HB.out | apply below_alloc | apply pw_below_drewN | apply below_drew1) | exact HB.out)) hb); clear HO486; clear HO490; clear HO492; clear HB; have HO486 := n0_; have HO490 := n1_; have HO492 := n2_; have HO499 := n3_; have HB := n4_; clear n0_ n1_ n2_ n3_ n4_; (try clear hb); (try clear hb2); (try clear hk); (try clear hi); (try clear ho0)) | (go_at_call 19; (with_reducible refine (spec_RowTo.calls k _ _ t482 t483 t500 _ ?side1 ?side2 A13.out).mono ?_); (case side1 => repeat (first | exact (Kd.S_reads' HO486.out).2.2 | (with_reducible refine Kd.C_alloc ?_ _) | (with_reducible refine Kd.C_drewN ?_ _) | (with_reducible refine Kd.C_drew ?_))); (case side2 => exact (Kd.S_reads' HO486.out).2.1); rintro e w35 ⟨v501, rfl, ho0, hb⟩; have n0_ := Aside0.mk (Kd.S_below (by (with_reducible repeat (first | apply Kd.S_alloc | apply Kd.S_drewN | apply Kd.S_drew)); exact HO486.out) hb); have n1_ := Aside0.mk (Kd.R_elder' (by (with_reducible repeat (first | apply Kd.R_alloc | apply Kd.R_drewN | apply Kd.R_drew)); exact HO490.out) (Kd.R_base ho0) hb); have n2_ := Aside0.mk (Kd.R_elder' (by (with_reducible repeat (first | apply Kd.R_alloc | apply Kd.R_drewN | apply Kd.R_drew)); exact HO492.out) (Kd.R_base ho0) hb); have n3_ := Aside0.mk (Kd.Q_elder' (by (with_reducible repeat (first | apply Kd.Q_alloc | apply Kd.Q_drewN | apply Kd.Q_drew)); exact HO499.out) (Kd.R_base ho0) hb); have n4_ := Aside0.mk (Kd.R_lower (Kd.R_new' (Kd.R_new' (Kd.R_new' ho0 (Kd.R_lt (by (with_reducible repeat (first | apply Kd.R_alloc | apply Kd.R_drewN | apply Kd.R_drew)); exact HO490.out))) (Kd.R_lt (by (with_reducible repeat (first | apply Kd.R_alloc | apply Kd.R_drewN | apply Kd.R_drew)); exact HO492.out))) (Kd.Q_lt (by (with_reducible repeat (first | apply Kd.Q_alloc | apply Kd.Q_drewN | apply Kd.Q_drew)); exact HO499.out))) (below_size (by repeat (first | (with_reducible first | exact HB.out | apply below_alloc | apply pw_below_drewN | apply below_drew1) | exact HB.out)))); have n5_ := Aside0.mk (below_step (by repeat (first | (with_reducible first | exact HB.out | apply below_alloc | apply pw_below_drewN | apply below_drew1) | exact HB.out)) hb); clear HO486; clear HO490; clear HO492; clear HO499; clear HB; have HO486 := n0_; have HO490 := n1_; have HO492 := n2_; have HO499 := n3_; have HO502 := n4_; have HB := n5_; clear n0_ n1_ n2_ n3_ n4_ n5_; (try clear hb); (try clear hb2); (try clear hk); (try clear hi); (try clear ho0); obtain ⟨Ao36, co36, eo36, _⟩ := Kd.Q_slice HO499.out; subst eo36; obtain ⟨Ao37, co37, eo37⟩ := Kd.R_slice HO502.out; subst eo37) | (go_at_call 18; (with_reducible refine (laws_sameInts.calls k _ _ t497 _ _ t500 true _ ?side1 ?side2 ?side3 ?side4 A14.out).mono ?_); (case side1 => repeat (first | exact (Kd.Q_reads' HO499.out).2.2 | (with_reducible refine Kd.C_alloc ?_ _) | (with_reducible refine Kd.C_drewN ?_ _) | (with_reducible refine Kd.C_drew ?_))); (case side2 => exact (Kd.Q_reads' HO499.out).2.1); (case side3 => repeat (first | exact (Kd.R_reads' HO502.out).2.2 | (with_reducible refine Kd.C_alloc ?_ _) | (with_reducible refine Kd.C_drewN ?_ _) | (with_reducible refine Kd.C_drew ?_))); (case side4 => exact (Kd.R_reads' HO502.out).2.1); rintro e w' ⟨rfl, ⟨nd, rfl⟩⟩) | (go_at_call 12; (with_reducible refine (impl_Clash.calls k _ _ t482 t483 t484 t504 _ ?side1 ?side2 A16.out).mono ?_); (case side1 => repeat (first | exact (Kd.S_reads' HO486.out).2.2 | (with_reducible refine Kd.C_alloc ?_ _) | (with_reducible refine Kd.C_drewN ?_ _) | (with_reducible refine Kd.C_drew ?_))); (case side2 => exact (Kd.S_reads' HO486.out).2.1); rintro e w38 ⟨rfl, hb⟩; have n0_ := Aside0.mk (Kd.S_below (by (with_reducible repeat (first | apply Kd.S_alloc | apply Kd.S_drewN | apply Kd.S_drew)); exact HO486.out) hb); have n1_ := Aside0.mk (Kd.R_below (by (with_reducible repeat (first | apply Kd.R_alloc | apply Kd.R_drewN | apply Kd.R_drew)); exact HO490.out) hb); have n2_ := Aside0.mk (Kd.R_below (by (with_reducible repeat (first | apply Kd.R_alloc | apply Kd.R_drewN | apply Kd.R_drew)); exact HO492.out) hb); have n3_ := Aside0.mk (Kd.Q_below (by (with_reducible repeat (first | apply Kd.Q_alloc | apply Kd.Q_drewN | apply Kd.Q_drew)); exact HO499.out) hb); have n4_ := Aside0.mk (Kd.R_below (by (with_reducible repeat (first | apply Kd.R_alloc | apply Kd.R_drewN | apply Kd.R_drew)); exact HO502.out) hb); have n5_ := Aside0.mk (below_step (by repeat (first | (with_reducible first | exact HB.out | apply below_alloc | apply pw_below_drewN | apply below_drew1) | exact HB.out)) hb); clear HO486; clear HO490; clear HO492; clear HO499; clear HO502; clear HB; have HO486 := n0_; have HO490 := n1_; have HO492 := n2_; have HO499 := n3_; have HO502 := n4_; have HB := n5_; clear n0_ n1_ n2_ n3_ n4_ n5_; (try clear hb); (try clear hb2); (try clear hk); (try clear hi)) | (go_at_call 20; (with_reducible refine (spec_Clash.calls k _ _ t482 t483 t484 t505 _ ?side1 ?side2 A17.out).mono ?_); (case side1 => repeat (first | exact (Kd.S_reads' HO486.out).2.2 | (with_reducible refine Kd.C_alloc ?_ _) | (with_reducible refine Kd.C_drewN ?_ _) | (with_reducible refine Kd.C_drew ?_))); (case side2 => exact (Kd.S_reads' HO486.out).2.1); rintro e w' ⟨rfl, ⟨nd, rfl⟩⟩) | (go_at_call 11; (with_reducible refine (impl_RowAfter.calls k _ _ t482 t483 t484 t506 _ ?side1 ?side2 A19.out).mono ?_); (case side1 => repeat (first | exact (Kd.S_reads' HO486.out).2.2 | (with_reducible refine Kd.C_alloc ?_ _) | (with_reducible refine Kd.C_drewN ?_ _) | (with_reducible refine Kd.C_drew ?_))); (case side2 => exact (Kd.S_reads' HO486.out).2.1); rintro e w39 ⟨v507, rfl, ho0, hb⟩; have n0_ := Aside0.mk (Kd.S_below (by (with_reducible repeat (first | apply Kd.S_alloc | apply Kd.S_drewN | apply Kd.S_drew)); exact HO486.out) hb); have n1_ := Aside0.mk (Kd.R_elder' (by (with_reducible repeat (first | apply Kd.R_alloc | apply Kd.R_drewN | apply Kd.R_drew)); exact HO490.out) (Kd.Q_base ho0) hb); have n2_ := Aside0.mk (Kd.R_elder' (by (with_reducible repeat (first | apply Kd.R_alloc | apply Kd.R_drewN | apply Kd.R_drew)); exact HO492.out) (Kd.Q_base ho0) hb); have n3_ := Aside0.mk (Kd.Q_elder' (by (with_reducible repeat (first | apply Kd.Q_alloc | apply Kd.Q_drewN | apply Kd.Q_drew)); exact HO499.out) (Kd.Q_base ho0) hb); have n4_ := Aside0.mk (Kd.R_elder' (by (with_reducible repeat (first | apply Kd.R_alloc | apply Kd.R_drewN | apply Kd.R_drew)); exact HO502.out) (Kd.Q_base ho0) hb); have n5_ := Aside0.mk (Kd.Q_lower (Kd.Q_new' (Kd.Q_new' (Kd.Q_new' (Kd.Q_new' ho0 (Kd.R_lt (by (with_reducible repeat (first | apply Kd.R_alloc | apply Kd.R_drewN | apply Kd.R_drew)); exact HO490.out))) (Kd.R_lt (by (with_reducible repeat (first | apply Kd.R_alloc | apply Kd.R_drewN | apply Kd.R_drew)); exact HO492.out))) (Kd.Q_lt (by (with_reducible repeat (first | apply Kd.Q_alloc | apply Kd.Q_drewN | apply Kd.Q_drew)); exact HO499.out))) (Kd.R_lt (by (with_reducible repeat (first | apply Kd.R_alloc | apply Kd.R_drewN | apply Kd.R_drew)); exact HO502.out))) (below_size (by repeat (first | (with_reducible first | exact HB.out | apply below_alloc | apply pw_below_drewN | apply below_drew1) | exact HB.out)))); have n6_ := Aside0.mk (below_step (by repeat (first | (with_reducible first | exact HB.out | apply below_alloc | apply pw_below_drewN | apply below_drew1) | exact HB.out)) hb); clear HO486; clear HO490; clear HO492; clear HO499; clear HO502; clear HB; have HO486 := n0_; have HO490 := n1_; have HO492 := n2_; have HO499 := n3_; have HO502 := n4_; have HO508 := n5_; have HB := n6_; clear n0_ n1_ n2_ n3_ n4_ n5_ n6_; (try clear hb); (try clear hb2); (try clear hk); (try clear hi); (try clear ho0)) | (go_at_call 21; (with_reducible refine (spec_RowAfter.calls k _ _ t482 t483 t484 t509 _ ?side1 ?side2 A20.out).mono ?_); (case side1 => repeat (first | exact (Kd.S_reads' HO486.out).2.2 | (with_reducible refine Kd.C_alloc ?_ _) | (with_reducible refine Kd.C_drewN ?_ _) | (with_reducible refine Kd.C_drew ?_))); (case side2 => exact (Kd.S_reads' HO486.out).2.1); rintro e w40 ⟨v510, rfl, ho0, hb⟩; have n0_ := Aside0.mk (Kd.S_below (by (with_reducible repeat (first | apply Kd.S_alloc | apply Kd.S_drewN | apply Kd.S_drew)); exact HO486.out) hb); have n1_ := Aside0.mk (Kd.R_elder' (by (with_reducible repeat (first | apply Kd.R_alloc | apply Kd.R_drewN | apply Kd.R_drew)); exact HO490.out) (Kd.R_base ho0) hb); have n2_ := Aside0.mk (Kd.R_elder' (by (with_reducible repeat (first | apply Kd.R_alloc | apply Kd.R_drewN | apply Kd.R_drew)); exact HO492.out) (Kd.R_base ho0) hb); have n3_ := Aside0.mk (Kd.Q_elder' (by (with_reducible repeat (first | apply Kd.Q_alloc | apply Kd.Q_drewN | apply Kd.Q_drew)); exact HO499.out) (Kd.R_base ho0) hb); have n4_ := Aside0.mk (Kd.R_elder' (by (with_reducible repeat (first | apply Kd.R_alloc | apply Kd.R_drewN | apply Kd.R_drew)); exact HO502.out) (Kd.R_base ho0) hb); have n5_ := Aside0.mk (Kd.Q_elder' (by (with_reducible repeat (first | apply Kd.Q_alloc | apply Kd.Q_drewN | apply Kd.Q_drew)); exact HO508.out) (Kd.R_base ho0) hb); have n6_ := Aside0.mk (Kd.R_lower (Kd.R_new' (Kd.R_new' (Kd.R_new' (Kd.R_new' (Kd.R_new' ho0 (Kd.R_lt (by (with_reducible repeat (first | apply Kd.R_alloc | apply Kd.R_drewN | apply Kd.R_drew)); exact HO490.out))) (Kd.R_lt (by (with_reducible repeat (first | apply Kd.R_alloc | apply Kd.R_drewN | apply Kd.R_drew)); exact HO492.out))) (Kd.Q_lt (by (with_reducible repeat (first | apply Kd.Q_alloc | apply Kd.Q_drewN | apply Kd.Q_drew)); exact HO499.out))) (Kd.R_lt (by (with_reducible repeat (first | apply Kd.R_alloc | apply Kd.R_drewN | apply Kd.R_drew)); exact HO502.out))) (Kd.Q_lt (by (with_reducible repeat (first | apply Kd.Q_alloc | apply Kd.Q_drewN | apply Kd.Q_drew)); exact HO508.out))) (below_size (by repeat (first | (with_reducible first | exact HB.out | apply below_alloc | apply pw_below_drewN | apply below_drew1) | exact HB.out)))); have n7_ := Aside0.mk (below_step (by repeat (first | (with_reducible first | exact HB.out | apply below_alloc | apply pw_below_drewN | apply below_drew1) | exact HB.out)) hb); clear HO486; clear HO490; clear HO492; clear HO499; clear HO502; clear HO508; clear HB; have HO486 := n0_; have HO490 := n1_; have HO492 := n2_; have HO499 := n3_; have HO502 := n4_; have HO508 := n5_; have HO511 := n6_; have HB := n7_; clear n0_ n1_ n2_ n3_ n4_ n5_ n6_ n7_; (try clear hb); (try clear hb2); (try clear hk); (try clear hi); (try clear ho0); obtain ⟨Ao41, co41, eo41, _⟩ := Kd.Q_slice HO508.out; subst eo41; obtain ⟨Ao42, co42, eo42⟩ := Kd.R_slice HO511.out; subst eo42) | (go_at_call 18; (with_reducible refine (laws_sameInts.calls k _ _ t506 _ _ t509 true _ ?side1 ?side2 ?side3 ?side4 A21.out).mono ?_); (case side1 => repeat (first | exact (Kd.Q_reads' HO508.out).2.2 | (with_reducible refine Kd.C_alloc ?_ _) | (with_reducible refine Kd.C_drewN ?_ _) | (with_reducible refine Kd.C_drew ?_))); (case side2 => exact (Kd.Q_reads' HO508.out).2.1); (case side3 => repeat (first | exact (Kd.R_reads' HO511.out).2.2 | (with_reducible refine Kd.C_alloc ?_ _) | (with_reducible refine Kd.C_drewN ?_ _) | (with_reducible refine Kd.C_drew ?_))); (case side4 => exact (Kd.R_reads' HO511.out).2.1); rintro e w' ⟨rfl, ⟨nd, rfl⟩⟩; obtain ⟨Ao43, co43, eo43⟩ := Kd.R_slice HO490.out; subst eo43; obtain ⟨Ao44, co44, eo44⟩ := Kd.R_slice HO492.out; subst eo44) | (go_at_call 22; (with_reducible refine (impl_Beginning.calls k _ _ t487 _ _ t488 t513 _ ?side1 ?side2 ?side3 ?side4 A23.out).mono ?_); (case side1 => repeat (first | exact (Kd.R_reads' HO490.out).2.2 | (with_reducible refine Kd.C_alloc ?_ _) | (with_reducible refine Kd.C_drewN ?_ _) | (with_reducible refine Kd.C_drew ?_))); (case side2 => exact (Kd.R_reads' HO490.out).2.1); (case side3 => repeat (first | exact (Kd.R_reads' HO492.out).2.2 | (with_reducible refine Kd.C_alloc ?_ _) | (with_reducible refine Kd.C_drewN ?_ _) | (with_reducible refine Kd.C_drew ?_))); (case side4 => exact (Kd.R_reads' HO492.out).2.1); rintro e w45 ⟨rfl, hb⟩; have n0_ := Aside0.mk (Kd.S_below (by (with_reducible repeat (first | apply Kd.S_alloc | apply Kd.S_drewN | apply Kd.S_drew)); exact HO486.out) hb); have n1_ := Aside0.mk (Kd.R_below (by (with_reducible repeat (first | apply Kd.R_alloc | apply Kd.R_drewN | apply Kd.R_drew)); exact HO490.out) hb); have n2_ := Aside0.mk (Kd.R_below (by (with_reducible repeat (first | apply Kd.R_alloc | apply Kd.R_drewN | apply Kd.R_drew)); exact HO492.out) hb); have n3_ := Aside0.mk (Kd.Q_below (by (with_reducible repeat (first | apply Kd.Q_alloc | apply Kd.Q_drewN | apply Kd.Q_drew)); exact HO499.out) hb); have n4_ := Aside0.mk (Kd.R_below (by (with_reducible repeat (first | apply Kd.R_alloc | apply Kd.R_drewN | apply Kd.R_drew)); exact HO502.out) hb); have n5_ := Aside0.mk (Kd.Q_below (by (with_reducible repeat (first | apply Kd.Q_alloc | apply Kd.Q_drewN | apply Kd.Q_drew)); exact HO508.out) hb); have n6_ := Aside0.mk (Kd.R_below (by (with_reducible repeat (first | apply Kd.R_alloc | apply Kd.R_drewN | apply Kd.R_drew)); exact HO511.out) hb); have n7_ := Aside0.mk (below_step (by repeat (first | (with_reducible first | exact HB.out | apply below_alloc | apply pw_below_drewN | apply below_drew1) | exact HB.out)) hb); clear HO486; clear HO490; clear HO492; clear HO499; clear HO502; clear HO508; clear HO511; clear HB; have HO486 := n0_; have HO490 := n1_; have HO492 := n2_; have HO499 := n3_; have HO502 := n4_; have HO508 := n5_; have HO511 := n6_; have HB := n7_; clear n0_ n1_ n2_ n3_ n4_ n5_ n6_ n7_; (try clear hb); (try clear hb2); (try clear hk); (try clear hi)) | (go_at_call 23; (with_reducible refine (spec_Beginning.calls k _ _ t487 _ _ t488 t514 _ ?side1 ?side2 ?side3 ?side4 A24.out).mono ?_); (case side1 => repeat (first | exact (Kd.R_reads' HO490.out).2.2 | (with_reducible refine Kd.C_alloc ?_ _) | (with_reducible refine Kd.C_drewN ?_ _) | (with_reducible refine Kd.C_drew ?_))); (case side2 => exact (Kd.R_reads' HO490.out).2.1); (case side3 => repeat (first | exact (Kd.R_reads' HO492.out).2.2 | (with_reducible refine Kd.C_alloc ?_ _) | (with_reducible refine Kd.C_drewN ?_ _) | (with_reducible refine Kd.C_drew ?_))); (case side4 => exact (Kd.R_reads' HO492.out).2.1); rintro e w' ⟨rfl, ⟨nd, rfl⟩⟩) | (go_at_call 22; (with_reducible refine (impl_Beginning.calls k _ _ t487 _ _ t487 true _ ?side1 ?side2 ?side3 ?side4 A26.out).mono ?_); (case side1 => repeat (first | exact (Kd.R_reads' HO490.out).2.2 | (with_reducible refine Kd.C_alloc ?_ _) | (with_reducible refine Kd.C_drewN ?_ _) | (with_reducible refine Kd.C_drew ?_))); (case side2 => exact (Kd.R_reads' HO490.out).2.1); (case side3 => repeat (first | exact (Kd.R_reads' HO490.out).2.2 | (with_reducible refine Kd.C_alloc ?_ _) | (with_reducible refine Kd.C_drewN ?_ _) | (with_reducible refine Kd.C_drew ?_))); (case side4 => exact (Kd.R_reads' HO490.out).2.1); rintro e w46 ⟨rfl, hb⟩; have n0_ := Aside0.mk (Kd.S_below (by (with_reducible repeat (first | apply Kd.S_alloc | apply Kd.S_drewN | apply Kd.S_drew)); exact HO486.out) hb); have n1_ := Aside0.mk (Kd.R_below (by (with_reducible repeat (first | apply Kd.R_alloc | apply Kd.R_drewN | apply Kd.R_drew)); exact HO490.out) hb); have n2_ := Aside0.mk (Kd.R_below (by (with_reducible repeat (first | apply Kd.R_alloc | apply Kd.R_drewN | apply Kd.R_drew)); exact HO492.out) hb); have n3_ := Aside0.mk (Kd.Q_below (by (with_reducible repeat (first | apply Kd.Q_alloc | apply Kd.Q_drewN | apply Kd.Q_drew)); exact HO499.out) hb); have n4_ := Aside0.mk (Kd.R_below (by (with_reducible repeat (first | apply Kd.R_alloc | apply Kd.R_drewN | apply Kd.R_drew)); exact HO502.out) hb); have n5_ := Aside0.mk (Kd.Q_below (by (with_reducible repeat (first | apply Kd.Q_alloc | apply Kd.Q_drewN | apply Kd.Q_drew)); exact HO508.out) hb); have n6_ := Aside0.mk (Kd.R_below (by (with_reducible repeat (first | apply Kd.R_alloc | apply Kd.R_drewN | apply Kd.R_drew)); exact HO511.out) hb); have n7_ := Aside0.mk (below_step (by repeat (first | (with_reducible first | exact HB.out | apply below_alloc | apply pw_below_drewN | apply below_drew1) | exact HB.out)) hb); clear HO486; clear HO490; clear HO492; clear HO499; clear HO502; clear HO508; clear HO511; clear HB; have HO486 := n0_; have HO490 := n1_; have HO492 := n2_; have HO499 := n3_; have HO502 := n4_; have HO508 := n5_; have HO511 := n6_; have HB := n7_; clear n0_ n1_ n2_ n3_ n4_ n5_ n6_ n7_; (try clear hb); (try clear hb2); (try clear hk); (try clear hi)) | ((with_reducible refine gate_dst (N := 85) rfl ?_); (try (refine gate_guard (by rfl) ?_; dsimp only)); refine Kd.R_lit (Kd.int .i64) _ 3 ?hg (N := 85) ?hd (xs := ([] : List Int)) (inner := []) (ok := fun _ => True) (okp := fun _ => True) ?hr ?hp (fun _ hk => hk) trivial (Below.refl _ _) (Nat.le_refl _) (by simp) ?_; (case hd => rfl); (case hg => rfl); (case hr => first | (go_simp; done) | (go_simp; rfl)); (case hp => exact (Reps.none _ _)); intro v517 w47 ho48 hb hg_ hnew_; clear hg_ hnew_; (first | rw [← Ny516.out] at ho48 | (simp only [Int.reduceToNat] at ho48; rw [← Ny516.out] at ho48)); have n0_ := Aside0.mk (Kd.S_below (by (with_reducible repeat (first | apply Kd.S_alloc | apply Kd.S_drewN | apply Kd.S_drew)); exact HO486.out) hb); have n1_ := Aside0.mk (Kd.R_elder' (by (with_reducible repeat (first | apply Kd.R_alloc | apply Kd.R_drewN | apply Kd.R_drew)); exact HO490.out) (Kd.R_base ho48) hb); have n2_ := Aside0.mk (Kd.R_elder' (by (with_reducible repeat (first | apply Kd.R_alloc | apply Kd.R_drewN | apply Kd.R_drew)); exact HO492.out) (Kd.R_base ho48) hb); have n3_ := Aside0.mk (Kd.Q_elder' (by (with_reducible repeat (first | apply Kd.Q_alloc | apply Kd.Q_drewN | apply Kd.Q_drew)); exact HO499.out) (Kd.R_base ho48) hb); have n4_ := Aside0.mk (Kd.R_elder' (by (with_reducible repeat (first | apply Kd.R_alloc | apply Kd.R_drewN | apply Kd.R_drew)); exact HO502.out) (Kd.R_base ho48) hb); have n5_ := Aside0.mk (Kd.Q_elder' (by (with_reducible repeat (first | apply Kd.Q_alloc | apply Kd.Q_drewN | apply Kd.Q_drew)); exact HO508.out) (Kd.R_base ho48) hb); have n6_ := Aside0.mk (Kd.R_elder' (by (with_reducible repeat (first | apply Kd.R_alloc | apply Kd.R_drewN | apply Kd.R_drew)); exact HO511.out) (Kd.R_base ho48) hb); have n7_ := Aside0.mk (Kd.R_lower (Kd.R_new' (Kd.R_new' (Kd.R_new' (Kd.R_new' (Kd.R_new' (Kd.R_new' ho48 (Kd.R_lt (by (with_reducible repeat (first | apply Kd.R_alloc | apply Kd.R_drewN | apply Kd.R_drew)); exact HO490.out))) (Kd.R_lt (by (with_reducible repeat (first | apply Kd.R_alloc | apply Kd.R_drewN | apply Kd.R_drew)); exact HO492.out))) (Kd.Q_lt (by (with_reducible repeat (first | apply Kd.Q_alloc | apply Kd.Q_drewN | apply Kd.Q_drew)); exact HO499.out))) (Kd.R_lt (by (with_reducible repeat (first | apply Kd.R_alloc | apply Kd.R_drewN | apply Kd.R_drew)); exact HO502.out))) (Kd.Q_lt (by (with_reducible repeat (first | apply Kd.Q_alloc | apply Kd.Q_drewN | apply Kd.Q_drew)); exact HO508.out))) (Kd.R_lt (by (with_reducible repeat (first | apply Kd.R_alloc | apply Kd.R_drewN | apply Kd.R_drew)); exact HO511.out))) (below_size (by repeat (first | (with_reducible first | exact HB.out | apply below_alloc | apply pw_below_drewN | apply below_drew1) | exact HB.out)))); have n8_ := Aside0.mk (below_step (by repeat (first | (with_reducible first | exact HB.out | apply below_alloc | apply pw_below_drewN | apply below_drew1) | exact HB.out)) hb); clear HO486; clear HO490; clear HO492; clear HO499; clear HO502; clear HO508; clear HO511; clear HB; have HO486 := n0_; have HO490 := n1_; have HO492 := n2_; have HO499 := n3_; have HO502 := n4_; have HO508 := n5_; have HO511 := n6_; have HO518 := n7_; have HB := n8_; clear n0_ n1_ n2_ n3_ n4_ n5_ n6_ n7_ n8_; clear hb ho48; obtain ⟨Ao49, co49, eo49⟩ := Kd.R_slice HO518.out; subst eo49) | (go_at_call 22; (with_reducible refine (impl_Beginning.calls k _ _ y516 _ _ t488 t519 _ ?side1 ?side2 ?side3 ?side4 A28.out).mono ?_); (case side1 => repeat (first | exact (Kd.R_reads' HO518.out).2.2 | (with_reducible refine Kd.C_alloc ?_ _) | (with_reducible refine Kd.C_drewN ?_ _) | (with_reducible refine Kd.C_drew ?_))); (case side2 => exact (Kd.R_reads' HO518.out).2.1); (case side3 => repeat (first | exact (Kd.R_reads' HO492.out).2.2 | (with_reducible refine Kd.C_alloc ?_ _) | (with_reducible refine Kd.C_drewN ?_ _) | (with_reducible refine Kd.C_drew ?_))); (case side4 => exact (Kd.R_reads' HO492.out).2.1); rintro e w50 ⟨rfl, hb⟩; have n0_ := Aside0.mk (Kd.S_below (by (with_reducible repeat (first | apply Kd.S_alloc | apply Kd.S_drewN | apply Kd.S_drew)); exact HO486.out) hb); have n1_ := Aside0.mk (Kd.R_below (by (with_reducible repeat (first | apply Kd.R_alloc | apply Kd.R_drewN | apply Kd.R_drew)); exact HO490.out) hb); have n2_ := Aside0.mk (Kd.R_below (by (with_reducible repeat (first | apply Kd.R_alloc | apply Kd.R_drewN | apply Kd.R_drew)); exact HO492.out) hb); have n3_ := Aside0.mk (Kd.Q_below (by (with_reducible repeat (first | apply Kd.Q_alloc | apply Kd.Q_drewN | apply Kd.Q_drew)); exact HO499.out) hb); have n4_ := Aside0.mk (Kd.R_below (by (with_reducible repeat (first | apply Kd.R_alloc | apply Kd.R_drewN | apply Kd.R_drew)); exact HO502.out) hb); have n5_ := Aside0.mk (Kd.Q_below (by (with_reducible repeat (first | apply Kd.Q_alloc | apply Kd.Q_drewN | apply Kd.Q_drew)); exact HO508.out) hb); have n6_ := Aside0.mk (Kd.R_below (by (with_reducible repeat (first | apply Kd.R_alloc | apply Kd.R_drewN | apply Kd.R_drew)); exact HO511.out) hb); have n7_ := Aside0.mk (Kd.R_below (by (with_reducible repeat (first | apply Kd.R_alloc | apply Kd.R_drewN | apply Kd.R_drew)); exact HO518.out) hb); have n8_ := Aside0.mk (below_step (by repeat (first | (with_reducible first | exact HB.out | apply below_alloc | apply pw_below_drewN | apply below_drew1) | exact HB.out)) hb); clear HO486; clear HO490; clear HO492; clear HO499; clear HO502; clear HO508; clear HO511; clear HO518; clear HB; have HO486 := n0_; have HO490 := n1_; have HO492 := n2_; have HO499 := n3_; have HO502 := n4_; have HO508 := n5_; have HO511 := n6_; have HO518 := n7_; have HB := n8_; clear n0_ n1_ n2_ n3_ n4_ n5_ n6_ n7_ n8_; (try clear hb); (try clear hb2); (try clear hk); (try clear hi)))
                  go_ret
                  exact ⟨by first | rfl | (simp [errW_none, errW_some] <;> rfl) | (simp [*, errW_none, errW_some] <;> rfl), by repeat (first | (with_reducible first | exact HB.out | apply below_alloc | apply pw_below_drewN | apply below_drew1) | exact HB.out)⟩
                · replace c27 := Bool.eq_false_iff.mpr c27
                  subst c27
                  have H1 : (some false) = some r := by rw [if_neg (show ¬ (false = true) by decide)] at H; exact H
                  clear H
                  have H := H1
                  clear H1
                  exact absurd ((Option.some.inj H).trans HRT.out) (by decide)
              · rw [if_neg c25] at H
                have c25b0 : (t513 == t514) = false := by simpa using c25
                (try (have c25b1 : decide (t513 = t514) = false := by simpa using c25))
                (try (have c25b2 : (t513 == t514) = false := by simpa using c25))
                (try (have c25b3 : ¬ (t513 = t514) := by simpa using c25))
                clear c25
                exact absurd ((Option.some.inj H).trans HRT.out) (by decide)
            · replace c22 := Bool.eq_false_iff.mpr c22
              subst c22
              have H1 : (some false) = some r := by rw [if_neg (show ¬ (false = true) by decide)] at H; exact H
              clear H
              have H := H1
              clear H1
              exact absurd ((Option.some.inj H).trans HRT.out) (by decide)
          · rw [if_neg c18] at H
            have c18b0 : (t504 == t505) = false := by simpa using c18
            (try (have c18b1 : decide (t504 = t505) = false := by simpa using c18))
            (try (have c18b2 : (t504 == t505) = false := by simpa using c18))
            (try (have c18b3 : ¬ (t504 = t505) := by simpa using c18))
            clear c18
            exact absurd ((Option.some.inj H).trans HRT.out) (by decide)
        · replace c15 := Bool.eq_false_iff.mpr c15
          subst c15
          have H1 : (some false) = some r := by rw [if_neg (show ¬ (false = true) by decide)] at H; exact H
          clear H
          have H := H1
          clear H1
          exact absurd ((Option.some.inj H).trans HRT.out) (by decide)
      · rw [if_neg c11] at H
        have c11b0 : (t495 == t496) = false := by simpa using c11
        (try (have c11b1 : decide (t495 = t496) = false := by simpa using c11))
        (try (have c11b2 : (t495 == t496) = false := by simpa using c11))
        (try (have c11b3 : ¬ (t495 = t496) := by simpa using c11))
        clear c11
        exact absurd ((Option.some.inj H).trans HRT.out) (by decide)
    · rw [if_neg c8] at H
      have c8b0 : (t493 == t494) = false := beq_eq_false_iff_ne.mpr c8
      have c8b1 : (t493 != t494) = true := bne_iff_ne.mpr c8
      exact absurd ((Option.some.inj H).trans HRT.out) (by decide)

/-- THE ONE PURE STATEMENT of laws_FnStandsTold: yours. -/
def laws_FnStandsTold.Pure : Prop := ∀ (l0 : List Int), l0.length ≤ maxLen → l0.length * 1 ≤ 140737488351232 → (∀ x ∈ l0, (Lit.int .u8 x).wf = true) → ∃ k, laws_FnStandsTold.f k l0 = some true
theorem laws_FnStandsTold.walk (P : laws_FnStandsTold.Pure) (a0 : Option Addr) (len0 cap0 : Nat) (z0 : List Int) (w : World) (w0 : (a0 = none ∧ len0 = 0 ∧ cap0 = 0 ∧ z0 = []) ∨ ∃ x, a0 = some x ∧ len0 ≤ cap0 ∧ cap0 ≤ maxLen ∧ z0.length = cap0 ∧ (∀ i, i < z0.length → w.cell? (x.add i) = some (.int .u8 (z0.getD i 0))) ∧ ∀ n ∈ z0, (Lit.int .u8 n).wf = true) (y0 : len0 * 1 ≤ 140737488351232) :
    Calls Try.prog 4 #[.slice a0 len0 cap0] w fun e w' => e = .returned (.bool true) ∧ Below w.heap.size w w' := by
  obtain ⟨l0, rfl, hr0, hm0, hw0, hc0⟩ := ReadsInt.ofRowC w0
  obtain ⟨k, h⟩ := P l0 hm0 y0 hw0
  refine (laws_FnStandsTold.calls k _ _ l0 true w (Kd.C_of_reads (d := (0 : Int)) (h1 := fun _ => rfl) hr0) hc0 h rfl).mono ?_
  rintro e w' ⟨rfl, hd⟩
  exact ⟨rfl, hd⟩

end Go.Proofs.Ytjbbdjdbffaidaa.QFnStandsTold
