-- Written by a program of this session, for this claim.
import Derived.Test.YtjbbdjdbffaidaaQFnStandsx0
import Derived.Test.YtjbbdjdbffaidaaQFnStandsx3
import Derived.Test.YtjbbdjdbffaidaaQFnStandsx8
import Derived.Test.YtjbbdjdbffaidaaQFnStandsx9
namespace Go.Proofs.Ytjbbdjdbffaidaa.QFnStands
open Go.RowKit Go.Proofs.YtjbbdjdbffaidaaW.PrintWords Go.Proofs.YtjbbdjdbffaidaaW.PrintLast Go.Proofs.YtjbbdjdbffaidaaW.PrintMore
attribute [local go_sem] max2_int min2_int max_two min_two max_three min_three max_four min_four   -- for this text's walks alone
set_option linter.unusedVariables false
set_option linter.unusedSimpArgs false

/-! ### laws_FnStands: function 3 -/
mutual
def laws_FnStands.l0 : Nat → List (S33) → Int → Int → List Int → Int → Option (Bool)
  | 0, _, _, _, _, _ => none
  | k + 1, x3, x5, x6, x7, x8 => if x8 < (x7.length : Int) then (if x8 > 0 then (if 0 ≤ (wrap64 (x8 - 1)) then (if (wrap64 (x8 - 1)) < (x7.length : Int) then (laws_FnStands.j1 k x3 x5 x6 x7 x8 (rd x7 (wrap64 (x8 - 1)))) else (none)) else (none)) else (laws_FnStands.j1 k x3 x5 x6 x7 x8 0)) else ((impl_Extends.f k x3 x5 x6).bind fun t389 => ((impl_RowAfter.f k x3 x5 x6).bind fun t390 => (if t389 = true then ((impl_HeightOf.f k x3 x6).bind fun t393 => (if (t390.length : Int) = (wrap64 ((x7.length : Int) - t393)) then (laws_FnStands.j2 k x3 x5 x6 x7 t389 false) else (laws_FnStands.j2 k x3 x5 x6 x7 t389 true))) else (laws_FnStands.j2 k x3 x5 x6 x7 t389 (decide ((t390.length : Int) > 0))))))
def laws_FnStands.j1 : Nat → List (S33) → Int → Int → List Int → Int → Int → Option (Bool)
  | 0, _, _, _, _, _, _ => none
  | k + 1, x3, x5, x6, x7, x8, x9 => if 0 ≤ x8 then (if x8 < (x7.length : Int) then (if 0 ≤ (rd x7 x8) then (if (rd x7 x8) < (x3.length : Int) then (if ((rd_T33 x3 (rd x7 x8)).f0) = x9 then ((impl_Extends.f k x3 x5 (rd x7 x8)).bind fun t386 => (if t386 = true then ((impl_HeightOf.f k x3 (rd x7 x8)).bind fun t388 => (if t388 = (wrap64 (x8 + 1)) then (laws_FnStands.l0 k x3 x5 x6 x7 (wrap64 (x8 + 1))) else (some false))) else (some false))) else (some false)) else (none)) else (none)) else (none)) else (none)
def laws_FnStands.j2 : Nat → List (S33) → Int → Int → List Int → Bool → Bool → Option (Bool)
  | 0, _, _, _, _, _, _ => none
  | k + 1, x3, x5, x6, x7, x10, x105 => if x105 = true then (some false) else ((impl_HeightOf.f k x3 x5).bind fun t394 => (if (x7.length : Int) = t394 then ((impl_Clash.f k x3 x5 x6).bind fun t395 => (if x10 = true then (if (t395 == false) = true then ((impl_Extends.f k x3 x5 0).bind fun t396 => (if t396 = true then (if x5 = x6 then (some (x10 == true)) else (if x6 = 0 then (some (x10 == true)) else ((laws_in.f k x7 x6).bind fun t397 => (some (x10 == t397))))) else (some false))) else (some false)) else ((impl_Extends.f k x3 x6 x5).bind fun t398 => (if (t395 == (!t398)) = true then ((impl_Extends.f k x3 x5 0).bind fun t399 => (if t399 = true then (if x5 = x6 then (some (x10 == true)) else (if x6 = 0 then (some (x10 == true)) else ((laws_in.f k x7 x6).bind fun t400 => (some (x10 == t400))))) else (some false))) else (some false))))) else (some false)))
end
def laws_FnStands.f (k : Nat) (l0 : List Int) : Option (Bool) := (laws_big.f l0).bind fun t370 => (if t370 = true then (some true) else ((spec_DrawTree.f k l0).bind fun t371 => ((spec_DrawPlaces.f k l0).bind fun t374 => (if 0 < (t374.length : Int) then (if (t371.length : Int) = 0 then (none) else (if 1 < (t374.length : Int) then ((impl_RowTo.f k t371 (Int.tmod (rd t374 0) (t371.length : Int))).bind fun t379 => (laws_FnStands.l0 k t371 (Int.tmod (rd t374 0) (t371.length : Int)) (Int.tmod (rd t374 1) (t371.length : Int)) t379 0)) else (none))) else (none)))))
theorem laws_FnStands.mono_l : ∀ k, (∀ y0 y1 y2 y3 y4, LeO (laws_FnStands.l0 k y0 y1 y2 y3 y4) (laws_FnStands.l0 (k + 1) y0 y1 y2 y3 y4)) ∧ (∀ y0 y1 y2 y3 y4 y5, LeO (laws_FnStands.j1 k y0 y1 y2 y3 y4 y5) (laws_FnStands.j1 (k + 1) y0 y1 y2 y3 y4 y5)) ∧ (∀ y0 y1 y2 y3 y4 y5, LeO (laws_FnStands.j2 k y0 y1 y2 y3 y4 y5) (laws_FnStands.j2 (k + 1) y0 y1 y2 y3 y4 y5))
  | 0 => ⟨fun _ _ _ _ _ r h => by simp [laws_FnStands.l0] at h, fun _ _ _ _ _ _ r h => by simp [laws_FnStands.j1] at h, fun _ _ _ _ _ _ r h => by simp [laws_FnStands.j2] at h⟩
  | k + 1 => by
    obtain ⟨ih0, ih1, ih2⟩ := laws_FnStands.mono_l k
    refine ⟨?_, ?_, ?_⟩
    · intro y0 y1 y2 y3 y4
      unfold laws_FnStands.l0
      repeat' first
      | (with_reducible exact ih0 _ _ _ _ _)
      | (with_reducible exact ih1 _ _ _ _ _ _)
      | (with_reducible exact ih2 _ _ _ _ _ _)
      | (with_reducible exact impl_Clash.mono _ _ _ _)
      | (with_reducible exact impl_Extends.mono _ _ _ _)
      | (with_reducible exact impl_HeightOf.mono _ _ _)
      | (with_reducible exact impl_RowAfter.mono _ _ _ _)
      | (with_reducible exact impl_RowTo.mono _ _ _)
      | (with_reducible exact laws_in.mono _ _ _)
      | (with_reducible exact spec_DrawPlaces.mono _ _)
      | (with_reducible exact spec_DrawTree.mono _ _)
      | (with_reducible exact LeO.refl _)
      | (with_reducible exact LeO.none _)
      | (with_reducible refine LeO.ite ?_ ?_)
      | (with_reducible refine LeO.bind ?_ (fun _ => ?_))
      | exact ih0 _ _ _ _ _
      | exact ih1 _ _ _ _ _ _
      | exact ih2 _ _ _ _ _ _
      | exact impl_Clash.mono _ _ _ _
      | exact impl_Extends.mono _ _ _ _
      | exact impl_HeightOf.mono _ _ _
      | exact impl_RowAfter.mono _ _ _ _
      | exact impl_RowTo.mono _ _ _
      | exact laws_in.mono _ _ _
      | exact spec_DrawPlaces.mono _ _
      | exact spec_DrawTree.mono _ _
      | exact LeO.none _
      | refine LeO.ite ?_ ?_
      | refine LeO.bind ?_ (fun _ => ?_)
    · intro y0 y1 y2 y3 y4 y5
      unfold laws_FnStands.j1
      repeat' first
      | (with_reducible exact ih0 _ _ _ _ _)
      | (with_reducible exact ih1 _ _ _ _ _ _)
      | (with_reducible exact ih2 _ _ _ _ _ _)
      | (with_reducible exact impl_Clash.mono _ _ _ _)
      | (with_reducible exact impl_Extends.mono _ _ _ _)
      | (with_reducible exact impl_HeightOf.mono _ _ _)
      | (with_reducible exact impl_RowAfter.mono _ _ _ _)
      | (with_reducible exact impl_RowTo.mono _ _ _)
      | (with_reducible exact laws_in.mono _ _ _)
      | (with_reducible exact spec_DrawPlaces.mono _ _)
      | (with_reducible exact spec_DrawTree.mono _ _)
      | (with_reducible exact LeO.refl _)
      | (with_reducible exact LeO.none _)
      | (with_reducible refine LeO.ite ?_ ?_)
      | (with_reducible refine LeO.bind ?_ (fun _ => ?_))
      | exact ih0 _ _ _ _ _
      | exact ih1 _ _ _ _ _ _
      | exact ih2 _ _ _ _ _ _
      | exact impl_Clash.mono _ _ _ _
      | exact impl_Extends.mono _ _ _ _
      | exact impl_HeightOf.mono _ _ _
      | exact impl_RowAfter.mono _ _ _ _
      | exact impl_RowTo.mono _ _ _
      | exact laws_in.mono _ _ _
      | exact spec_DrawPlaces.mono _ _
      | exact spec_DrawTree.mono _ _
      | exact LeO.none _
      | refine LeO.ite ?_ ?_
      | refine LeO.bind ?_ (fun _ => ?_)
    · intro y0 y1 y2 y3 y4 y5
      unfold laws_FnStands.j2
      repeat' first
      | (with_reducible exact ih0 _ _ _ _ _)
      | (with_reducible exact ih1 _ _ _ _ _ _)
      | (with_reducible exact ih2 _ _ _ _ _ _)
      | (with_reducible exact impl_Clash.mono _ _ _ _)
      | (with_reducible exact impl_Extends.mono _ _ _ _)
      | (with_reducible exact impl_HeightOf.mono _ _ _)
      | (with_reducible exact impl_RowAfter.mono _ _ _ _)
      | (with_reducible exact impl_RowTo.mono _ _ _)
      | (with_reducible exact laws_in.mono _ _ _)
      | (with_reducible exact spec_DrawPlaces.mono _ _)
      | (with_reducible exact spec_DrawTree.mono _ _)
      | (with_reducible exact LeO.refl _)
      | (with_reducible exact LeO.none _)
      | (with_reducible refine LeO.ite ?_ ?_)
      | (with_reducible refine LeO.bind ?_ (fun _ => ?_))
      | exact ih0 _ _ _ _ _
      | exact ih1 _ _ _ _ _ _
      | exact ih2 _ _ _ _ _ _
      | exact impl_Clash.mono _ _ _ _
      | exact impl_Extends.mono _ _ _ _
      | exact impl_HeightOf.mono _ _ _
      | exact impl_RowAfter.mono _ _ _ _
      | exact impl_RowTo.mono _ _ _
      | exact laws_in.mono _ _ _
      | exact spec_DrawPlaces.mono _ _
      | exact spec_DrawTree.mono _ _
      | exact LeO.none _
      | refine LeO.ite ?_ ?_
      | refine LeO.bind ?_ (fun _ => ?_)
theorem laws_FnStands.mono : ∀ a0 k, LeO (laws_FnStands.f k a0) (laws_FnStands.f (k + 1) a0) := by
  intro a0 k
  obtain ⟨ih0, ih1, ih2⟩ := laws_FnStands.mono_l k
  unfold laws_FnStands.f
  repeat' first
      | (with_reducible exact ih0 _ _ _ _ _)
      | (with_reducible exact ih1 _ _ _ _ _ _)
      | (with_reducible exact ih2 _ _ _ _ _ _)
      | (with_reducible exact impl_Clash.mono _ _ _ _)
      | (with_reducible exact impl_Extends.mono _ _ _ _)
      | (with_reducible exact impl_HeightOf.mono _ _ _)
      | (with_reducible exact impl_RowAfter.mono _ _ _ _)
      | (with_reducible exact impl_RowTo.mono _ _ _)
      | (with_reducible exact laws_in.mono _ _ _)
      | (with_reducible exact spec_DrawPlaces.mono _ _)
      | (with_reducible exact spec_DrawTree.mono _ _)
      | (with_reducible exact LeO.refl _)
      | (with_reducible exact LeO.none _)
      | (with_reducible refine LeO.ite ?_ ?_)
      | (with_reducible refine LeO.bind ?_ (fun _ => ?_))
      | exact ih0 _ _ _ _ _
      | exact ih1 _ _ _ _ _ _
      | exact ih2 _ _ _ _ _ _
      | exact impl_Clash.mono _ _ _ _
      | exact impl_Extends.mono _ _ _ _
      | exact impl_HeightOf.mono _ _ _
      | exact impl_RowAfter.mono _ _ _ _
      | exact impl_RowTo.mono _ _ _
      | exact laws_in.mono _ _ _
      | exact spec_DrawPlaces.mono _ _
      | exact spec_DrawTree.mono _ _
      | exact LeO.none _
      | refine LeO.ite ?_ ?_
      | refine LeO.bind ?_ (fun _ => ?_)
set_option maxHeartbeats 8000000 in
set_option maxRecDepth 100000 in
theorem laws_FnStands.calls (k : Nat) (A0 : Option Addr) (c0 : Nat) (l0 : List Int) (r : Bool) (w : World) (hr0 : Kd.C (Kd.int .u8) w A0 l0.length l0) (hc0 : l0.length ≤ c0) (h : laws_FnStands.f k l0 = some r) :
    Calls Try.prog 3 #[.slice A0 l0.length c0] w fun e w' => e = .returned (.bool r) ∧ Below w.heap.size w w' := by
  have HR0 := Aside0.mk hr0
  have HC0 := Aside0.mk hc0
  clear hr0 hc0
  have HB := Aside0.mk (Below.refl w.heap.size w)
  have H : ((laws_big.f l0).bind fun t370 => (if t370 = true then (some true) else ((spec_DrawTree.f k l0).bind fun t371 => ((spec_DrawPlaces.f k l0).bind fun t374 => (if 0 < (t374.length : Int) then (if (t371.length : Int) = 0 then (none) else (if 1 < (t374.length : Int) then ((impl_RowTo.f k t371 (Int.tmod (rd t374 0) (t371.length : Int))).bind fun t379 => (laws_FnStands.l0 k t371 (Int.tmod (rd t374 0) (t371.length : Int)) (Int.tmod (rd t374 1) (t371.length : Int)) t379 0)) else (none))) else (none)))))) = some r := h
  clear h
  replace H := Option.bind_eq_some_iff.mp H
  obtain ⟨t370, A20, H⟩ := H
  replace H : (if t370 = true then (some true) else ((spec_DrawTree.f k l0).bind fun t371 => ((spec_DrawPlaces.f k l0).bind fun t374 => (if 0 < (t374.length : Int) then (if (t371.length : Int) = 0 then (none) else (if 1 < (t374.length : Int) then ((impl_RowTo.f k t371 (Int.tmod (rd t374 0) (t371.length : Int))).bind fun t379 => (laws_FnStands.l0 k t371 (Int.tmod (rd t374 0) (t371.length : Int)) (Int.tmod (rd t374 1) (t371.length : Int)) t379 0)) else (none))) else (none))))) = some r := H
  have A2 := Aside0.mk A20
  clear A20
  by_cases c3 : t370 = true
  · subst c3
    have H1 : (some true) = some r := by rw [if_pos rfl] at H; exact H
    clear H
    have H := H1
    clear H1
    obtain rfl := Option.some.inj H
    go_enter Try.func3, Try.ntmps3
    go_wp2_with (first | ((with_reducible refine gate_callee (f := 5) rfl ?_); refine goesL_ (some 13) rfl rfl Try.func5 (by kernel_rfl) rfl #[.slice A0 l0.length c0] rfl (by (try simp only [List.map_toArray, List.map_cons, List.map_nil]); first | done | rfl | (simp only [List.length_drop, List.length_take]; rfl)) ?_; (with_reducible refine (laws_big.calls _ _ l0 true _ ?side1 ?side2 A2.out).mono ?_); (case side1 => repeat (first | exact HR0.out | (with_reducible refine Kd.C_alloc ?_ _) | (with_reducible refine Kd.C_drewN ?_ _) | (with_reducible refine Kd.C_drew ?_))); (case side2 => exact HC0.out); rintro e w' ⟨rfl, ⟨nd, rfl⟩⟩; refine ⟨_, rfl, ?_⟩))
    go_ret
    exact ⟨by first | rfl | (simp [errW_none, errW_some] <;> rfl) | (simp [*, errW_none, errW_some] <;> rfl), by repeat (first | (with_reducible first | exact HB.out | apply below_alloc | apply pw_below_drewN | apply below_drew1) | exact HB.out)⟩
  · replace c3 := Bool.eq_false_iff.mpr c3
    subst c3
    have H1 : ((spec_DrawTree.f k l0).bind fun t371 => ((spec_DrawPlaces.f k l0).bind fun t374 => (if 0 < (t374.length : Int) then (if (t371.length : Int) = 0 then (none) else (if 1 < (t374.length : Int) then ((impl_RowTo.f k t371 (Int.tmod (rd t374 0) (t371.length : Int))).bind fun t379 => (laws_FnStands.l0 k t371 (Int.tmod (rd t374 0) (t371.length : Int)) (Int.tmod (rd t374 1) (t371.length : Int)) t379 0)) else (none))) else (none)))) = some r := by rw [if_neg (show ¬ (false = true) by decide)] at H; exact H
    clear H
    have H := H1
    clear H1
    replace H := Option.bind_eq_some_iff.mp H
    obtain ⟨t371, A40, H⟩ := H
    replace H : ((spec_DrawPlaces.f k l0).bind fun t374 => (if 0 < (t374.length : Int) then (if (t371.length : Int) = 0 then (none) else (if 1 < (t374.length : Int) then ((impl_RowTo.f k t371 (Int.tmod (rd t374 0) (t371.length : Int))).bind fun t379 => (laws_FnStands.l0 k t371 (Int.tmod (rd t374 0) (t371.length : Int)) (Int.tmod (rd t374 1) (t371.length : Int)) t379 0)) else (none))) else (none))) = some r := H
    have A4 := Aside0.mk A40
    clear A40
    replace H := Option.bind_eq_some_iff.mp H
    obtain ⟨t374, A50, H⟩ := H
    replace H : (if 0 < (t374.length : Int) then (if (t371.length : Int) = 0 then (none) else (if 1 < (t374.length : Int) then ((impl_RowTo.f k t371 (Int.tmod (rd t374 0) (t371.length : Int))).bind fun t379 => (laws_FnStands.l0 k t371 (Int.tmod (rd t374 0) (t371.length : Int)) (Int.tmod (rd t374 1) (t371.length : Int)) t379 0)) else (none))) else (none)) = some r := H
    have A5 := Aside0.mk A50
    clear A50
    by_cases c6 : 0 < (t374.length : Int)
    · rw [if_pos c6] at H
      have c6b0 : decide (0 < (t374.length : Int)) = true := decide_eq_true c6
      have c6b1 : decide (0 < t374.length) = true := decide_eq_true (by omega)
      clear c6
      by_cases c7 : (t371.length : Int) = 0
      · rw [if_pos c7] at H
        exact absurd H (by simp)
      · rw [if_neg c7] at H
        have c7b0 : ((t371.length : Int) == 0) = false := beq_eq_false_iff_ne.mpr c7
        have c7b1 : ((t371.length : Int) != 0) = true := bne_iff_ne.mpr c7
        have c7b2 : ¬ (t371 = []) := fun h_ => c7 (by rw [h_]; rfl)
        by_cases c8 : 1 < (t374.length : Int)
        · rw [if_pos c8] at H
          have c8b0 : decide (1 < (t374.length : Int)) = true := decide_eq_true c8
          have c8b1 : decide (1 < t374.length) = true := decide_eq_true (by omega)
          clear c8
          replace H := Option.bind_eq_some_iff.mp H
          obtain ⟨t379, A90, H⟩ := H
          replace H : (laws_FnStands.l0 k t371 (Int.tmod (rd t374 0) (t371.length : Int)) (Int.tmod (rd t374 1) (t371.length : Int)) t379 0) = some r := H
          have A9 := Aside0.mk A90
          clear A90
          have H' := Aside0.mk H
          clear H
          go_enter Try.func3, Try.ntmps3
          go_wp2_with (first | ((with_reducible refine gate_callee (f := 5) rfl ?_); refine goesL_ (some 13) rfl rfl Try.func5 (by kernel_rfl) rfl #[.slice A0 l0.length c0] rfl (by (try simp only [List.map_toArray, List.map_cons, List.map_nil]); first | done | rfl | (simp only [List.length_drop, List.length_take]; rfl)) ?_; (with_reducible refine (laws_big.calls _ _ l0 false _ ?side1 ?side2 A2.out).mono ?_); (case side1 => repeat (first | exact HR0.out | (with_reducible refine Kd.C_alloc ?_ _) | (with_reducible refine Kd.C_drewN ?_ _) | (with_reducible refine Kd.C_drew ?_))); (case side2 => exact HC0.out); rintro e w' ⟨rfl, ⟨nd, rfl⟩⟩; refine ⟨_, rfl, ?_⟩) | ((with_reducible refine gate_callee (f := 6) rfl ?_); refine goesL_ (some 15) rfl rfl Try.func6 (by kernel_rfl) rfl #[.slice A0 l0.length c0] rfl (by (try simp only [List.map_toArray, List.map_cons, List.map_nil]); first | done | rfl | (simp only [List.length_drop, List.length_take]; rfl)) ?_; (with_reducible refine (spec_DrawTree.calls k _ _ l0 t371 _ ?side1 ?side2 A4.out).mono ?_); (case side1 => repeat (first | exact HR0.out | (with_reducible refine Kd.C_alloc ?_ _) | (with_reducible refine Kd.C_drewN ?_ _) | (with_reducible refine Kd.C_drew ?_))); (case side2 => exact HC0.out); rintro e w10 ⟨v372, rfl, ho0, hb⟩; refine ⟨_, rfl, ?_⟩; have n0_ := Aside0.mk (Kd.N_lower (Kd.N_mono (ok' := fun k_ => True) ho0 (fun k_ hk_ => trivial)) (below_size (by repeat (first | (with_reducible first | exact HB.out | apply below_alloc | apply pw_below_drewN | apply below_drew1) | exact HB.out)))); have n1_ := Aside0.mk (below_step (by repeat (first | (with_reducible first | exact HB.out | apply below_alloc | apply pw_below_drewN | apply below_drew1) | exact HB.out)) hb); clear HB; have HO373 := n0_; have HB := n1_; clear n0_ n1_; (try clear hb); (try clear hb2); (try clear hk); (try clear hi); (try clear ho0)) | ((with_reducible refine gate_callee (f := 7) rfl ?_); refine goesL_ (some 17) rfl rfl Try.func7 (by kernel_rfl) rfl #[.slice A0 l0.length c0] rfl (by (try simp only [List.map_toArray, List.map_cons, List.map_nil]); first | done | rfl | (simp only [List.length_drop, List.length_take]; rfl)) ?_; (with_reducible refine (spec_DrawPlaces.calls k _ _ l0 t374 _ ?side1 ?side2 A5.out).mono ?_); (case side1 => repeat (first | exact (Kd.C_below HR0.out HB.out) | (with_reducible refine Kd.C_alloc ?_ _) | (with_reducible refine Kd.C_drewN ?_ _) | (with_reducible refine Kd.C_drew ?_))); (case side2 => exact HC0.out); rintro e w11 ⟨v375, rfl, ho0, hb⟩; refine ⟨_, rfl, ?_⟩; have n0_ := Aside0.mk (Kd.N_elder' (by (with_reducible repeat (first | apply Kd.N_alloc | apply Kd.N_drewN | apply Kd.N_drew)); exact HO373.out) (Kd.R_base ho0) hb); have n1_ := Aside0.mk (Kd.R_lower ho0 (below_size (by repeat (first | (with_reducible first | exact HB.out | apply below_alloc | apply pw_below_drewN | apply below_drew1) | exact HB.out)))); have n2_ := Aside0.mk (below_step (by repeat (first | (with_reducible first | exact HB.out | apply below_alloc | apply pw_below_drewN | apply below_drew1) | exact HB.out)) hb); clear HO373; clear HB; have HO373 := n0_; have HO376 := n1_; have HB := n2_; clear n0_ n1_ n2_; (try clear hb); (try clear hb2); (try clear hk); (try clear hi); (try clear ho0); obtain ⟨Ao12, co12, eo12⟩ := Kd.R_slice HO376.out; subst eo12; have p377 : 0 ≤ (0 : Int) := (by omega); have q377 : 0 < (t374.length : Int) := of_decide_eq_true (by first | (with_reducible assumption) | assumption); obtain ⟨ad377, e377, hx377_0⟩ := Kd.at_int (Kd.R_reads' HO376.out).2.2 0 p377 q377; cases e377; have qi377 : (0 < t374.length) = True := eq_true (by omega); (try rw [show ((0 : Int)).toNat = 0 from rfl] at hx377_0); (try rw [Addr.add_zero'] at hx377_0); replace p377 := eq_true p377; replace q377 := eq_true q377; obtain ⟨Ao13, co13, eo13⟩ := Kd.N_slice HO373.out; subst eo13; have p378 : 0 ≤ (1 : Int) := (by omega); have q378 : 1 < (t374.length : Int) := of_decide_eq_true (by first | (with_reducible assumption) | assumption); obtain ⟨ad378, e378, hx378_0⟩ := Kd.at_int (Kd.R_reads' HO376.out).2.2 1 p378 q378; obtain rfl : ad377 = ad378 := (by injection e378); (try simp only [show (1 : Int).toNat = 1 from rfl, Nat.reduceMul, Nat.reduceEqDiff, Go.Addr.add, ↓reduceIte] at hx378_0); have qi378 : (1 < t374.length) = True := eq_true (by omega); (try rw [show ((1 : Int)).toNat = 1 from rfl] at hx378_0); replace p378 := eq_true p378; replace q378 := eq_true q378) | ((with_reducible refine gate_callee (f := 8) rfl ?_); refine goesL_ (some 32) rfl rfl Try.func8 (by kernel_rfl) rfl #[.slice Ao13 t371.length co13, .int .i64 (Int.tmod (rd t374 0) (t371.length : Int))] rfl (by (try simp only [List.map_toArray, List.map_cons, List.map_nil]); first | done | rfl | (simp only [List.length_drop, List.length_take]; rfl)) ?_; (with_reducible refine (impl_RowTo.calls k _ _ t371 (Int.tmod (rd t374 0) (t371.length : Int)) t379 _ ?side1 ?side2 A9.out).mono ?_); (case side1 => repeat (first | exact (Kd.N_reads' HO373.out).2.2 | (with_reducible refine Kd.C_alloc ?_ _) | (with_reducible refine Kd.C_drewN ?_ _) | (with_reducible refine Kd.C_drew ?_))); (case side2 => exact (Kd.N_reads' HO373.out).2.1); rintro e w14 ⟨v380, rfl, ho0, hb⟩; refine ⟨_, rfl, ?_⟩; have n0_ := Aside0.mk (Kd.N_elder' (by (with_reducible repeat (first | apply Kd.N_alloc | apply Kd.N_drewN | apply Kd.N_drew)); exact HO373.out) (Kd.Q_base ho0) hb); have n1_ := Aside0.mk (Kd.R_elder' (by (with_reducible repeat (first | apply Kd.R_alloc | apply Kd.R_drewN | apply Kd.R_drew)); exact HO376.out) (Kd.Q_base ho0) hb); have n2_ := Aside0.mk (Kd.Q_lower (Kd.Q_new' ho0 (Kd.R_lt (by (with_reducible repeat (first | apply Kd.R_alloc | apply Kd.R_drewN | apply Kd.R_drew)); exact HO376.out))) (below_size (by repeat (first | (with_reducible first | exact HB.out | apply below_alloc | apply pw_below_drewN | apply below_drew1) | exact HB.out)))); have n3_ := Aside0.mk (below_step (by repeat (first | (with_reducible first | exact HB.out | apply below_alloc | apply pw_below_drewN | apply below_drew1) | exact HB.out)) hb); clear HO373; clear HO376; clear HB; have HO373 := n0_; have HO376 := n1_; have HO381 := n2_; have HB := n3_; clear n0_ n1_ n2_ n3_; (try clear hb); (try clear hb2); (try clear hk); (try clear hi); (try clear ho0)))
          go_loopg [8] k (fun kq v8 w' => ∃ (x8_1 : Int), v8 = .int .i64 x8_1 ∧ Aside0 (laws_FnStands.l0 kq t371 (Int.tmod (rd t374 0) (t371.length : Int)) (Int.tmod (rd t374 1) (t371.length : Int)) t379 x8_1 = some r) ∧ Aside0 (kq ≤ k) ∧ Aside0 (Kd.N k33 33 w' w.heap.size (fun k_ => some k_ ≠ (v380 : Value).ownBlock) (.slice Ao13 t371.length co13) t371) ∧ Aside0 (Kd.Q (Kd.int .i64) 3 w' w.heap.size (fun _ => True) v380 t379) ∧ Aside0 (Below w.heap.size w w'))
          case atStart => exact ⟨(0), (by first | rfl | (simp; done) | (simp [*]; done)), H', ⟨Nat.le_refl _⟩, ⟨by (with_reducible repeat (first | apply Kd.N_alloc | apply Kd.N_drewN | apply Kd.N_drew)); exact Kd.N_mono HO373.out (fun _ hk => hk.2)⟩, ⟨by (with_reducible repeat (first | apply Kd.Q_alloc | apply Kd.Q_drewN | apply Kd.Q_drew)); exact Kd.Q_mono HO381.out (fun _ hk => trivial)⟩, ⟨by repeat (first | (with_reducible first | exact HB.out | apply below_alloc | apply pw_below_drewN | apply below_drew1) | exact HB.out)⟩⟩
          case round =>
            clear H'
            try clear p2
            try clear c3
            try clear p3
            try clear q3
            try clear hx3
            try clear qi3
            try clear c5
            try clear c6
            try clear c6b0
            try clear c6b1
            try clear c7
            try clear c7b0
            try clear c7b1
            try clear c7b2
            try clear c8
            try clear c8b0
            try clear c8b1
            try clear hx377_0
            try clear hx378_0
            try clear p377
            try clear p378
            try clear q377
            try clear q378
            obtain ⟨x8_1, rfl, HA, HK1, HO_3, HO_7, HB⟩ := hrel
            cases gk with
            | zero => exact absurd HA.out (by simp [laws_FnStands.l0])
            | succ k1 =>
              have H := HA.out
              clear HA
              simp only [laws_FnStands.l0] at H
              by_cases c15 : x8_1 < (t379.length : Int)
              · rw [if_pos c15] at H
                have c15b0 : decide (x8_1 < (t379.length : Int)) = true := decide_eq_true c15
                clear c15
                have HC16 := Aside0.mk H
                clear H
                obtain ⟨Ao17, co17, eo17, _⟩ := Kd.Q_slice HO_7.out
                subst eo17
                go_upto_if 40 with (fail)
                go_cut [9] (fun v9 wc => ∃ (kq : Nat) (x9_15 : Int), v9 = .int .i64 x9_15 ∧ Aside0 (laws_FnStands.j1 kq t371 (Int.tmod (rd t374 0) (t371.length : Int)) (Int.tmod (rd t374 1) (t371.length : Int)) t379 x8_1 x9_15 = some r) ∧ Aside0 (kq ≤ k1) ∧ Aside0 (Kd.N k33 33 wc w.heap.size (fun k_ => some k_ ≠ ((.slice Ao17 t379.length co17) : Value).ownBlock) (.slice Ao13 t371.length co13) t371) ∧ Aside0 (Kd.Q (Kd.int .i64) 3 wc w.heap.size (fun _ => True) (.slice Ao17 t379.length co17) t379) ∧ Aside0 (Below w.heap.size w wc))
                case first =>
                  have H := HC16.out
                  clear HC16
                  by_cases c18 : x8_1 > 0
                  · rw [if_pos c18] at H
                    have c18b0 : decide (0 < x8_1) = true := decide_eq_true c18
                    clear c18
                    (first | rw [c18b0] | (simp only [i64_w, i32_w]; rw [c18b0]) | skip)
                    obtain ⟨ji19, hji19⟩ : ∃ j_ : Int, (wrap64 (x8_1 - 1)) = j_ := ⟨_, rfl⟩
                    replace H : (if 0 ≤ (ji19) then (if (ji19) < (t379.length : Int) then (laws_FnStands.j1 k1 t371 (Int.tmod (rd t374 0) (t371.length : Int)) (Int.tmod (rd t374 1) (t371.length : Int)) t379 x8_1 (rd t379 (ji19))) else (none)) else (none)) = some r := by first | (rw [hji19] at H; exact H) | (simp only [hji19] at H ⊢; exact H)
                    have hji19w : (IntKind.i64.wrap (x8_1 - 1)) = ji19 := (i64_w _).trans hji19
                    by_cases c20 : 0 ≤ (ji19)
                    · rw [if_pos c20] at H
                      have c20b0 : decide (0 ≤ (ji19)) = true := decide_eq_true c20
                      clear c20
                      by_cases c21 : (ji19) < (t379.length : Int)
                      · rw [if_pos c21] at H
                        have c21b0 : decide ((ji19) < (t379.length : Int)) = true := decide_eq_true c21
                        clear c21
                        have H' := Aside0.mk H
                        clear H
                        have p382 : 0 ≤ ((ji19) : Int) := of_decide_eq_true (by first | (with_reducible assumption) | assumption)
                        have q382 : (ji19) < (t379.length : Int) := of_decide_eq_true (by first | (with_reducible assumption) | assumption)
                        obtain ⟨ad382, e382, hx382_0⟩ := Kd.at_int (Kd.Q_reads' HO_7.out).2.2 (ji19) p382 q382
                        cases e382
                        replace p382 := eq_true p382
                        replace q382 := eq_true q382
                        go_wp2
                        go_meet
                        case rel => exact ⟨_, (rd t379 (ji19)), (by first | rfl | (simp; done) | (simp only [← hji19] <;> (first | rfl | simp)) | (simp [*]; done)), H', ⟨by have := HK1.out; first | omega | exact Nat.le_refl _⟩, ⟨by (with_reducible repeat (first | apply Kd.N_alloc | apply Kd.N_drewN | apply Kd.N_drew)); exact HO_3.out⟩, ⟨by (with_reducible repeat (first | apply Kd.Q_alloc | apply Kd.Q_drewN | apply Kd.Q_drew)); exact HO_7.out⟩, ⟨by repeat (first | (with_reducible first | exact HB.out | apply below_alloc | apply pw_below_drewN | apply below_drew1) | exact HB.out)⟩⟩
                      · rw [if_neg c21] at H
                        exact absurd H (by simp)
                    · rw [if_neg c20] at H
                      exact absurd H (by simp)
                  · rw [if_neg c18] at H
                    have c18b0 : decide (0 < x8_1) = false := decide_eq_false c18
                    clear c18
                    (first | rw [c18b0] | (simp only [i64_w, i32_w]; rw [c18b0]) | skip)
                    have H' := Aside0.mk H
                    clear H
                    go_wp2
                    go_meet
                    case rel => exact ⟨_, (0), (by first | rfl | (simp; done) | (simp [*]; done)), H', ⟨by have := HK1.out; first | omega | exact Nat.le_refl _⟩, ⟨by (with_reducible repeat (first | apply Kd.N_alloc | apply Kd.N_drewN | apply Kd.N_drew)); exact HO_3.out⟩, ⟨by (with_reducible repeat (first | apply Kd.Q_alloc | apply Kd.Q_drewN | apply Kd.Q_drew)); exact HO_7.out⟩, ⟨by repeat (first | (with_reducible first | exact HB.out | apply below_alloc | apply pw_below_drewN | apply below_drew1) | exact HB.out)⟩⟩
                case rest =>
                  clear HC16
                  try clear c1
                  try clear c2
                  try clear p2
                  try clear c3
                  try clear p3
                  try clear q3
                  try clear hx3
                  try clear qi3
                  try clear c5
                  try clear c6
                  try clear c6b0
                  try clear c6b1
                  try clear p6
                  try clear c7
                  try clear c7b0
                  try clear c7b1
                  try clear c7b2
                  try clear c8
                  try clear c8b0
                  try clear c8b1
                  try clear c15
                  try clear c15b0
                  try clear c18
                  try clear c18b0
                  try clear c20
                  try clear c20b0
                  try clear c21
                  try clear c21b0
                  try clear hx377_0
                  try clear hx378_0
                  try clear hx382_0
                  try clear p2
                  try clear p3
                  try clear p377
                  try clear p378
                  try clear p382
                  try clear q3
                  try clear q377
                  try clear q378
                  try clear q382
                  obtain ⟨kq, x9_15, rfl, HA, HJ15, HO_3, HO_7, HB⟩ := hcut
                  cases kq with
                  | zero => exact absurd HA.out (by simp [laws_FnStands.j1])
                  | succ kj15 =>
                    have H := HA.out
                    clear HA
                    simp only [laws_FnStands.j1] at H
                    by_cases c22 : 0 ≤ x8_1
                    · rw [if_pos c22] at H
                      have c22b0 : decide (0 ≤ x8_1) = true := decide_eq_true c22
                      clear c22
                      by_cases c23 : x8_1 < (t379.length : Int)
                      · rw [if_pos c23] at H
                        have c23b0 : decide (x8_1 < (t379.length : Int)) = true := decide_eq_true c23
                        clear c23
                        by_cases c24 : 0 ≤ (rd t379 x8_1)
                        · rw [if_pos c24] at H
                          have c24b0 : decide (0 ≤ (rd t379 x8_1)) = true := decide_eq_true c24
                          clear c24
                          by_cases c25 : (rd t379 x8_1) < (t371.length : Int)
                          · rw [if_pos c25] at H
                            have c25b0 : decide ((rd t379 x8_1) < (t371.length : Int)) = true := decide_eq_true c25
                            clear c25
                            by_cases c26 : ((rd_T33 t371 (rd t379 x8_1)).f0) = x9_15
                            · rw [if_pos c26] at H
                              have c26b0 : (((rd_T33 t371 (rd t379 x8_1)).f0) == x9_15) = true := beq_iff_eq.mpr c26
                              have c26b1 : (((rd_T33 t371 (rd t379 x8_1)).f0) != x9_15) = false := bne_eq_false_iff_eq.mpr c26
                              clear c26
                              replace H := Option.bind_eq_some_iff.mp H
                              obtain ⟨t386, A270, H⟩ := H
                              replace H : (if t386 = true then ((impl_HeightOf.f kj15 t371 (rd t379 x8_1)).bind fun t388 => (if t388 = (wrap64 (x8_1 + 1)) then (laws_FnStands.l0 kj15 t371 (Int.tmod (rd t374 0) (t371.length : Int)) (Int.tmod (rd t374 1) (t371.length : Int)) t379 (wrap64 (x8_1 + 1))) else (some false))) else (some false)) = some r := H
                              have A27 := Aside0.mk A270
                              clear A270
                              by_cases c28 : t386 = true
                              · subst c28
                                have H1 : ((impl_HeightOf.f kj15 t371 (rd t379 x8_1)).bind fun t388 => (if t388 = (wrap64 (x8_1 + 1)) then (laws_FnStands.l0 kj15 t371 (Int.tmod (rd t374 0) (t371.length : Int)) (Int.tmod (rd t374 1) (t371.length : Int)) t379 (wrap64 (x8_1 + 1))) else (some false))) = some r := by rw [if_pos rfl] at H; exact H
                                clear H
                                have H := H1
                                clear H1
                                replace H := Option.bind_eq_some_iff.mp H
                                obtain ⟨t388, A290, H⟩ := H
                                replace H : (if t388 = (wrap64 (x8_1 + 1)) then (laws_FnStands.l0 kj15 t371 (Int.tmod (rd t374 0) (t371.length : Int)) (Int.tmod (rd t374 1) (t371.length : Int)) t379 (wrap64 (x8_1 + 1))) else (some false)) = some r := H
                                have A29 := Aside0.mk A290
                                clear A290
                                by_cases c30 : t388 = (wrap64 (x8_1 + 1))
                                · rw [if_pos c30] at H
                                  have c30b0 : (t388 == (wrap64 (x8_1 + 1))) = true := beq_iff_eq.mpr c30
                                  have c30b1 : (t388 != (wrap64 (x8_1 + 1))) = false := bne_eq_false_iff_eq.mpr c30
                                  clear c30
                                  have H' := Aside0.mk H
                                  clear H
                                  have p383 : 0 ≤ (x8_1 : Int) := of_decide_eq_true (by first | (with_reducible assumption) | assumption)
                                  have q383 : x8_1 < (t379.length : Int) := of_decide_eq_true (by first | (with_reducible assumption) | assumption)
                                  obtain ⟨ad383, e383, hx383_0⟩ := Kd.at_int (Kd.Q_reads' HO_7.out).2.2 x8_1 p383 q383
                                  cases e383
                                  replace p383 := eq_true p383
                                  replace q383 := eq_true q383
                                  have p384 : 0 ≤ ((rd t379 x8_1) : Int) := of_decide_eq_true (by first | (with_reducible assumption) | assumption)
                                  have q384 : (rd t379 x8_1) < (t371.length : Int) := of_decide_eq_true (by first | (with_reducible assumption) | assumption)
                                  obtain ⟨ad384, A384_2, c384_2, e384, hx384_0, hx384_1, hx384_2, hx384_3, hx384_4, hx384_5, hx384_6, hl384_2, hi384_2⟩ := at_T33 (Kd.N_reads' HO_3.out).2.2 (rd t379 x8_1) p384 q384
                                  cases e384
                                  obtain ⟨ce384, hce384, hMe384, hcc384⟩ := Kd.N_get HO_3.out z33 (rd t379 x8_1) p384 (by first | exact q384 | exact of_decide_eq_true (by first | (with_reducible assumption) | assumption) | (have e_ := (Kd.N_reads' HO_3.out).1; omega))
                                  obtain ⟨ua384_2, uc384_2, rfl, ul384_2, ge384_2⟩ := k33_openF hMe384
                                  have hv384_2 := hcc384 2 _ rfl
                                  rw [add_field _ _ 2 (by omega)] at hv384_2
                                  replace hv384_2 := Option.some.inj (hv384_2.symm.trans hx384_2)
                                  injection hv384_2 with hva_ hvn_ hvc_
                                  rw [hva_] at ge384_2
                                  rw [hvc_] at ul384_2
                                  have HL384_2 := Aside0.mk (show Kd.V k65 65 _ w.heap.size _ _ ((rd_T33 t371 (rd t379 x8_1)).f2) from Kd.V_mk ul384_2 ge384_2)
                                  clear hva_ hvn_ hvc_ ge384_2 ul384_2
                                  clear hcc384 hce384
                                  have HR384_2 := Aside0.mk hi384_2
                                  have HC384_2 := Aside0.mk hl384_2
                                  clear hi384_2 hl384_2
                                  replace p384 := eq_true p384
                                  replace q384 := eq_true q384
                                  have p385 : 0 ≤ (x8_1 : Int) := of_decide_eq_true (by first | (with_reducible assumption) | assumption)
                                  have q385 : x8_1 < (t379.length : Int) := of_decide_eq_true (by first | (with_reducible assumption) | assumption)
                                  obtain ⟨ad385, e385, hx385_0⟩ := Kd.at_int (Kd.Q_reads' HO_7.out).2.2 x8_1 p385 q385
                                  obtain rfl : ad383 = ad385 := (by injection e385)
                                  replace p385 := eq_true p385
                                  replace q385 := eq_true q385
                                  go_wp2_with (first | (go_at_call 9; (with_reducible refine (impl_Extends.calls kj15 _ _ t371 (Int.tmod (rd t374 0) (t371.length : Int)) (rd t379 x8_1) true _ ?side1 ?side2 A27.out).mono ?_); (case side1 => repeat (first | exact (Kd.N_reads' HO_3.out).2.2 | (with_reducible refine Kd.C_alloc ?_ _) | (with_reducible refine Kd.C_drewN ?_ _) | (with_reducible refine Kd.C_drew ?_))); (case side2 => exact (Kd.N_reads' HO_3.out).2.1); rintro e w31 ⟨rfl, hb⟩; have n0_ := Aside0.mk (Kd.N_below (by (with_reducible repeat (first | apply Kd.N_alloc | apply Kd.N_drewN | apply Kd.N_drew)); exact HO_3.out) hb); have n1_ := Aside0.mk (Kd.Q_below (by (with_reducible repeat (first | apply Kd.Q_alloc | apply Kd.Q_drewN | apply Kd.Q_drew)); exact HO_7.out) hb); have n2_ := Aside0.mk (Kd.V_below (by (with_reducible repeat (first | apply Kd.V_alloc | apply Kd.V_drewN | apply Kd.V_drew)); exact HL384_2.out) hb); have n3_ := Aside0.mk (Kd.C_below (by repeat (first | (with_reducible exact HR384_2.out) | (with_reducible refine Kd.C_alloc ?_ _) | (with_reducible refine Kd.C_drewN ?_ _) | (with_reducible refine Kd.C_drew ?_) | exact HR384_2.out)) hb); have n4_ := Aside0.mk (below_step (by repeat (first | (with_reducible first | exact HB.out | apply below_alloc | apply pw_below_drewN | apply below_drew1) | exact HB.out)) hb); clear HO_3; clear HO_7; clear HL384_2; clear HR384_2; clear HB; have HO_3 := n0_; have HO_7 := n1_; have HL384_2 := n2_; have HR384_2 := n3_; have HB := n4_; clear n0_ n1_ n2_ n3_ n4_; (try clear hb); (try clear hb2); (try clear hk); (try clear hi); have p387 : 0 ≤ (x8_1 : Int) := of_decide_eq_true (by first | (with_reducible assumption) | assumption); have q387 : x8_1 < (t379.length : Int) := of_decide_eq_true (by first | (with_reducible assumption) | assumption); obtain ⟨ad387, e387, hx387_0⟩ := Kd.at_int (Kd.Q_reads' HO_7.out).2.2 x8_1 p387 q387; obtain rfl : ad383 = ad387 := (by injection e387); replace p387 := eq_true p387; replace q387 := eq_true q387) | (go_at_call 10; (with_reducible refine (impl_HeightOf.calls kj15 _ _ t371 (rd t379 x8_1) t388 _ ?side1 ?side2 A29.out).mono ?_); (case side1 => repeat (first | exact (Kd.N_reads' HO_3.out).2.2 | (with_reducible refine Kd.C_alloc ?_ _) | (with_reducible refine Kd.C_drewN ?_ _) | (with_reducible refine Kd.C_drew ?_))); (case side2 => exact (Kd.N_reads' HO_3.out).2.1); rintro e w32 ⟨rfl, hb⟩; have n0_ := Aside0.mk (Kd.N_below (by (with_reducible repeat (first | apply Kd.N_alloc | apply Kd.N_drewN | apply Kd.N_drew)); exact HO_3.out) hb); have n1_ := Aside0.mk (Kd.Q_below (by (with_reducible repeat (first | apply Kd.Q_alloc | apply Kd.Q_drewN | apply Kd.Q_drew)); exact HO_7.out) hb); have n2_ := Aside0.mk (Kd.V_below (by (with_reducible repeat (first | apply Kd.V_alloc | apply Kd.V_drewN | apply Kd.V_drew)); exact HL384_2.out) hb); have n3_ := Aside0.mk (Kd.C_below (by repeat (first | (with_reducible exact HR384_2.out) | (with_reducible refine Kd.C_alloc ?_ _) | (with_reducible refine Kd.C_drewN ?_ _) | (with_reducible refine Kd.C_drew ?_) | exact HR384_2.out)) hb); have n4_ := Aside0.mk (below_step (by repeat (first | (with_reducible first | exact HB.out | apply below_alloc | apply pw_below_drewN | apply below_drew1) | exact HB.out)) hb); clear HO_3; clear HO_7; clear HL384_2; clear HR384_2; clear HB; have HO_3 := n0_; have HO_7 := n1_; have HL384_2 := n2_; have HR384_2 := n3_; have HB := n4_; clear n0_ n1_ n2_ n3_ n4_; (try clear hb); (try clear hb2); (try clear hk); (try clear hi)))
                                  go_roundg kj15
                                  case measure => have := HK1.out; have := HJ15.out; omega
                                  case rel => exact ⟨(wrap64 (x8_1 + 1)), (by first | rfl | (simp; done) | (simp [*]; done)), H', ⟨by have := HK1.out; have := HJ15.out; omega⟩, ⟨by (with_reducible repeat (first | apply Kd.N_alloc | apply Kd.N_drewN | apply Kd.N_drew)); exact HO_3.out⟩, ⟨by (with_reducible repeat (first | apply Kd.Q_alloc | apply Kd.Q_drewN | apply Kd.Q_drew)); exact HO_7.out⟩, ⟨by repeat (first | (with_reducible first | exact HB.out | apply below_alloc | apply pw_below_drewN | apply below_drew1) | exact HB.out)⟩⟩
                                · rw [if_neg c30] at H
                                  have c30b0 : (t388 == (wrap64 (x8_1 + 1))) = false := beq_eq_false_iff_ne.mpr c30
                                  have c30b1 : (t388 != (wrap64 (x8_1 + 1))) = true := bne_iff_ne.mpr c30
                                  obtain rfl := Option.some.inj H
                                  have p383 : 0 ≤ (x8_1 : Int) := of_decide_eq_true (by first | (with_reducible assumption) | assumption)
                                  have q383 : x8_1 < (t379.length : Int) := of_decide_eq_true (by first | (with_reducible assumption) | assumption)
                                  obtain ⟨ad383, e383, hx383_0⟩ := Kd.at_int (Kd.Q_reads' HO_7.out).2.2 x8_1 p383 q383
                                  cases e383
                                  replace p383 := eq_true p383
                                  replace q383 := eq_true q383
                                  have p384 : 0 ≤ ((rd t379 x8_1) : Int) := of_decide_eq_true (by first | (with_reducible assumption) | assumption)
                                  have q384 : (rd t379 x8_1) < (t371.length : Int) := of_decide_eq_true (by first | (with_reducible assumption) | assumption)
                                  obtain ⟨ad384, A384_2, c384_2, e384, hx384_0, hx384_1, hx384_2, hx384_3, hx384_4, hx384_5, hx384_6, hl384_2, hi384_2⟩ := at_T33 (Kd.N_reads' HO_3.out).2.2 (rd t379 x8_1) p384 q384
                                  cases e384
                                  obtain ⟨ce384, hce384, hMe384, hcc384⟩ := Kd.N_get HO_3.out z33 (rd t379 x8_1) p384 (by first | exact q384 | exact of_decide_eq_true (by first | (with_reducible assumption) | assumption) | (have e_ := (Kd.N_reads' HO_3.out).1; omega))
                                  obtain ⟨ua384_2, uc384_2, rfl, ul384_2, ge384_2⟩ := k33_openF hMe384
                                  have hv384_2 := hcc384 2 _ rfl
                                  rw [add_field _ _ 2 (by omega)] at hv384_2
                                  replace hv384_2 := Option.some.inj (hv384_2.symm.trans hx384_2)
                                  injection hv384_2 with hva_ hvn_ hvc_
                                  rw [hva_] at ge384_2
                                  rw [hvc_] at ul384_2
                                  have HL384_2 := Aside0.mk (show Kd.V k65 65 _ w.heap.size _ _ ((rd_T33 t371 (rd t379 x8_1)).f2) from Kd.V_mk ul384_2 ge384_2)
                                  clear hva_ hvn_ hvc_ ge384_2 ul384_2
                                  clear hcc384 hce384
                                  have HR384_2 := Aside0.mk hi384_2
                                  have HC384_2 := Aside0.mk hl384_2
                                  clear hi384_2 hl384_2
                                  replace p384 := eq_true p384
                                  replace q384 := eq_true q384
                                  have p385 : 0 ≤ (x8_1 : Int) := of_decide_eq_true (by first | (with_reducible assumption) | assumption)
                                  have q385 : x8_1 < (t379.length : Int) := of_decide_eq_true (by first | (with_reducible assumption) | assumption)
                                  obtain ⟨ad385, e385, hx385_0⟩ := Kd.at_int (Kd.Q_reads' HO_7.out).2.2 x8_1 p385 q385
                                  obtain rfl : ad383 = ad385 := (by injection e385)
                                  replace p385 := eq_true p385
                                  replace q385 := eq_true q385
                                  go_wp2_with (first | (go_at_call 9; (with_reducible refine (impl_Extends.calls kj15 _ _ t371 (Int.tmod (rd t374 0) (t371.length : Int)) (rd t379 x8_1) true _ ?side1 ?side2 A27.out).mono ?_); (case side1 => repeat (first | exact (Kd.N_reads' HO_3.out).2.2 | (with_reducible refine Kd.C_alloc ?_ _) | (with_reducible refine Kd.C_drewN ?_ _) | (with_reducible refine Kd.C_drew ?_))); (case side2 => exact (Kd.N_reads' HO_3.out).2.1); rintro e w33 ⟨rfl, hb⟩; have n0_ := Aside0.mk (Kd.N_below (by (with_reducible repeat (first | apply Kd.N_alloc | apply Kd.N_drewN | apply Kd.N_drew)); exact HO_3.out) hb); have n1_ := Aside0.mk (Kd.Q_below (by (with_reducible repeat (first | apply Kd.Q_alloc | apply Kd.Q_drewN | apply Kd.Q_drew)); exact HO_7.out) hb); have n2_ := Aside0.mk (Kd.V_below (by (with_reducible repeat (first | apply Kd.V_alloc | apply Kd.V_drewN | apply Kd.V_drew)); exact HL384_2.out) hb); have n3_ := Aside0.mk (Kd.C_below (by repeat (first | (with_reducible exact HR384_2.out) | (with_reducible refine Kd.C_alloc ?_ _) | (with_reducible refine Kd.C_drewN ?_ _) | (with_reducible refine Kd.C_drew ?_) | exact HR384_2.out)) hb); have n4_ := Aside0.mk (below_step (by repeat (first | (with_reducible first | exact HB.out | apply below_alloc | apply pw_below_drewN | apply below_drew1) | exact HB.out)) hb); clear HO_3; clear HO_7; clear HL384_2; clear HR384_2; clear HB; have HO_3 := n0_; have HO_7 := n1_; have HL384_2 := n2_; have HR384_2 := n3_; have HB := n4_; clear n0_ n1_ n2_ n3_ n4_; (try clear hb); (try clear hb2); (try clear hk); (try clear hi); have p387 : 0 ≤ (x8_1 : Int) := of_decide_eq_true (by first | (with_reducible assumption) | assumption); have q387 : x8_1 < (t379.length : Int) := of_decide_eq_true (by first | (with_reducible assumption) | assumption); obtain ⟨ad387, e387, hx387_0⟩ := Kd.at_int (Kd.Q_reads' HO_7.out).2.2 x8_1 p387 q387; obtain rfl : ad383 = ad387 := (by injection e387); replace p387 := eq_true p387; replace q387 := eq_true q387) | (go_at_call 10; (with_reducible refine (impl_HeightOf.calls kj15 _ _ t371 (rd t379 x8_1) t388 _ ?side1 ?side2 A29.out).mono ?_); (case side1 => repeat (first | exact (Kd.N_reads' HO_3.out).2.2 | (with_reducible refine Kd.C_alloc ?_ _) | (with_reducible refine Kd.C_drewN ?_ _) | (with_reducible refine Kd.C_drew ?_))); (case side2 => exact (Kd.N_reads' HO_3.out).2.1); rintro e w34 ⟨rfl, hb⟩; have n0_ := Aside0.mk (Kd.N_below (by (with_reducible repeat (first | apply Kd.N_alloc | apply Kd.N_drewN | apply Kd.N_drew)); exact HO_3.out) hb); have n1_ := Aside0.mk (Kd.Q_below (by (with_reducible repeat (first | apply Kd.Q_alloc | apply Kd.Q_drewN | apply Kd.Q_drew)); exact HO_7.out) hb); have n2_ := Aside0.mk (Kd.V_below (by (with_reducible repeat (first | apply Kd.V_alloc | apply Kd.V_drewN | apply Kd.V_drew)); exact HL384_2.out) hb); have n3_ := Aside0.mk (Kd.C_below (by repeat (first | (with_reducible exact HR384_2.out) | (with_reducible refine Kd.C_alloc ?_ _) | (with_reducible refine Kd.C_drewN ?_ _) | (with_reducible refine Kd.C_drew ?_) | exact HR384_2.out)) hb); have n4_ := Aside0.mk (below_step (by repeat (first | (with_reducible first | exact HB.out | apply below_alloc | apply pw_below_drewN | apply below_drew1) | exact HB.out)) hb); clear HO_3; clear HO_7; clear HL384_2; clear HR384_2; clear HB; have HO_3 := n0_; have HO_7 := n1_; have HL384_2 := n2_; have HR384_2 := n3_; have HB := n4_; clear n0_ n1_ n2_ n3_ n4_; (try clear hb); (try clear hb2); (try clear hk); (try clear hi)))
                                  go_ret
                                  exact ⟨by first | rfl | (simp [errW_none, errW_some] <;> rfl) | (simp [*, errW_none, errW_some] <;> rfl), by repeat (first | (with_reducible first | exact HB.out | apply below_alloc | apply pw_below_drewN | apply below_drew1) | exact HB.out)⟩
                              · replace c28 := Bool.eq_false_iff.mpr c28
                                subst c28
                                have H1 : (some false) = some r := by rw [if_neg (show ¬ (false = true) by decide)] at H; exact H
                                clear H
                                have H := H1
                                clear H1
                                obtain rfl := Option.some.inj H
                                have p383 : 0 ≤ (x8_1 : Int) := of_decide_eq_true (by first | (with_reducible assumption) | assumption)
                                have q383 : x8_1 < (t379.length : Int) := of_decide_eq_true (by first | (with_reducible assumption) | assumption)
                                obtain ⟨ad383, e383, hx383_0⟩ := Kd.at_int (Kd.Q_reads' HO_7.out).2.2 x8_1 p383 q383
                                cases e383
                                replace p383 := eq_true p383
                                replace q383 := eq_true q383
                                have p384 : 0 ≤ ((rd t379 x8_1) : Int) := of_decide_eq_true (by first | (with_reducible assumption) | assumption)
                                have q384 : (rd t379 x8_1) < (t371.length : Int) := of_decide_eq_true (by first | (with_reducible assumption) | assumption)
                                obtain ⟨ad384, A384_2, c384_2, e384, hx384_0, hx384_1, hx384_2, hx384_3, hx384_4, hx384_5, hx384_6, hl384_2, hi384_2⟩ := at_T33 (Kd.N_reads' HO_3.out).2.2 (rd t379 x8_1) p384 q384
                                cases e384
                                obtain ⟨ce384, hce384, hMe384, hcc384⟩ := Kd.N_get HO_3.out z33 (rd t379 x8_1) p384 (by first | exact q384 | exact of_decide_eq_true (by first | (with_reducible assumption) | assumption) | (have e_ := (Kd.N_reads' HO_3.out).1; omega))
                                obtain ⟨ua384_2, uc384_2, rfl, ul384_2, ge384_2⟩ := k33_openF hMe384
                                have hv384_2 := hcc384 2 _ rfl
                                rw [add_field _ _ 2 (by omega)] at hv384_2
                                replace hv384_2 := Option.some.inj (hv384_2.symm.trans hx384_2)
                                injection hv384_2 with hva_ hvn_ hvc_
                                rw [hva_] at ge384_2
                                rw [hvc_] at ul384_2
                                have HL384_2 := Aside0.mk (show Kd.V k65 65 _ w.heap.size _ _ ((rd_T33 t371 (rd t379 x8_1)).f2) from Kd.V_mk ul384_2 ge384_2)
                                clear hva_ hvn_ hvc_ ge384_2 ul384_2
                                clear hcc384 hce384
                                have HR384_2 := Aside0.mk hi384_2
                                have HC384_2 := Aside0.mk hl384_2
                                clear hi384_2 hl384_2
                                replace p384 := eq_true p384
                                replace q384 := eq_true q384
                                have p385 : 0 ≤ (x8_1 : Int) := of_decide_eq_true (by first | (with_reducible assumption) | assumption)
                                have q385 : x8_1 < (t379.length : Int) := of_decide_eq_true (by first | (with_reducible assumption) | assumption)
                                obtain ⟨ad385, e385, hx385_0⟩ := Kd.at_int (Kd.Q_reads' HO_7.out).2.2 x8_1 p385 q385
                                obtain rfl : ad383 = ad385 := (by injection e385)
                                replace p385 := eq_true p385
                                replace q385 := eq_true q385
                                go_wp2_with (first | (go_at_call 9; (with_reducible refine (impl_Extends.calls kj15 _ _ t371 (Int.tmod (rd t374 0) (t371.length : Int)) (rd t379 x8_1) false _ ?side1 ?side2 A27.out).mono ?_); (case side1 => repeat (first | exact (Kd.N_reads' HO_3.out).2.2 | (with_reducible refine Kd.C_alloc ?_ _) | (with_reducible refine Kd.C_drewN ?_ _) | (with_reducible refine Kd.C_drew ?_))); (case side2 => exact (Kd.N_reads' HO_3.out).2.1); rintro e w35 ⟨rfl, hb⟩; have n0_ := Aside0.mk (Kd.N_below (by (with_reducible repeat (first | apply Kd.N_alloc | apply Kd.N_drewN | apply Kd.N_drew)); exact HO_3.out) hb); have n1_ := Aside0.mk (Kd.Q_below (by (with_reducible repeat (first | apply Kd.Q_alloc | apply Kd.Q_drewN | apply Kd.Q_drew)); exact HO_7.out) hb); have n2_ := Aside0.mk (Kd.V_below (by (with_reducible repeat (first | apply Kd.V_alloc | apply Kd.V_drewN | apply Kd.V_drew)); exact HL384_2.out) hb); have n3_ := Aside0.mk (Kd.C_below (by repeat (first | (with_reducible exact HR384_2.out) | (with_reducible refine Kd.C_alloc ?_ _) | (with_reducible refine Kd.C_drewN ?_ _) | (with_reducible refine Kd.C_drew ?_) | exact HR384_2.out)) hb); have n4_ := Aside0.mk (below_step (by repeat (first | (with_reducible first | exact HB.out | apply below_alloc | apply pw_below_drewN | apply below_drew1) | exact HB.out)) hb); clear HO_3; clear HO_7; clear HL384_2; clear HR384_2; clear HB; have HO_3 := n0_; have HO_7 := n1_; have HL384_2 := n2_; have HR384_2 := n3_; have HB := n4_; clear n0_ n1_ n2_ n3_ n4_; (try clear hb); (try clear hb2); (try clear hk); (try clear hi)))
                                go_ret
                                exact ⟨by first | rfl | (simp [errW_none, errW_some] <;> rfl) | (simp [*, errW_none, errW_some] <;> rfl), by repeat (first | (with_reducible first | exact HB.out | apply below_alloc | apply pw_below_drewN | apply below_drew1) | exact HB.out)⟩
                            · rw [if_neg c26] at H
                              have c26b0 : (((rd_T33 t371 (rd t379 x8_1)).f0) == x9_15) = false := beq_eq_false_iff_ne.mpr c26
                              have c26b1 : (((rd_T33 t371 (rd t379 x8_1)).f0) != x9_15) = true := bne_iff_ne.mpr c26
                              obtain rfl := Option.some.inj H
                              have p383 : 0 ≤ (x8_1 : Int) := of_decide_eq_true (by first | (with_reducible assumption) | assumption)
                              have q383 : x8_1 < (t379.length : Int) := of_decide_eq_true (by first | (with_reducible assumption) | assumption)
                              obtain ⟨ad383, e383, hx383_0⟩ := Kd.at_int (Kd.Q_reads' HO_7.out).2.2 x8_1 p383 q383
                              cases e383
                              replace p383 := eq_true p383
                              replace q383 := eq_true q383
                              have p384 : 0 ≤ ((rd t379 x8_1) : Int) := of_decide_eq_true (by first | (with_reducible assumption) | assumption)
                              have q384 : (rd t379 x8_1) < (t371.length : Int) := of_decide_eq_true (by first | (with_reducible assumption) | assumption)
                              obtain ⟨ad384, A384_2, c384_2, e384, hx384_0, hx384_1, hx384_2, hx384_3, hx384_4, hx384_5, hx384_6, hl384_2, hi384_2⟩ := at_T33 (Kd.N_reads' HO_3.out).2.2 (rd t379 x8_1) p384 q384
                              cases e384
                              obtain ⟨ce384, hce384, hMe384, hcc384⟩ := Kd.N_get HO_3.out z33 (rd t379 x8_1) p384 (by first | exact q384 | exact of_decide_eq_true (by first | (with_reducible assumption) | assumption) | (have e_ := (Kd.N_reads' HO_3.out).1; omega))
                              obtain ⟨ua384_2, uc384_2, rfl, ul384_2, ge384_2⟩ := k33_openF hMe384
                              have hv384_2 := hcc384 2 _ rfl
                              rw [add_field _ _ 2 (by omega)] at hv384_2
                              replace hv384_2 := Option.some.inj (hv384_2.symm.trans hx384_2)
                              injection hv384_2 with hva_ hvn_ hvc_
                              rw [hva_] at ge384_2
                              rw [hvc_] at ul384_2
                              have HL384_2 := Aside0.mk (show Kd.V k65 65 _ w.heap.size _ _ ((rd_T33 t371 (rd t379 x8_1)).f2) from Kd.V_mk ul384_2 ge384_2)
                              clear hva_ hvn_ hvc_ ge384_2 ul384_2
                              clear hcc384 hce384
                              have HR384_2 := Aside0.mk hi384_2
                              have HC384_2 := Aside0.mk hl384_2
                              clear hi384_2 hl384_2
                              replace p384 := eq_true p384
                              replace q384 := eq_true q384
                              go_wp2
                              go_ret
                              exact ⟨by first | rfl | (simp [errW_none, errW_some] <;> rfl) | (simp [*, errW_none, errW_some] <;> rfl), by repeat (first | (with_reducible first | exact HB.out | apply below_alloc | apply pw_below_drewN | apply below_drew1) | exact HB.out)⟩
                          · rw [if_neg c25] at H
                            exact absurd H (by simp)
                        · rw [if_neg c24] at H
                          exact absurd H (by simp)
                      · rw [if_neg c23] at H
                        exact absurd H (by simp)
                    · rw [if_neg c22] at H
                      exact absurd H (by simp)
              · rw [if_neg c15] at H
                have c15b0 : decide (x8_1 < (t379.length : Int)) = false := decide_eq_false c15
                clear c15
                replace H := Option.bind_eq_some_iff.mp H
                obtain ⟨t389, A360, H⟩ := H
                replace H : ((impl_RowAfter.f k1 t371 (Int.tmod (rd t374 0) (t371.length : Int)) (Int.tmod (rd t374 1) (t371.length : Int))).bind fun t390 => (if t389 = true then ((impl_HeightOf.f k1 t371 (Int.tmod (rd t374 1) (t371.length : Int))).bind fun t393 => (if (t390.length : Int) = (wrap64 ((t379.length : Int) - t393)) then (laws_FnStands.j2 k1 t371 (Int.tmod (rd t374 0) (t371.length : Int)) (Int.tmod (rd t374 1) (t371.length : Int)) t379 t389 false) else (laws_FnStands.j2 k1 t371 (Int.tmod (rd t374 0) (t371.length : Int)) (Int.tmod (rd t374 1) (t371.length : Int)) t379 t389 true))) else (laws_FnStands.j2 k1 t371 (Int.tmod (rd t374 0) (t371.length : Int)) (Int.tmod (rd t374 1) (t371.length : Int)) t379 t389 (decide ((t390.length : Int) > 0))))) = some r := H
                have A36 := Aside0.mk A360
                clear A360
                replace H := Option.bind_eq_some_iff.mp H
                obtain ⟨t390, A370, H⟩ := H
                replace H : (if t389 = true then ((impl_HeightOf.f k1 t371 (Int.tmod (rd t374 1) (t371.length : Int))).bind fun t393 => (if (t390.length : Int) = (wrap64 ((t379.length : Int) - t393)) then (laws_FnStands.j2 k1 t371 (Int.tmod (rd t374 0) (t371.length : Int)) (Int.tmod (rd t374 1) (t371.length : Int)) t379 t389 false) else (laws_FnStands.j2 k1 t371 (Int.tmod (rd t374 0) (t371.length : Int)) (Int.tmod (rd t374 1) (t371.length : Int)) t379 t389 true))) else (laws_FnStands.j2 k1 t371 (Int.tmod (rd t374 0) (t371.length : Int)) (Int.tmod (rd t374 1) (t371.length : Int)) t379 t389 (decide ((t390.length : Int) > 0)))) = some r := H
                have A37 := Aside0.mk A370
                clear A370
                have HC38 := Aside0.mk H
                clear H
                obtain ⟨Ao39, co39, eo39, _⟩ := Kd.Q_slice HO_7.out
                subst eo39
                go_upto_region 18 with (first | ((with_reducible refine gate_callee (f := 9) rfl ?_); refine goesL_ (some 80) rfl rfl Try.func9 (by kernel_rfl) rfl #[.slice Ao13 t371.length co13, .int .i64 (Int.tmod (rd t374 0) (t371.length : Int)), .int .i64 (Int.tmod (rd t374 1) (t371.length : Int))] rfl (by (try simp only [List.map_toArray, List.map_cons, List.map_nil]); first | done | rfl | (simp only [List.length_drop, List.length_take]; rfl)) ?_; (with_reducible refine (impl_Extends.calls k1 _ _ t371 (Int.tmod (rd t374 0) (t371.length : Int)) (Int.tmod (rd t374 1) (t371.length : Int)) t389 _ ?side1 ?side2 A36.out).mono ?_); (case side1 => repeat (first | exact (Kd.N_reads' HO_3.out).2.2 | (with_reducible refine Kd.C_alloc ?_ _) | (with_reducible refine Kd.C_drewN ?_ _) | (with_reducible refine Kd.C_drew ?_))); (case side2 => exact (Kd.N_reads' HO_3.out).2.1); rintro e w40 ⟨rfl, hb⟩; refine ⟨_, rfl, ?_⟩; have n0_ := Aside0.mk (Kd.N_below (by (with_reducible repeat (first | apply Kd.N_alloc | apply Kd.N_drewN | apply Kd.N_drew)); exact HO_3.out) hb); have n1_ := Aside0.mk (Kd.Q_below (by (with_reducible repeat (first | apply Kd.Q_alloc | apply Kd.Q_drewN | apply Kd.Q_drew)); exact HO_7.out) hb); have n2_ := Aside0.mk (below_step (by repeat (first | (with_reducible first | exact HB.out | apply below_alloc | apply pw_below_drewN | apply below_drew1) | exact HB.out)) hb); clear HO_3; clear HO_7; clear HB; have HO_3 := n0_; have HO_7 := n1_; have HB := n2_; clear n0_ n1_ n2_; (try clear hb); (try clear hb2); (try clear hk); (try clear hi)) | ((with_reducible refine gate_callee (f := 11) rfl ?_); refine goesL_ (some 84) rfl rfl Try.func11 (by kernel_rfl) rfl #[.slice Ao13 t371.length co13, .int .i64 (Int.tmod (rd t374 0) (t371.length : Int)), .int .i64 (Int.tmod (rd t374 1) (t371.length : Int))] rfl (by (try simp only [List.map_toArray, List.map_cons, List.map_nil]); first | done | rfl | (simp only [List.length_drop, List.length_take]; rfl)) ?_; (with_reducible refine (impl_RowAfter.calls k1 _ _ t371 (Int.tmod (rd t374 0) (t371.length : Int)) (Int.tmod (rd t374 1) (t371.length : Int)) t390 _ ?side1 ?side2 A37.out).mono ?_); (case side1 => repeat (first | exact (Kd.N_reads' HO_3.out).2.2 | (with_reducible refine Kd.C_alloc ?_ _) | (with_reducible refine Kd.C_drewN ?_ _) | (with_reducible refine Kd.C_drew ?_))); (case side2 => exact (Kd.N_reads' HO_3.out).2.1); rintro e w41 ⟨v391, rfl, ho0, hb⟩; refine ⟨_, rfl, ?_⟩; have n0_ := Aside0.mk (Kd.N_elder' (by (with_reducible repeat (first | apply Kd.N_alloc | apply Kd.N_drewN | apply Kd.N_drew)); exact HO_3.out) (Kd.Q_base ho0) hb); have n1_ := Aside0.mk (Kd.Q_elder' (by (with_reducible repeat (first | apply Kd.Q_alloc | apply Kd.Q_drewN | apply Kd.Q_drew)); exact HO_7.out) (Kd.Q_base ho0) hb); have n2_ := Aside0.mk (Kd.Q_lower (Kd.Q_new' ho0 (Kd.Q_lt (by (with_reducible repeat (first | apply Kd.Q_alloc | apply Kd.Q_drewN | apply Kd.Q_drew)); exact HO_7.out))) (below_size (by repeat (first | (with_reducible first | exact HB.out | apply below_alloc | apply pw_below_drewN | apply below_drew1) | exact HB.out)))); have n3_ := Aside0.mk (below_step (by repeat (first | (with_reducible first | exact HB.out | apply below_alloc | apply pw_below_drewN | apply below_drew1) | exact HB.out)) hb); clear HO_3; clear HO_7; clear HB; have HO_3 := n0_; have HO_7 := n1_; have HO392 := n2_; have HB := n3_; clear n0_ n1_ n2_ n3_; (try clear hb); (try clear hb2); (try clear hk); (try clear hi); (try clear ho0)))
                (try simp only [Act.put, List.setIfInBounds_toArray, List.set_cons_zero, List.set_cons_succ])
                go_cut [105] (fun v105 wc => ∃ (kq : Nat) (x105_37 : Bool), v105 = .bool x105_37 ∧ Aside0 (laws_FnStands.j2 kq t371 (Int.tmod (rd t374 0) (t371.length : Int)) (Int.tmod (rd t374 1) (t371.length : Int)) t379 t389 x105_37 = some r) ∧ Aside0 (kq ≤ k1) ∧ Aside0 (Kd.N k33 33 wc w.heap.size (fun k_ => some k_ ≠ ((.slice Ao39 t379.length co39) : Value).ownBlock) (.slice Ao13 t371.length co13) t371) ∧ Aside0 (Kd.Q (Kd.int .i64) 3 wc w.heap.size (fun _ => True) (.slice Ao39 t379.length co39) t379) ∧ Aside0 (Below w.heap.size w wc))
                case first =>
                  have H := HC38.out
                  clear HC38
                  by_cases c42 : t389 = true
                  · subst c42
                    have H1 : ((impl_HeightOf.f k1 t371 (Int.tmod (rd t374 1) (t371.length : Int))).bind fun t393 => (if (t390.length : Int) = (wrap64 ((t379.length : Int) - t393)) then (laws_FnStands.j2 k1 t371 (Int.tmod (rd t374 0) (t371.length : Int)) (Int.tmod (rd t374 1) (t371.length : Int)) t379 true false) else (laws_FnStands.j2 k1 t371 (Int.tmod (rd t374 0) (t371.length : Int)) (Int.tmod (rd t374 1) (t371.length : Int)) t379 true true))) = some r := by rw [if_pos rfl] at H; exact H
                    clear H
                    have H := H1
                    clear H1
                    replace H := Option.bind_eq_some_iff.mp H
                    obtain ⟨t393, A430, H⟩ := H
                    replace H : (if (t390.length : Int) = (wrap64 ((t379.length : Int) - t393)) then (laws_FnStands.j2 k1 t371 (Int.tmod (rd t374 0) (t371.length : Int)) (Int.tmod (rd t374 1) (t371.length : Int)) t379 true false) else (laws_FnStands.j2 k1 t371 (Int.tmod (rd t374 0) (t371.length : Int)) (Int.tmod (rd t374 1) (t371.length : Int)) t379 true true)) = some r := H
                    have A43 := Aside0.mk A430
                    clear A430
                    by_cases c44 : (t390.length : Int) = (wrap64 ((t379.length : Int) - t393))
                    · rw [if_pos c44] at H
                      have c44b0 : ((t390.length : Int) == (wrap64 ((t379.length : Int) - t393))) = true := beq_iff_eq.mpr c44
                      have c44b1 : ((t390.length : Int) != (wrap64 ((t379.length : Int) - t393))) = false := bne_eq_false_iff_eq.mpr c44
                      clear c44
                      (first | rw [c44b0] | (simp only [i64_w, i32_w]; rw [c44b0]) | skip)
                      have H' := Aside0.mk H
                      clear H
                      obtain ⟨Ao45, co45, eo45, _⟩ := Kd.Q_slice HO392.out
                      subst eo45
                      go_wp2_with (first | (go_at_call 10; (with_reducible refine (impl_HeightOf.calls k1 _ _ t371 (Int.tmod (rd t374 1) (t371.length : Int)) t393 _ ?side1 ?side2 A43.out).mono ?_); (case side1 => repeat (first | exact (Kd.N_reads' HO_3.out).2.2 | (with_reducible refine Kd.C_alloc ?_ _) | (with_reducible refine Kd.C_drewN ?_ _) | (with_reducible refine Kd.C_drew ?_))); (case side2 => exact (Kd.N_reads' HO_3.out).2.1); rintro e w46 ⟨rfl, hb⟩; have n0_ := Aside0.mk (Kd.N_below (by (with_reducible repeat (first | apply Kd.N_alloc | apply Kd.N_drewN | apply Kd.N_drew)); exact HO_3.out) hb); have n1_ := Aside0.mk (Kd.Q_below (by (with_reducible repeat (first | apply Kd.Q_alloc | apply Kd.Q_drewN | apply Kd.Q_drew)); exact HO_7.out) hb); have n2_ := Aside0.mk (Kd.Q_below (by (with_reducible repeat (first | apply Kd.Q_alloc | apply Kd.Q_drewN | apply Kd.Q_drew)); exact HO392.out) hb); have n3_ := Aside0.mk (below_step (by repeat (first | (with_reducible first | exact HB.out | apply below_alloc | apply pw_below_drewN | apply below_drew1) | exact HB.out)) hb); clear HO_3; clear HO_7; clear HO392; clear HB; have HO_3 := n0_; have HO_7 := n1_; have HO392 := n2_; have HB := n3_; clear n0_ n1_ n2_ n3_; (try clear hb); (try clear hb2); (try clear hk); (try clear hi)))
                      go_meet
                      case rel => exact ⟨_, (false), (by first | rfl | (simp; done) | (simp [*]; done)), H', ⟨by have := HK1.out; first | omega | exact Nat.le_refl _⟩, ⟨by (with_reducible repeat (first | apply Kd.N_alloc | apply Kd.N_drewN | apply Kd.N_drew)); exact Kd.N_mono HO_3.out (fun _ hk => hk.1)⟩, ⟨by (with_reducible repeat (first | apply Kd.Q_alloc | apply Kd.Q_drewN | apply Kd.Q_drew)); exact Kd.Q_mono HO_7.out (fun _ hk => trivial)⟩, ⟨by repeat (first | (with_reducible first | exact HB.out | apply below_alloc | apply pw_below_drewN | apply below_drew1) | exact HB.out)⟩⟩
                    · rw [if_neg c44] at H
                      have c44b0 : ((t390.length : Int) == (wrap64 ((t379.length : Int) - t393))) = false := beq_eq_false_iff_ne.mpr c44
                      have c44b1 : ((t390.length : Int) != (wrap64 ((t379.length : Int) - t393))) = true := bne_iff_ne.mpr c44
                      (first | rw [c44b0] | (simp only [i64_w, i32_w]; rw [c44b0]) | skip)
                      have H' := Aside0.mk H
                      clear H
                      obtain ⟨Ao47, co47, eo47, _⟩ := Kd.Q_slice HO392.out
                      subst eo47
                      go_wp2_with (first | (go_at_call 10; (with_reducible refine (impl_HeightOf.calls k1 _ _ t371 (Int.tmod (rd t374 1) (t371.length : Int)) t393 _ ?side1 ?side2 A43.out).mono ?_); (case side1 => repeat (first | exact (Kd.N_reads' HO_3.out).2.2 | (with_reducible refine Kd.C_alloc ?_ _) | (with_reducible refine Kd.C_drewN ?_ _) | (with_reducible refine Kd.C_drew ?_))); (case side2 => exact (Kd.N_reads' HO_3.out).2.1); rintro e w48 ⟨rfl, hb⟩; have n0_ := Aside0.mk (Kd.N_below (by (with_reducible repeat (first | apply Kd.N_alloc | apply Kd.N_drewN | apply Kd.N_drew)); exact HO_3.out) hb); have n1_ := Aside0.mk (Kd.Q_below (by (with_reducible repeat (first | apply Kd.Q_alloc | apply Kd.Q_drewN | apply Kd.Q_drew)); exact HO_7.out) hb); have n2_ := Aside0.mk (Kd.Q_below (by (with_reducible repeat (first | apply Kd.Q_alloc | apply Kd.Q_drewN | apply Kd.Q_drew)); exact HO392.out) hb); have n3_ := Aside0.mk (below_step (by repeat (first | (with_reducible first | exact HB.out | apply below_alloc | apply pw_below_drewN | apply below_drew1) | exact HB.out)) hb); clear HO_3; clear HO_7; clear HO392; clear HB; have HO_3 := n0_; have HO_7 := n1_; have HO392 := n2_; have HB := n3_; clear n0_ n1_ n2_ n3_; (try clear hb); (try clear hb2); (try clear hk); (try clear hi)))
                      go_meet
                      case rel => exact ⟨_, (true), (by first | rfl | (simp; done) | (simp [*]; done)), H', ⟨by have := HK1.out; first | omega | exact Nat.le_refl _⟩, ⟨by (with_reducible repeat (first | apply Kd.N_alloc | apply Kd.N_drewN | apply Kd.N_drew)); exact Kd.N_mono HO_3.out (fun _ hk => hk.1)⟩, ⟨by (with_reducible repeat (first | apply Kd.Q_alloc | apply Kd.Q_drewN | apply Kd.Q_drew)); exact Kd.Q_mono HO_7.out (fun _ hk => trivial)⟩, ⟨by repeat (first | (with_reducible first | exact HB.out | apply below_alloc | apply pw_below_drewN | apply below_drew1) | exact HB.out)⟩⟩
                  · replace c42 := Bool.eq_false_iff.mpr c42
                    subst c42
                    have H1 : (laws_FnStands.j2 k1 t371 (Int.tmod (rd t374 0) (t371.length : Int)) (Int.tmod (rd t374 1) (t371.length : Int)) t379 false (decide ((t390.length : Int) > 0))) = some r := by rw [if_neg (show ¬ (false = true) by decide)] at H; exact H
                    clear H
                    have H := H1
                    clear H1
                    have H' := Aside0.mk H
                    clear H
                    obtain ⟨Ao49, co49, eo49, _⟩ := Kd.Q_slice HO392.out
                    subst eo49
                    go_wp2
                    go_meet
                    case rel => exact ⟨_, (decide ((t390.length : Int) > 0)), (by first | rfl | (simp; done) | (simp [*]; done)), H', ⟨by have := HK1.out; first | omega | exact Nat.le_refl _⟩, ⟨by (with_reducible repeat (first | apply Kd.N_alloc | apply Kd.N_drewN | apply Kd.N_drew)); exact Kd.N_mono HO_3.out (fun _ hk => hk.1)⟩, ⟨by (with_reducible repeat (first | apply Kd.Q_alloc | apply Kd.Q_drewN | apply Kd.Q_drew)); exact Kd.Q_mono HO_7.out (fun _ hk => trivial)⟩, ⟨by repeat (first | (with_reducible first | exact HB.out | apply below_alloc | apply pw_below_drewN | apply below_drew1) | exact HB.out)⟩⟩
                case rest =>
                  clear HC38
                  try clear c1
                  try clear c2
                  try clear p2
                  try clear c3
                  try clear p3
                  try clear q3
                  try clear hx3
                  try clear qi3
                  try clear c4
                  try clear c5
                  try clear c6
                  try clear c6b0
                  try clear c6b1
                  try clear p6
                  try clear c7
                  try clear c7b0
                  try clear c7b1
                  try clear c7b2
                  try clear c8
                  try clear c8b0
                  try clear c8b1
                  try clear c9
                  try clear c11
                  try clear c15
                  try clear c15b0
                  try clear c18
                  try clear c18b0
                  try clear c20
                  try clear c20b0
                  try clear c21
                  try clear c21b0
                  try clear c22
                  try clear c22b0
                  try clear c23
                  try clear c23b0
                  try clear c24
                  try clear c24b0
                  try clear c25
                  try clear c25b0
                  try clear c26
                  try clear c26b0
                  try clear c26b1
                  try clear c28
                  try clear c30
                  try clear c30b0
                  try clear c30b1
                  try clear p37
                  try clear q37
                  try clear hx37
                  try clear qi37
                  try clear c38
                  try clear p38
                  try clear q38
                  try clear hx38
                  try clear c42
                  try clear c44
                  try clear c44b0
                  try clear c44b1
                  try clear hx377_0
                  try clear hx378_0
                  try clear hx382_0
                  try clear hx383_0
                  try clear hx384_0
                  try clear hx384_1
                  try clear hx384_2
                  try clear hx384_3
                  try clear hx384_4
                  try clear hx384_5
                  try clear hx384_6
                  try clear hx385_0
                  try clear hx387_0
                  try clear p2
                  try clear p3
                  try clear p377
                  try clear p378
                  try clear p382
                  try clear p383
                  try clear p384
                  try clear p385
                  try clear p387
                  try clear p6
                  try clear q3
                  try clear q377
                  try clear q378
                  try clear q382
                  try clear q383
                  try clear q384
                  try clear q385
                  try clear q387
                  obtain ⟨kq, x105_37, rfl, HA, HJ37, HO_3, HO_7, HB⟩ := hcut
                  cases kq with
                  | zero => exact absurd HA.out (by simp [laws_FnStands.j2])
                  | succ kj37 =>
                    have H := HA.out
                    clear HA
                    simp only [laws_FnStands.j2] at H
                    by_cases c50 : x105_37 = true
                    · subst c50
                      have H1 : (some false) = some r := by rw [if_pos rfl] at H; exact H
                      clear H
                      have H := H1
                      clear H1
                      obtain rfl := Option.some.inj H
                      go_wp2
                      go_ret
                      exact ⟨by first | rfl | (simp [errW_none, errW_some] <;> rfl) | (simp [*, errW_none, errW_some] <;> rfl), by repeat (first | (with_reducible first | exact HB.out | apply below_alloc | apply pw_below_drewN | apply below_drew1) | exact HB.out)⟩
                    · replace c50 := Bool.eq_false_iff.mpr c50
                      subst c50
                      have H1 : ((impl_HeightOf.f kj37 t371 (Int.tmod (rd t374 0) (t371.length : Int))).bind fun t394 => (if (t379.length : Int) = t394 then ((impl_Clash.f kj37 t371 (Int.tmod (rd t374 0) (t371.length : Int)) (Int.tmod (rd t374 1) (t371.length : Int))).bind fun t395 => (if t389 = true then (if (t395 == false) = true then ((impl_Extends.f kj37 t371 (Int.tmod (rd t374 0) (t371.length : Int)) 0).bind fun t396 => (if t396 = true then (if (Int.tmod (rd t374 0) (t371.length : Int)) = (Int.tmod (rd t374 1) (t371.length : Int)) then (some (t389 == true)) else (if (Int.tmod (rd t374 1) (t371.length : Int)) = 0 then (some (t389 == true)) else ((laws_in.f kj37 t379 (Int.tmod (rd t374 1) (t371.length : Int))).bind fun t397 => (some (t389 == t397))))) else (some false))) else (some false)) else ((impl_Extends.f kj37 t371 (Int.tmod (rd t374 1) (t371.length : Int)) (Int.tmod (rd t374 0) (t371.length : Int))).bind fun t398 => (if (t395 == (!t398)) = true then ((impl_Extends.f kj37 t371 (Int.tmod (rd t374 0) (t371.length : Int)) 0).bind fun t399 => (if t399 = true then (if (Int.tmod (rd t374 0) (t371.length : Int)) = (Int.tmod (rd t374 1) (t371.length : Int)) then (some (t389 == true)) else (if (Int.tmod (rd t374 1) (t371.length : Int)) = 0 then (some (t389 == true)) else ((laws_in.f kj37 t379 (Int.tmod (rd t374 1) (t371.length : Int))).bind fun t400 => (some (t389 == t400))))) else (some false))) else (some false))))) else (some false))) = some r := by rw [if_neg (show ¬ (false = true) by decide)] at H; exact H
                      clear H
                      have H := H1
                      clear H1
                      replace H := Option.bind_eq_some_iff.mp H
                      obtain ⟨t394, A510, H⟩ := H
                      replace H : (if (t379.length : Int) = t394 then ((impl_Clash.f kj37 t371 (Int.tmod (rd t374 0) (t371.length : Int)) (Int.tmod (rd t374 1) (t371.length : Int))).bind fun t395 => (if t389 = true then (if (t395 == false) = true then ((impl_Extends.f kj37 t371 (Int.tmod (rd t374 0) (t371.length : Int)) 0).bind fun t396 => (if t396 = true then (if (Int.tmod (rd t374 0) (t371.length : Int)) = (Int.tmod (rd t374 1) (t371.length : Int)) then (some (t389 == true)) else (if (Int.tmod (rd t374 1) (t371.length : Int)) = 0 then (some (t389 == true)) else ((laws_in.f kj37 t379 (Int.tmod (rd t374 1) (t371.length : Int))).bind fun t397 => (some (t389 == t397))))) else (some false))) else (some false)) else ((impl_Extends.f kj37 t371 (Int.tmod (rd t374 1) (t371.length : Int)) (Int.tmod (rd t374 0) (t371.length : Int))).bind fun t398 => (if (t395 == (!t398)) = true then ((impl_Extends.f kj37 t371 (Int.tmod (rd t374 0) (t371.length : Int)) 0).bind fun t399 => (if t399 = true then (if (Int.tmod (rd t374 0) (t371.length : Int)) = (Int.tmod (rd t374 1) (t371.length : Int)) then (some (t389 == true)) else (if (Int.tmod (rd t374 1) (t371.length : Int)) = 0 then (some (t389 == true)) else ((laws_in.f kj37 t379 (Int.tmod (rd t374 1) (t371.length : Int))).bind fun t400 => (some (t389 == t400))))) else (some false))) else (some false))))) else (some false)) = some r := H
                      have A51 := Aside0.mk A510
                      clear A510
                      by_cases c52 : (t379.length : Int) = t394
                      · rw [if_pos c52] at H
                        have c52b0 : ((t379.length : Int) == t394) = true := beq_iff_eq.mpr c52
                        have c52b1 : ((t379.length : Int) != t394) = false := bne_eq_false_iff_eq.mpr c52
                        clear c52
                        replace H := Option.bind_eq_some_iff.mp H
                        obtain ⟨t395, A530, H⟩ := H
                        replace H : (if t389 = true then (if (t395 == false) = true then ((impl_Extends.f kj37 t371 (Int.tmod (rd t374 0) (t371.length : Int)) 0).bind fun t396 => (if t396 = true then (if (Int.tmod (rd t374 0) (t371.length : Int)) = (Int.tmod (rd t374 1) (t371.length : Int)) then (some (t389 == true)) else (if (Int.tmod (rd t374 1) (t371.length : Int)) = 0 then (some (t389 == true)) else ((laws_in.f kj37 t379 (Int.tmod (rd t374 1) (t371.length : Int))).bind fun t397 => (some (t389 == t397))))) else (some false))) else (some false)) else ((impl_Extends.f kj37 t371 (Int.tmod (rd t374 1) (t371.length : Int)) (Int.tmod (rd t374 0) (t371.length : Int))).bind fun t398 => (if (t395 == (!t398)) = true then ((impl_Extends.f kj37 t371 (Int.tmod (rd t374 0) (t371.length : Int)) 0).bind fun t399 => (if t399 = true then (if (Int.tmod (rd t374 0) (t371.length : Int)) = (Int.tmod (rd t374 1) (t371.length : Int)) then (some (t389 == true)) else (if (Int.tmod (rd t374 1) (t371.length : Int)) = 0 then (some (t389 == true)) else ((laws_in.f kj37 t379 (Int.tmod (rd t374 1) (t371.length : Int))).bind fun t400 => (some (t389 == t400))))) else (some false))) else (some false)))) = some r := H
                        have A53 := Aside0.mk A530
                        clear A530
                        by_cases c54 : t389 = true
                        · subst c54
                          have H1 : (if (t395 == false) = true then ((impl_Extends.f kj37 t371 (Int.tmod (rd t374 0) (t371.length : Int)) 0).bind fun t396 => (if t396 = true then (if (Int.tmod (rd t374 0) (t371.length : Int)) = (Int.tmod (rd t374 1) (t371.length : Int)) then (some (true == true)) else (if (Int.tmod (rd t374 1) (t371.length : Int)) = 0 then (some (true == true)) else ((laws_in.f kj37 t379 (Int.tmod (rd t374 1) (t371.length : Int))).bind fun t397 => (some (true == t397))))) else (some false))) else (some false)) = some r := by rw [if_pos rfl] at H; exact H
                          clear H
                          have H := H1
                          clear H1
                          by_cases c55 : (t395 == false) = true
                          · rw [if_pos c55] at H
                            have c55b0 : (t395 == false) = true := c55
                            (try (have c55b1 : decide (t395 = false) = true := by simpa using c55))
                            (try (have c55b2 : (t395 == false) = true := by simpa using c55))
                            clear c55
                            replace H := Option.bind_eq_some_iff.mp H
                            obtain ⟨t396, A560, H⟩ := H
                            replace H : (if t396 = true then (if (Int.tmod (rd t374 0) (t371.length : Int)) = (Int.tmod (rd t374 1) (t371.length : Int)) then (some (true == true)) else (if (Int.tmod (rd t374 1) (t371.length : Int)) = 0 then (some (true == true)) else ((laws_in.f kj37 t379 (Int.tmod (rd t374 1) (t371.length : Int))).bind fun t397 => (some (true == t397))))) else (some false)) = some r := H
                            have A56 := Aside0.mk A560
                            clear A560
                            by_cases c57 : t396 = true
                            · subst c57
                              have H1 : (if (Int.tmod (rd t374 0) (t371.length : Int)) = (Int.tmod (rd t374 1) (t371.length : Int)) then (some (true == true)) else (if (Int.tmod (rd t374 1) (t371.length : Int)) = 0 then (some (true == true)) else ((laws_in.f kj37 t379 (Int.tmod (rd t374 1) (t371.length : Int))).bind fun t397 => (some (true == t397))))) = some r := by rw [if_pos rfl] at H; exact H
                              clear H
                              have H := H1
                              clear H1
                              by_cases c58 : (Int.tmod (rd t374 0) (t371.length : Int)) = (Int.tmod (rd t374 1) (t371.length : Int))
                              · rw [if_pos c58] at H
                                have c58b0 : ((Int.tmod (rd t374 0) (t371.length : Int)) == (Int.tmod (rd t374 1) (t371.length : Int))) = true := beq_iff_eq.mpr c58
                                have c58b1 : ((Int.tmod (rd t374 0) (t371.length : Int)) != (Int.tmod (rd t374 1) (t371.length : Int))) = false := bne_eq_false_iff_eq.mpr c58
                                clear c58
                                obtain rfl := Option.some.inj H
                                go_wp2_with (first | ((with_reducible refine gate_callee (f := 10) rfl ?_); refine goesL_ (some 110) rfl rfl Try.func10 (by kernel_rfl) rfl #[.slice Ao13 t371.length co13, .int .i64 (Int.tmod (rd t374 0) (t371.length : Int))] rfl (by (try simp only [List.map_toArray, List.map_cons, List.map_nil]); first | done | rfl | (simp only [List.length_drop, List.length_take]; rfl)) ?_; (with_reducible refine (impl_HeightOf.calls kj37 _ _ t371 (Int.tmod (rd t374 0) (t371.length : Int)) t394 _ ?side1 ?side2 A51.out).mono ?_); (case side1 => repeat (first | exact (Kd.N_reads' HO_3.out).2.2 | (with_reducible refine Kd.C_alloc ?_ _) | (with_reducible refine Kd.C_drewN ?_ _) | (with_reducible refine Kd.C_drew ?_))); (case side2 => exact (Kd.N_reads' HO_3.out).2.1); rintro e w59 ⟨rfl, hb⟩; refine ⟨_, rfl, ?_⟩; have n0_ := Aside0.mk (Kd.N_below (by (with_reducible repeat (first | apply Kd.N_alloc | apply Kd.N_drewN | apply Kd.N_drew)); exact HO_3.out) hb); have n1_ := Aside0.mk (Kd.Q_below (by (with_reducible repeat (first | apply Kd.Q_alloc | apply Kd.Q_drewN | apply Kd.Q_drew)); exact HO_7.out) hb); have n2_ := Aside0.mk (below_step (by repeat (first | (with_reducible first | exact HB.out | apply below_alloc | apply pw_below_drewN | apply below_drew1) | exact HB.out)) hb); clear HO_3; clear HO_7; clear HB; have HO_3 := n0_; have HO_7 := n1_; have HB := n2_; clear n0_ n1_ n2_; (try clear hb); (try clear hb2); (try clear hk); (try clear hi)) | (go_at_call 12; (with_reducible refine (impl_Clash.calls kj37 _ _ t371 (Int.tmod (rd t374 0) (t371.length : Int)) (Int.tmod (rd t374 1) (t371.length : Int)) t395 _ ?side1 ?side2 A53.out).mono ?_); (case side1 => repeat (first | exact (Kd.N_reads' HO_3.out).2.2 | (with_reducible refine Kd.C_alloc ?_ _) | (with_reducible refine Kd.C_drewN ?_ _) | (with_reducible refine Kd.C_drew ?_))); (case side2 => exact (Kd.N_reads' HO_3.out).2.1); rintro e w60 ⟨rfl, hb⟩; have n0_ := Aside0.mk (Kd.N_below (by (with_reducible repeat (first | apply Kd.N_alloc | apply Kd.N_drewN | apply Kd.N_drew)); exact HO_3.out) hb); have n1_ := Aside0.mk (Kd.Q_below (by (with_reducible repeat (first | apply Kd.Q_alloc | apply Kd.Q_drewN | apply Kd.Q_drew)); exact HO_7.out) hb); have n2_ := Aside0.mk (below_step (by repeat (first | (with_reducible first | exact HB.out | apply below_alloc | apply pw_below_drewN | apply below_drew1) | exact HB.out)) hb); clear HO_3; clear HO_7; clear HB; have HO_3 := n0_; have HO_7 := n1_; have HB := n2_; clear n0_ n1_ n2_; (try clear hb); (try clear hb2); (try clear hk); (try clear hi)) | (go_at_call 9; (with_reducible refine (impl_Extends.calls kj37 _ _ t371 (Int.tmod (rd t374 0) (t371.length : Int)) 0 true _ ?side1 ?side2 A56.out).mono ?_); (case side1 => repeat (first | exact (Kd.N_reads' HO_3.out).2.2 | (with_reducible refine Kd.C_alloc ?_ _) | (with_reducible refine Kd.C_drewN ?_ _) | (with_reducible refine Kd.C_drew ?_))); (case side2 => exact (Kd.N_reads' HO_3.out).2.1); rintro e w61 ⟨rfl, hb⟩; have n0_ := Aside0.mk (Kd.N_below (by (with_reducible repeat (first | apply Kd.N_alloc | apply Kd.N_drewN | apply Kd.N_drew)); exact HO_3.out) hb); have n1_ := Aside0.mk (Kd.Q_below (by (with_reducible repeat (first | apply Kd.Q_alloc | apply Kd.Q_drewN | apply Kd.Q_drew)); exact HO_7.out) hb); have n2_ := Aside0.mk (below_step (by repeat (first | (with_reducible first | exact HB.out | apply below_alloc | apply pw_below_drewN | apply below_drew1) | exact HB.out)) hb); clear HO_3; clear HO_7; clear HB; have HO_3 := n0_; have HO_7 := n1_; have HB := n2_; clear n0_ n1_ n2_; (try clear hb); (try clear hb2); (try clear hk); (try clear hi)))
                                go_ret
                                exact ⟨by first | rfl | (simp [errW_none, errW_some] <;> rfl) | (simp [*, errW_none, errW_some] <;> rfl), by repeat (first | (with_reducible first | exact HB.out | apply below_alloc | apply pw_below_drewN | apply below_drew1) | exact HB.out)⟩
                              · rw [if_neg c58] at H
                                have c58b0 : ((Int.tmod (rd t374 0) (t371.length : Int)) == (Int.tmod (rd t374 1) (t371.length : Int))) = false := beq_eq_false_iff_ne.mpr c58
                                have c58b1 : ((Int.tmod (rd t374 0) (t371.length : Int)) != (Int.tmod (rd t374 1) (t371.length : Int))) = true := bne_iff_ne.mpr c58
                                by_cases c62 : (Int.tmod (rd t374 1) (t371.length : Int)) = 0
                                · rw [if_pos c62] at H
                                  have c62b0 : ((Int.tmod (rd t374 1) (t371.length : Int)) == 0) = true := beq_iff_eq.mpr c62
                                  have c62b1 : ((Int.tmod (rd t374 1) (t371.length : Int)) != 0) = false := bne_eq_false_iff_eq.mpr c62
                                  clear c62
                                  obtain rfl := Option.some.inj H
                                  go_wp2_with (first | ((with_reducible refine gate_callee (f := 10) rfl ?_); refine goesL_ (some 110) rfl rfl Try.func10 (by kernel_rfl) rfl #[.slice Ao13 t371.length co13, .int .i64 (Int.tmod (rd t374 0) (t371.length : Int))] rfl (by (try simp only [List.map_toArray, List.map_cons, List.map_nil]); first | done | rfl | (simp only [List.length_drop, List.length_take]; rfl)) ?_; (with_reducible refine (impl_HeightOf.calls kj37 _ _ t371 (Int.tmod (rd t374 0) (t371.length : Int)) t394 _ ?side1 ?side2 A51.out).mono ?_); (case side1 => repeat (first | exact (Kd.N_reads' HO_3.out).2.2 | (with_reducible refine Kd.C_alloc ?_ _) | (with_reducible refine Kd.C_drewN ?_ _) | (with_reducible refine Kd.C_drew ?_))); (case side2 => exact (Kd.N_reads' HO_3.out).2.1); rintro e w63 ⟨rfl, hb⟩; refine ⟨_, rfl, ?_⟩; have n0_ := Aside0.mk (Kd.N_below (by (with_reducible repeat (first | apply Kd.N_alloc | apply Kd.N_drewN | apply Kd.N_drew)); exact HO_3.out) hb); have n1_ := Aside0.mk (Kd.Q_below (by (with_reducible repeat (first | apply Kd.Q_alloc | apply Kd.Q_drewN | apply Kd.Q_drew)); exact HO_7.out) hb); have n2_ := Aside0.mk (below_step (by repeat (first | (with_reducible first | exact HB.out | apply below_alloc | apply pw_below_drewN | apply below_drew1) | exact HB.out)) hb); clear HO_3; clear HO_7; clear HB; have HO_3 := n0_; have HO_7 := n1_; have HB := n2_; clear n0_ n1_ n2_; (try clear hb); (try clear hb2); (try clear hk); (try clear hi)) | (go_at_call 12; (with_reducible refine (impl_Clash.calls kj37 _ _ t371 (Int.tmod (rd t374 0) (t371.length : Int)) (Int.tmod (rd t374 1) (t371.length : Int)) t395 _ ?side1 ?side2 A53.out).mono ?_); (case side1 => repeat (first | exact (Kd.N_reads' HO_3.out).2.2 | (with_reducible refine Kd.C_alloc ?_ _) | (with_reducible refine Kd.C_drewN ?_ _) | (with_reducible refine Kd.C_drew ?_))); (case side2 => exact (Kd.N_reads' HO_3.out).2.1); rintro e w64 ⟨rfl, hb⟩; have n0_ := Aside0.mk (Kd.N_below (by (with_reducible repeat (first | apply Kd.N_alloc | apply Kd.N_drewN | apply Kd.N_drew)); exact HO_3.out) hb); have n1_ := Aside0.mk (Kd.Q_below (by (with_reducible repeat (first | apply Kd.Q_alloc | apply Kd.Q_drewN | apply Kd.Q_drew)); exact HO_7.out) hb); have n2_ := Aside0.mk (below_step (by repeat (first | (with_reducible first | exact HB.out | apply below_alloc | apply pw_below_drewN | apply below_drew1) | exact HB.out)) hb); clear HO_3; clear HO_7; clear HB; have HO_3 := n0_; have HO_7 := n1_; have HB := n2_; clear n0_ n1_ n2_; (try clear hb); (try clear hb2); (try clear hk); (try clear hi)) | (go_at_call 9; (with_reducible refine (impl_Extends.calls kj37 _ _ t371 (Int.tmod (rd t374 0) (t371.length : Int)) 0 true _ ?side1 ?side2 A56.out).mono ?_); (case side1 => repeat (first | exact (Kd.N_reads' HO_3.out).2.2 | (with_reducible refine Kd.C_alloc ?_ _) | (with_reducible refine Kd.C_drewN ?_ _) | (with_reducible refine Kd.C_drew ?_))); (case side2 => exact (Kd.N_reads' HO_3.out).2.1); rintro e w65 ⟨rfl, hb⟩; have n0_ := Aside0.mk (Kd.N_below (by (with_reducible repeat (first | apply Kd.N_alloc | apply Kd.N_drewN | apply Kd.N_drew)); exact HO_3.out) hb); have n1_ := Aside0.mk (Kd.Q_below (by (with_reducible repeat (first | apply Kd.Q_alloc | apply Kd.Q_drewN | apply Kd.Q_drew)); exact HO_7.out) hb); have n2_ := Aside0.mk (below_step (by repeat (first | (with_reducible first | exact HB.out | apply below_alloc | apply pw_below_drewN | apply below_drew1) | exact HB.out)) hb); clear HO_3; clear HO_7; clear HB; have HO_3 := n0_; have HO_7 := n1_; have HB := n2_; clear n0_ n1_ n2_; (try clear hb); (try clear hb2); (try clear hk); (try clear hi)))
                                  go_ret
                                  exact ⟨by first | rfl | (simp [errW_none, errW_some] <;> rfl) | (simp [*, errW_none, errW_some] <;> rfl), by repeat (first | (with_reducible first | exact HB.out | apply below_alloc | apply pw_below_drewN | apply below_drew1) | exact HB.out)⟩
                                · rw [if_neg c62] at H
                                  have c62b0 : ((Int.tmod (rd t374 1) (t371.length : Int)) == 0) = false := beq_eq_false_iff_ne.mpr c62
                                  have c62b1 : ((Int.tmod (rd t374 1) (t371.length : Int)) != 0) = true := bne_iff_ne.mpr c62
                                  replace H := Option.bind_eq_some_iff.mp H
                                  obtain ⟨t397, A660, H⟩ := H
                                  replace H : (some (true == t397)) = some r := H
                                  have A66 := Aside0.mk A660
                                  clear A660
                                  obtain rfl := Option.some.inj H
                                  go_wp2_with (first | ((with_reducible refine gate_callee (f := 10) rfl ?_); refine goesL_ (some 110) rfl rfl Try.func10 (by kernel_rfl) rfl #[.slice Ao13 t371.length co13, .int .i64 (Int.tmod (rd t374 0) (t371.length : Int))] rfl (by (try simp only [List.map_toArray, List.map_cons, List.map_nil]); first | done | rfl | (simp only [List.length_drop, List.length_take]; rfl)) ?_; (with_reducible refine (impl_HeightOf.calls kj37 _ _ t371 (Int.tmod (rd t374 0) (t371.length : Int)) t394 _ ?side1 ?side2 A51.out).mono ?_); (case side1 => repeat (first | exact (Kd.N_reads' HO_3.out).2.2 | (with_reducible refine Kd.C_alloc ?_ _) | (with_reducible refine Kd.C_drewN ?_ _) | (with_reducible refine Kd.C_drew ?_))); (case side2 => exact (Kd.N_reads' HO_3.out).2.1); rintro e w67 ⟨rfl, hb⟩; refine ⟨_, rfl, ?_⟩; have n0_ := Aside0.mk (Kd.N_below (by (with_reducible repeat (first | apply Kd.N_alloc | apply Kd.N_drewN | apply Kd.N_drew)); exact HO_3.out) hb); have n1_ := Aside0.mk (Kd.Q_below (by (with_reducible repeat (first | apply Kd.Q_alloc | apply Kd.Q_drewN | apply Kd.Q_drew)); exact HO_7.out) hb); have n2_ := Aside0.mk (below_step (by repeat (first | (with_reducible first | exact HB.out | apply below_alloc | apply pw_below_drewN | apply below_drew1) | exact HB.out)) hb); clear HO_3; clear HO_7; clear HB; have HO_3 := n0_; have HO_7 := n1_; have HB := n2_; clear n0_ n1_ n2_; (try clear hb); (try clear hb2); (try clear hk); (try clear hi)) | (go_at_call 12; (with_reducible refine (impl_Clash.calls kj37 _ _ t371 (Int.tmod (rd t374 0) (t371.length : Int)) (Int.tmod (rd t374 1) (t371.length : Int)) t395 _ ?side1 ?side2 A53.out).mono ?_); (case side1 => repeat (first | exact (Kd.N_reads' HO_3.out).2.2 | (with_reducible refine Kd.C_alloc ?_ _) | (with_reducible refine Kd.C_drewN ?_ _) | (with_reducible refine Kd.C_drew ?_))); (case side2 => exact (Kd.N_reads' HO_3.out).2.1); rintro e w68 ⟨rfl, hb⟩; have n0_ := Aside0.mk (Kd.N_below (by (with_reducible repeat (first | apply Kd.N_alloc | apply Kd.N_drewN | apply Kd.N_drew)); exact HO_3.out) hb); have n1_ := Aside0.mk (Kd.Q_below (by (with_reducible repeat (first | apply Kd.Q_alloc | apply Kd.Q_drewN | apply Kd.Q_drew)); exact HO_7.out) hb); have n2_ := Aside0.mk (below_step (by repeat (first | (with_reducible first | exact HB.out | apply below_alloc | apply pw_below_drewN | apply below_drew1) | exact HB.out)) hb); clear HO_3; clear HO_7; clear HB; have HO_3 := n0_; have HO_7 := n1_; have HB := n2_; clear n0_ n1_ n2_; (try clear hb); (try clear hb2); (try clear hk); (try clear hi)) | (go_at_call 9; (with_reducible refine (impl_Extends.calls kj37 _ _ t371 (Int.tmod (rd t374 0) (t371.length : Int)) 0 true _ ?side1 ?side2 A56.out).mono ?_); (case side1 => repeat (first | exact (Kd.N_reads' HO_3.out).2.2 | (with_reducible refine Kd.C_alloc ?_ _) | (with_reducible refine Kd.C_drewN ?_ _) | (with_reducible refine Kd.C_drew ?_))); (case side2 => exact (Kd.N_reads' HO_3.out).2.1); rintro e w69 ⟨rfl, hb⟩; have n0_ := Aside0.mk (Kd.N_below (by (with_reducible repeat (first | apply Kd.N_alloc | apply Kd.N_drewN | apply Kd.N_drew)); exact HO_3.out) hb); have n1_ := Aside0.mk (Kd.Q_below (by (with_reducible repeat (first | apply Kd.Q_alloc | apply Kd.Q_drewN | apply Kd.Q_drew)); exact HO_7.out) hb); have n2_ := Aside0.mk (below_step (by repeat (first | (with_reducible first | exact HB.out | apply below_alloc | apply pw_below_drewN | apply below_drew1) | exact HB.out)) hb); clear HO_3; clear HO_7; clear HB; have HO_3 := n0_; have HO_7 := n1_; have HB := n2_; clear n0_ n1_ n2_; (try clear hb); (try clear hb2); (try clear hk); (try clear hi)) | (go_at_call 13; (with_reducible refine (laws_in.calls kj37 _ _ t379 (Int.tmod (rd t374 1) (t371.length : Int)) t397 _ ?side1 ?side2 A66.out).mono ?_); (case side1 => repeat (first | exact (Kd.Q_reads' HO_7.out).2.2 | (with_reducible refine Kd.C_alloc ?_ _) | (with_reducible refine Kd.C_drewN ?_ _) | (with_reducible refine Kd.C_drew ?_))); (case side2 => exact (Kd.Q_reads' HO_7.out).2.1); rintro e w' ⟨rfl, ⟨nd, rfl⟩⟩))
                                  go_ret
                                  exact ⟨by first | rfl | (simp [errW_none, errW_some] <;> rfl) | (simp [*, errW_none, errW_some] <;> rfl), by repeat (first | (with_reducible first | exact HB.out | apply below_alloc | apply pw_below_drewN | apply below_drew1) | exact HB.out)⟩
                            · replace c57 := Bool.eq_false_iff.mpr c57
                              subst c57
                              have H1 : (some false) = some r := by rw [if_neg (show ¬ (false = true) by decide)] at H; exact H
                              clear H
                              have H := H1
                              clear H1
                              obtain rfl := Option.some.inj H
                              go_wp2_with (first | ((with_reducible refine gate_callee (f := 10) rfl ?_); refine goesL_ (some 110) rfl rfl Try.func10 (by kernel_rfl) rfl #[.slice Ao13 t371.length co13, .int .i64 (Int.tmod (rd t374 0) (t371.length : Int))] rfl (by (try simp only [List.map_toArray, List.map_cons, List.map_nil]); first | done | rfl | (simp only [List.length_drop, List.length_take]; rfl)) ?_; (with_reducible refine (impl_HeightOf.calls kj37 _ _ t371 (Int.tmod (rd t374 0) (t371.length : Int)) t394 _ ?side1 ?side2 A51.out).mono ?_); (case side1 => repeat (first | exact (Kd.N_reads' HO_3.out).2.2 | (with_reducible refine Kd.C_alloc ?_ _) | (with_reducible refine Kd.C_drewN ?_ _) | (with_reducible refine Kd.C_drew ?_))); (case side2 => exact (Kd.N_reads' HO_3.out).2.1); rintro e w70 ⟨rfl, hb⟩; refine ⟨_, rfl, ?_⟩; have n0_ := Aside0.mk (Kd.N_below (by (with_reducible repeat (first | apply Kd.N_alloc | apply Kd.N_drewN | apply Kd.N_drew)); exact HO_3.out) hb); have n1_ := Aside0.mk (Kd.Q_below (by (with_reducible repeat (first | apply Kd.Q_alloc | apply Kd.Q_drewN | apply Kd.Q_drew)); exact HO_7.out) hb); have n2_ := Aside0.mk (below_step (by repeat (first | (with_reducible first | exact HB.out | apply below_alloc | apply pw_below_drewN | apply below_drew1) | exact HB.out)) hb); clear HO_3; clear HO_7; clear HB; have HO_3 := n0_; have HO_7 := n1_; have HB := n2_; clear n0_ n1_ n2_; (try clear hb); (try clear hb2); (try clear hk); (try clear hi)) | (go_at_call 12; (with_reducible refine (impl_Clash.calls kj37 _ _ t371 (Int.tmod (rd t374 0) (t371.length : Int)) (Int.tmod (rd t374 1) (t371.length : Int)) t395 _ ?side1 ?side2 A53.out).mono ?_); (case side1 => repeat (first | exact (Kd.N_reads' HO_3.out).2.2 | (with_reducible refine Kd.C_alloc ?_ _) | (with_reducible refine Kd.C_drewN ?_ _) | (with_reducible refine Kd.C_drew ?_))); (case side2 => exact (Kd.N_reads' HO_3.out).2.1); rintro e w71 ⟨rfl, hb⟩; have n0_ := Aside0.mk (Kd.N_below (by (with_reducible repeat (first | apply Kd.N_alloc | apply Kd.N_drewN | apply Kd.N_drew)); exact HO_3.out) hb); have n1_ := Aside0.mk (Kd.Q_below (by (with_reducible repeat (first | apply Kd.Q_alloc | apply Kd.Q_drewN | apply Kd.Q_drew)); exact HO_7.out) hb); have n2_ := Aside0.mk (below_step (by repeat (first | (with_reducible first | exact HB.out | apply below_alloc | apply pw_below_drewN | apply below_drew1) | exact HB.out)) hb); clear HO_3; clear HO_7; clear HB; have HO_3 := n0_; have HO_7 := n1_; have HB := n2_; clear n0_ n1_ n2_; (try clear hb); (try clear hb2); (try clear hk); (try clear hi)) | (go_at_call 9; (with_reducible refine (impl_Extends.calls kj37 _ _ t371 (Int.tmod (rd t374 0) (t371.length : Int)) 0 false _ ?side1 ?side2 A56.out).mono ?_); (case side1 => repeat (first | exact (Kd.N_reads' HO_3.out).2.2 | (with_reducible refine Kd.C_alloc ?_ _) | (with_reducible refine Kd.C_drewN ?_ _) | (with_reducible refine Kd.C_drew ?_))); (case side2 => exact (Kd.N_reads' HO_3.out).2.1); rintro e w72 ⟨rfl, hb⟩; have n0_ := Aside0.mk (Kd.N_below (by (with_reducible repeat (first | apply Kd.N_alloc | apply Kd.N_drewN | apply Kd.N_drew)); exact HO_3.out) hb); have n1_ := Aside0.mk (Kd.Q_below (by (with_reducible repeat (first | apply Kd.Q_alloc | apply Kd.Q_drewN | apply Kd.Q_drew)); exact HO_7.out) hb); have n2_ := Aside0.mk (below_step (by repeat (first | (with_reducible first | exact HB.out | apply below_alloc | apply pw_below_drewN | apply below_drew1) | exact HB.out)) hb); clear HO_3; clear HO_7; clear HB; have HO_3 := n0_; have HO_7 := n1_; have HB := n2_; clear n0_ n1_ n2_; (try clear hb); (try clear hb2); (try clear hk); (try clear hi)))
                              go_ret
                              exact ⟨by first | rfl | (simp [errW_none, errW_some] <;> rfl) | (simp [*, errW_none, errW_some] <;> rfl), by repeat (first | (with_reducible first | exact HB.out | apply below_alloc | apply pw_below_drewN | apply below_drew1) | exact HB.out)⟩
                          · rw [if_neg c55] at H
                            have c55b0 : (t395 == false) = false := by simpa using c55
                            (try (have c55b1 : decide (t395 = false) = false := by simpa using c55))
                            (try (have c55b2 : (t395 == false) = false := by simpa using c55))
                            (try (have c55b3 : ¬ (t395 = false) := by simpa using c55))
                            clear c55
                            obtain rfl := Option.some.inj H
                            go_wp2_with (first | ((with_reducible refine gate_callee (f := 10) rfl ?_); refine goesL_ (some 110) rfl rfl Try.func10 (by kernel_rfl) rfl #[.slice Ao13 t371.length co13, .int .i64 (Int.tmod (rd t374 0) (t371.length : Int))] rfl (by (try simp only [List.map_toArray, List.map_cons, List.map_nil]); first | done | rfl | (simp only [List.length_drop, List.length_take]; rfl)) ?_; (with_reducible refine (impl_HeightOf.calls kj37 _ _ t371 (Int.tmod (rd t374 0) (t371.length : Int)) t394 _ ?side1 ?side2 A51.out).mono ?_); (case side1 => repeat (first | exact (Kd.N_reads' HO_3.out).2.2 | (with_reducible refine Kd.C_alloc ?_ _) | (with_reducible refine Kd.C_drewN ?_ _) | (with_reducible refine Kd.C_drew ?_))); (case side2 => exact (Kd.N_reads' HO_3.out).2.1); rintro e w73 ⟨rfl, hb⟩; refine ⟨_, rfl, ?_⟩; have n0_ := Aside0.mk (Kd.N_below (by (with_reducible repeat (first | apply Kd.N_alloc | apply Kd.N_drewN | apply Kd.N_drew)); exact HO_3.out) hb); have n1_ := Aside0.mk (Kd.Q_below (by (with_reducible repeat (first | apply Kd.Q_alloc | apply Kd.Q_drewN | apply Kd.Q_drew)); exact HO_7.out) hb); have n2_ := Aside0.mk (below_step (by repeat (first | (with_reducible first | exact HB.out | apply below_alloc | apply pw_below_drewN | apply below_drew1) | exact HB.out)) hb); clear HO_3; clear HO_7; clear HB; have HO_3 := n0_; have HO_7 := n1_; have HB := n2_; clear n0_ n1_ n2_; (try clear hb); (try clear hb2); (try clear hk); (try clear hi)) | (go_at_call 12; (with_reducible refine (impl_Clash.calls kj37 _ _ t371 (Int.tmod (rd t374 0) (t371.length : Int)) (Int.tmod (rd t374 1) (t371.length : Int)) t395 _ ?side1 ?side2 A53.out).mono ?_); (case side1 => repeat (first | exact (Kd.N_reads' HO_3.out).2.2 | (with_reducible refine Kd.C_alloc ?_ _) | (with_reducible refine Kd.C_drewN ?_ _) | (with_reducible refine Kd.C_drew ?_))); (case side2 => exact (Kd.N_reads' HO_3.out).2.1); rintro e w74 ⟨rfl, hb⟩; have n0_ := Aside0.mk (Kd.N_below (by (with_reducible repeat (first | apply Kd.N_alloc | apply Kd.N_drewN | apply Kd.N_drew)); exact HO_3.out) hb); have n1_ := Aside0.mk (Kd.Q_below (by (with_reducible repeat (first | apply Kd.Q_alloc | apply Kd.Q_drewN | apply Kd.Q_drew)); exact HO_7.out) hb); have n2_ := Aside0.mk (below_step (by repeat (first | (with_reducible first | exact HB.out | apply below_alloc | apply pw_below_drewN | apply below_drew1) | exact HB.out)) hb); clear HO_3; clear HO_7; clear HB; have HO_3 := n0_; have HO_7 := n1_; have HB := n2_; clear n0_ n1_ n2_; (try clear hb); (try clear hb2); (try clear hk); (try clear hi)))
                            go_ret
                            exact ⟨by first | rfl | (simp [errW_none, errW_some] <;> rfl) | (simp [*, errW_none, errW_some] <;> rfl), by repeat (first | (with_reducible first | exact HB.out | apply below_alloc | apply pw_below_drewN | apply below_drew1) | exact HB.out)⟩
                        · replace c54 := Bool.eq_false_iff.mpr c54
                          subst c54
                          have H1 : ((impl_Extends.f kj37 t371 (Int.tmod (rd t374 1) (t371.length : Int)) (Int.tmod (rd t374 0) (t371.length : Int))).bind fun t398 => (if (t395 == (!t398)) = true then ((impl_Extends.f kj37 t371 (Int.tmod (rd t374 0) (t371.length : Int)) 0).bind fun t399 => (if t399 = true then (if (Int.tmod (rd t374 0) (t371.length : Int)) = (Int.tmod (rd t374 1) (t371.length : Int)) then (some (false == true)) else (if (Int.tmod (rd t374 1) (t371.length : Int)) = 0 then (some (false == true)) else ((laws_in.f kj37 t379 (Int.tmod (rd t374 1) (t371.length : Int))).bind fun t400 => (some (false == t400))))) else (some false))) else (some false))) = some r := by rw [if_neg (show ¬ (false = true) by decide)] at H; exact H
                          clear H
                          have H := H1
                          clear H1
                          replace H := Option.bind_eq_some_iff.mp H
                          obtain ⟨t398, A750, H⟩ := H
                          replace H : (if (t395 == (!t398)) = true then ((impl_Extends.f kj37 t371 (Int.tmod (rd t374 0) (t371.length : Int)) 0).bind fun t399 => (if t399 = true then (if (Int.tmod (rd t374 0) (t371.length : Int)) = (Int.tmod (rd t374 1) (t371.length : Int)) then (some (false == true)) else (if (Int.tmod (rd t374 1) (t371.length : Int)) = 0 then (some (false == true)) else ((laws_in.f kj37 t379 (Int.tmod (rd t374 1) (t371.length : Int))).bind fun t400 => (some (false == t400))))) else (some false))) else (some false)) = some r := H
                          have A75 := Aside0.mk A750
                          clear A750
                          by_cases c76 : (t395 == (!t398)) = true
                          · rw [if_pos c76] at H
                            have c76b0 : (t395 == (!t398)) = true := c76
                            (try (have c76b1 : decide (t395 = (!t398)) = true := by simpa using c76))
                            (try (have c76b2 : (t395 == (!t398)) = true := by simpa using c76))
                            clear c76
                            replace H := Option.bind_eq_some_iff.mp H
                            obtain ⟨t399, A770, H⟩ := H
                            replace H : (if t399 = true then (if (Int.tmod (rd t374 0) (t371.length : Int)) = (Int.tmod (rd t374 1) (t371.length : Int)) then (some (false == true)) else (if (Int.tmod (rd t374 1) (t371.length : Int)) = 0 then (some (false == true)) else ((laws_in.f kj37 t379 (Int.tmod (rd t374 1) (t371.length : Int))).bind fun t400 => (some (false == t400))))) else (some false)) = some r := H
                            have A77 := Aside0.mk A770
                            clear A770
                            by_cases c78 : t399 = true
                            · subst c78
                              have H1 : (if (Int.tmod (rd t374 0) (t371.length : Int)) = (Int.tmod (rd t374 1) (t371.length : Int)) then (some (false == true)) else (if (Int.tmod (rd t374 1) (t371.length : Int)) = 0 then (some (false == true)) else ((laws_in.f kj37 t379 (Int.tmod (rd t374 1) (t371.length : Int))).bind fun t400 => (some (false == t400))))) = some r := by rw [if_pos rfl] at H; exact H
                              clear H
                              have H := H1
                              clear H1
                              by_cases c79 : (Int.tmod (rd t374 0) (t371.length : Int)) = (Int.tmod (rd t374 1) (t371.length : Int))
                              · rw [if_pos c79] at H
                                have c79b0 : ((Int.tmod (rd t374 0) (t371.length : Int)) == (Int.tmod (rd t374 1) (t371.length : Int))) = true := beq_iff_eq.mpr c79
                                have c79b1 : ((Int.tmod (rd t374 0) (t371.length : Int)) != (Int.tmod (rd t374 1) (t371.length : Int))) = false := bne_eq_false_iff_eq.mpr c79
                                clear c79
                                obtain rfl := Option.some.inj H
                                go_wp2_with (first | ((with_reducible refine gate_callee (f := 10) rfl ?_); refine goesL_ (some 110) rfl rfl Try.func10 (by kernel_rfl) rfl #[.slice Ao13 t371.length co13, .int .i64 (Int.tmod (rd t374 0) (t371.length : Int))] rfl (by (try simp only [List.map_toArray, List.map_cons, List.map_nil]); first | done | rfl | (simp only [List.length_drop, List.length_take]; rfl)) ?_; (with_reducible refine (impl_HeightOf.calls kj37 _ _ t371 (Int.tmod (rd t374 0) (t371.length : Int)) t394 _ ?side1 ?side2 A51.out).mono ?_); (case side1 => repeat (first | exact (Kd.N_reads' HO_3.out).2.2 | (with_reducible refine Kd.C_alloc ?_ _) | (with_reducible refine Kd.C_drewN ?_ _) | (with_reducible refine Kd.C_drew ?_))); (case side2 => exact (Kd.N_reads' HO_3.out).2.1); rintro e w80 ⟨rfl, hb⟩; refine ⟨_, rfl, ?_⟩; have n0_ := Aside0.mk (Kd.N_below (by (with_reducible repeat (first | apply Kd.N_alloc | apply Kd.N_drewN | apply Kd.N_drew)); exact HO_3.out) hb); have n1_ := Aside0.mk (Kd.Q_below (by (with_reducible repeat (first | apply Kd.Q_alloc | apply Kd.Q_drewN | apply Kd.Q_drew)); exact HO_7.out) hb); have n2_ := Aside0.mk (below_step (by repeat (first | (with_reducible first | exact HB.out | apply below_alloc | apply pw_below_drewN | apply below_drew1) | exact HB.out)) hb); clear HO_3; clear HO_7; clear HB; have HO_3 := n0_; have HO_7 := n1_; have HB := n2_; clear n0_ n1_ n2_; (try clear hb); (try clear hb2); (try clear hk); (try clear hi)) | (go_at_call 12; (with_reducible refine (impl_Clash.calls kj37 _ _ t371 (Int.tmod (rd t374 0) (t371.length : Int)) (Int.tmod (rd t374 1) (t371.length : Int)) t395 _ ?side1 ?side2 A53.out).mono ?_); (case side1 => repeat (first | exact (Kd.N_reads' HO_3.out).2.2 | (with_reducible refine Kd.C_alloc ?_ _) | (with_reducible refine Kd.C_drewN ?_ _) | (with_reducible refine Kd.C_drew ?_))); (case side2 => exact (Kd.N_reads' HO_3.out).2.1); rintro e w81 ⟨rfl, hb⟩; have n0_ := Aside0.mk (Kd.N_below (by (with_reducible repeat (first | apply Kd.N_alloc | apply Kd.N_drewN | apply Kd.N_drew)); exact HO_3.out) hb); have n1_ := Aside0.mk (Kd.Q_below (by (with_reducible repeat (first | apply Kd.Q_alloc | apply Kd.Q_drewN | apply Kd.Q_drew)); exact HO_7.out) hb); have n2_ := Aside0.mk (below_step (by repeat (first | (with_reducible first | exact HB.out | apply below_alloc | apply pw_below_drewN | apply below_drew1) | exact HB.out)) hb); clear HO_3; clear HO_7; clear HB; have HO_3 := n0_; have HO_7 := n1_; have HB := n2_; clear n0_ n1_ n2_; (try clear hb); (try clear hb2); (try clear hk); (try clear hi)) | (go_at_call 9; (with_reducible refine (impl_Extends.calls kj37 _ _ t371 (Int.tmod (rd t374 1) (t371.length : Int)) (Int.tmod (rd t374 0) (t371.length : Int)) t398 _ ?side1 ?side2 A75.out).mono ?_); (case side1 => repeat (first | exact (Kd.N_reads' HO_3.out).2.2 | (with_reducible refine Kd.C_alloc ?_ _) | (with_reducible refine Kd.C_drewN ?_ _) | (with_reducible refine Kd.C_drew ?_))); (case side2 => exact (Kd.N_reads' HO_3.out).2.1); rintro e w82 ⟨rfl, hb⟩; have n0_ := Aside0.mk (Kd.N_below (by (with_reducible repeat (first | apply Kd.N_alloc | apply Kd.N_drewN | apply Kd.N_drew)); exact HO_3.out) hb); have n1_ := Aside0.mk (Kd.Q_below (by (with_reducible repeat (first | apply Kd.Q_alloc | apply Kd.Q_drewN | apply Kd.Q_drew)); exact HO_7.out) hb); have n2_ := Aside0.mk (below_step (by repeat (first | (with_reducible first | exact HB.out | apply below_alloc | apply pw_below_drewN | apply below_drew1) | exact HB.out)) hb); clear HO_3; clear HO_7; clear HB; have HO_3 := n0_; have HO_7 := n1_; have HB := n2_; clear n0_ n1_ n2_; (try clear hb); (try clear hb2); (try clear hk); (try clear hi)) | (go_at_call 9; (with_reducible refine (impl_Extends.calls kj37 _ _ t371 (Int.tmod (rd t374 0) (t371.length : Int)) 0 true _ ?side1 ?side2 A77.out).mono ?_); (case side1 => repeat (first | exact (Kd.N_reads' HO_3.out).2.2 | (with_reducible refine Kd.C_alloc ?_ _) | (with_reducible refine Kd.C_drewN ?_ _) | (with_reducible refine Kd.C_drew ?_))); (case side2 => exact (Kd.N_reads' HO_3.out).2.1); rintro e w83 ⟨rfl, hb⟩; have n0_ := Aside0.mk (Kd.N_below (by (with_reducible repeat (first | apply Kd.N_alloc | apply Kd.N_drewN | apply Kd.N_drew)); exact HO_3.out) hb); have n1_ := Aside0.mk (Kd.Q_below (by (with_reducible repeat (first | apply Kd.Q_alloc | apply Kd.Q_drewN | apply Kd.Q_drew)); exact HO_7.out) hb); have n2_ := Aside0.mk (below_step (by repeat (first | (with_reducible first | exact HB.out | apply below_alloc | apply pw_below_drewN | apply below_drew1) | exact HB.out)) hb); clear HO_3; clear HO_7; clear HB; have HO_3 := n0_; have HO_7 := n1_; have HB := n2_; clear n0_ n1_ n2_; (try clear hb); (try clear hb2); (try clear hk); (try clear hi)))
                                go_ret
                                exact ⟨by first | rfl | (simp [errW_none, errW_some] <;> rfl) | (simp [*, errW_none, errW_some] <;> rfl), by repeat (first | (with_reducible first | exact HB.out | apply below_alloc | apply pw_below_drewN | apply below_drew1) | exact HB.out)⟩
                              · rw [if_neg c79] at H
                                have c79b0 : ((Int.tmod (rd t374 0) (t371.length : Int)) == (Int.tmod (rd t374 1) (t371.length : Int))) = false := beq_eq_false_iff_ne.mpr c79
                                have c79b1 : ((Int.tmod (rd t374 0) (t371.length : Int)) != (Int.tmod (rd t374 1) (t371.length : Int))) = true := bne_iff_ne.mpr c79
                                by_cases c84 : (Int.tmod (rd t374 1) (t371.length : Int)) = 0
                                · rw [if_pos c84] at H
                                  have c84b0 : ((Int.tmod (rd t374 1) (t371.length : Int)) == 0) = true := beq_iff_eq.mpr c84
                                  have c84b1 : ((Int.tmod (rd t374 1) (t371.length : Int)) != 0) = false := bne_eq_false_iff_eq.mpr c84
                                  clear c84
                                  obtain rfl := Option.some.inj H
                                  go_wp2_with (first | ((with_reducible refine gate_callee (f := 10) rfl ?_); refine goesL_ (some 110) rfl rfl Try.func10 (by kernel_rfl) rfl #[.slice Ao13 t371.length co13, .int .i64 (Int.tmod (rd t374 0) (t371.length : Int))] rfl (by (try simp only [List.map_toArray, List.map_cons, List.map_nil]); first | done | rfl | (simp only [List.length_drop, List.length_take]; rfl)) ?_; (with_reducible refine (impl_HeightOf.calls kj37 _ _ t371 (Int.tmod (rd t374 0) (t371.length : Int)) t394 _ ?side1 ?side2 A51.out).mono ?_); (case side1 => repeat (first | exact (Kd.N_reads' HO_3.out).2.2 | (with_reducible refine Kd.C_alloc ?_ _) | (with_reducible refine Kd.C_drewN ?_ _) | (with_reducible refine Kd.C_drew ?_))); (case side2 => exact (Kd.N_reads' HO_3.out).2.1); rintro e w85 ⟨rfl, hb⟩; refine ⟨_, rfl, ?_⟩; have n0_ := Aside0.mk (Kd.N_below (by (with_reducible repeat (first | apply Kd.N_alloc | apply Kd.N_drewN | apply Kd.N_drew)); exact HO_3.out) hb); have n1_ := Aside0.mk (Kd.Q_below (by (with_reducible repeat (first | apply Kd.Q_alloc | apply Kd.Q_drewN | apply Kd.Q_drew)); exact HO_7.out) hb); have n2_ := Aside0.mk (below_step (by repeat (first | (with_reducible first | exact HB.out | apply below_alloc | apply pw_below_drewN | apply below_drew1) | exact HB.out)) hb); clear HO_3; clear HO_7; clear HB; have HO_3 := n0_; have HO_7 := n1_; have HB := n2_; clear n0_ n1_ n2_; (try clear hb); (try clear hb2); (try clear hk); (try clear hi)) | (go_at_call 12; (with_reducible refine (impl_Clash.calls kj37 _ _ t371 (Int.tmod (rd t374 0) (t371.length : Int)) (Int.tmod (rd t374 1) (t371.length : Int)) t395 _ ?side1 ?side2 A53.out).mono ?_); (case side1 => repeat (first | exact (Kd.N_reads' HO_3.out).2.2 | (with_reducible refine Kd.C_alloc ?_ _) | (with_reducible refine Kd.C_drewN ?_ _) | (with_reducible refine Kd.C_drew ?_))); (case side2 => exact (Kd.N_reads' HO_3.out).2.1); rintro e w86 ⟨rfl, hb⟩; have n0_ := Aside0.mk (Kd.N_below (by (with_reducible repeat (first | apply Kd.N_alloc | apply Kd.N_drewN | apply Kd.N_drew)); exact HO_3.out) hb); have n1_ := Aside0.mk (Kd.Q_below (by (with_reducible repeat (first | apply Kd.Q_alloc | apply Kd.Q_drewN | apply Kd.Q_drew)); exact HO_7.out) hb); have n2_ := Aside0.mk (below_step (by repeat (first | (with_reducible first | exact HB.out | apply below_alloc | apply pw_below_drewN | apply below_drew1) | exact HB.out)) hb); clear HO_3; clear HO_7; clear HB; have HO_3 := n0_; have HO_7 := n1_; have HB := n2_; clear n0_ n1_ n2_; (try clear hb); (try clear hb2); (try clear hk); (try clear hi)) | (go_at_call 9; (with_reducible refine (impl_Extends.calls kj37 _ _ t371 (Int.tmod (rd t374 1) (t371.length : Int)) (Int.tmod (rd t374 0) (t371.length : Int)) t398 _ ?side1 ?side2 A75.out).mono ?_); (case side1 => repeat (first | exact (Kd.N_reads' HO_3.out).2.2 | (with_reducible refine Kd.C_alloc ?_ _) | (with_reducible refine Kd.C_drewN ?_ _) | (with_reducible refine Kd.C_drew ?_))); (case side2 => exact (Kd.N_reads' HO_3.out).2.1); rintro e w87 ⟨rfl, hb⟩; have n0_ := Aside0.mk (Kd.N_below (by (with_reducible repeat (first | apply Kd.N_alloc | apply Kd.N_drewN | apply Kd.N_drew)); exact HO_3.out) hb); have n1_ := Aside0.mk (Kd.Q_below (by (with_reducible repeat (first | apply Kd.Q_alloc | apply Kd.Q_drewN | apply Kd.Q_drew)); exact HO_7.out) hb); have n2_ := Aside0.mk (below_step (by repeat (first | (with_reducible first | exact HB.out | apply below_alloc | apply pw_below_drewN | apply below_drew1) | exact HB.out)) hb); clear HO_3; clear HO_7; clear HB; have HO_3 := n0_; have HO_7 := n1_; have HB := n2_; clear n0_ n1_ n2_; (try clear hb); (try clear hb2); (try clear hk); (try clear hi)) | (go_at_call 9; (with_reducible refine (impl_Extends.calls kj37 _ _ t371 (Int.tmod (rd t374 0) (t371.length : Int)) 0 true _ ?side1 ?side2 A77.out).mono ?_); (case side1 => repeat (first | exact (Kd.N_reads' HO_3.out).2.2 | (with_reducible refine Kd.C_alloc ?_ _) | (with_reducible refine Kd.C_drewN ?_ _) | (with_reducible refine Kd.C_drew ?_))); (case side2 => exact (Kd.N_reads' HO_3.out).2.1); rintro e w88 ⟨rfl, hb⟩; have n0_ := Aside0.mk (Kd.N_below (by (with_reducible repeat (first | apply Kd.N_alloc | apply Kd.N_drewN | apply Kd.N_drew)); exact HO_3.out) hb); have n1_ := Aside0.mk (Kd.Q_below (by (with_reducible repeat (first | apply Kd.Q_alloc | apply Kd.Q_drewN | apply Kd.Q_drew)); exact HO_7.out) hb); have n2_ := Aside0.mk (below_step (by repeat (first | (with_reducible first | exact HB.out | apply below_alloc | apply pw_below_drewN | apply below_drew1) | exact HB.out)) hb); clear HO_3; clear HO_7; clear HB; have HO_3 := n0_; have HO_7 := n1_; have HB := n2_; clear n0_ n1_ n2_; (try clear hb); (try clear hb2); (try clear hk); (try clear hi)))
                                  go_ret
                                  exact ⟨by first | rfl | (simp [errW_none, errW_some] <;> rfl) | (simp [*, errW_none, errW_some] <;> rfl), by repeat (first | (with_reducible first | exact HB.out | apply below_alloc | apply pw_below_drewN | apply below_drew1) | exact HB.out)⟩
                                · rw [if_neg c84] at H
                                  have c84b0 : ((Int.tmod (rd t374 1) (t371.length : Int)) == 0) = false := beq_eq_false_iff_ne.mpr c84
                                  have c84b1 : ((Int.tmod (rd t374 1) (t371.length : Int)) != 0) = true := bne_iff_ne.mpr c84
                                  replace H := Option.bind_eq_some_iff.mp H
                                  obtain ⟨t400, A890, H⟩ := H
                                  replace H : (some (false == t400)) = some r := H
                                  have A89 := Aside0.mk A890
                                  clear A890
                                  obtain rfl := Option.some.inj H
                                  go_wp2_with (first | ((with_reducible refine gate_callee (f := 10) rfl ?_); refine goesL_ (some 110) rfl rfl Try.func10 (by kernel_rfl) rfl #[.slice Ao13 t371.length co13, .int .i64 (Int.tmod (rd t374 0) (t371.length : Int))] rfl (by (try simp only [List.map_toArray, List.map_cons, List.map_nil]); first | done | rfl | (simp only [List.length_drop, List.length_take]; rfl)) ?_; (with_reducible refine (impl_HeightOf.calls kj37 _ _ t371 (Int.tmod (rd t374 0) (t371.length : Int)) t394 _ ?side1 ?side2 A51.out).mono ?_); (case side1 => repeat (first | exact (Kd.N_reads' HO_3.out).2.2 | (with_reducible refine Kd.C_alloc ?_ _) | (with_reducible refine Kd.C_drewN ?_ _) | (with_reducible refine Kd.C_drew ?_))); (case side2 => exact (Kd.N_reads' HO_3.out).2.1); rintro e w90 ⟨rfl, hb⟩; refine ⟨_, rfl, ?_⟩; have n0_ := Aside0.mk (Kd.N_below (by (with_reducible repeat (first | apply Kd.N_alloc | apply Kd.N_drewN | apply Kd.N_drew)); exact HO_3.out) hb); have n1_ := Aside0.mk (Kd.Q_below (by (with_reducible repeat (first | apply Kd.Q_alloc | apply Kd.Q_drewN | apply Kd.Q_drew)); exact HO_7.out) hb); have n2_ := Aside0.mk (below_step (by repeat (first | (with_reducible first | exact HB.out | apply below_alloc | apply pw_below_drewN | apply below_drew1) | exact HB.out)) hb); clear HO_3; clear HO_7; clear HB; have HO_3 := n0_; have HO_7 := n1_; have HB := n2_; clear n0_ n1_ n2_; (try clear hb); (try clear hb2); (try clear hk); (try clear hi)) | (go_at_call 12; (with_reducible refine (impl_Clash.calls kj37 _ _ t371 (Int.tmod (rd t374 0) (t371.length : Int)) (Int.tmod (rd t374 1) (t371.length : Int)) t395 _ ?side1 ?side2 A53.out).mono ?_); (case side1 => repeat (first | exact (Kd.N_reads' HO_3.out).2.2 | (with_reducible refine Kd.C_alloc ?_ _) | (with_reducible refine Kd.C_drewN ?_ _) | (with_reducible refine Kd.C_drew ?_))); (case side2 => exact (Kd.N_reads' HO_3.out).2.1); rintro e w91 ⟨rfl, hb⟩; have n0_ := Aside0.mk (Kd.N_below (by (with_reducible repeat (first | apply Kd.N_alloc | apply Kd.N_drewN | apply Kd.N_drew)); exact HO_3.out) hb); have n1_ := Aside0.mk (Kd.Q_below (by (with_reducible repeat (first | apply Kd.Q_alloc | apply Kd.Q_drewN | apply Kd.Q_drew)); exact HO_7.out) hb); have n2_ := Aside0.mk (below_step (by repeat (first | (with_reducible first | exact HB.out | apply below_alloc | apply pw_below_drewN | apply below_drew1) | exact HB.out)) hb); clear HO_3; clear HO_7; clear HB; have HO_3 := n0_; have HO_7 := n1_; have HB := n2_; clear n0_ n1_ n2_; (try clear hb); (try clear hb2); (try clear hk); (try clear hi)) | (go_at_call 9; (with_reducible refine (impl_Extends.calls kj37 _ _ t371 (Int.tmod (rd t374 1) (t371.length : Int)) (Int.tmod (rd t374 0) (t371.length : Int)) t398 _ ?side1 ?side2 A75.out).mono ?_); (case side1 => repeat (first | exact (Kd.N_reads' HO_3.out).2.2 | (with_reducible refine Kd.C_alloc ?_ _) | (with_reducible refine Kd.C_drewN ?_ _) | (with_reducible refine Kd.C_drew ?_))); (case side2 => exact (Kd.N_reads' HO_3.out).2.1); rintro e w92 ⟨rfl, hb⟩; have n0_ := Aside0.mk (Kd.N_below (by (with_reducible repeat (first | apply Kd.N_alloc | apply Kd.N_drewN | apply Kd.N_drew)); exact HO_3.out) hb); have n1_ := Aside0.mk (Kd.Q_below (by (with_reducible repeat (first | apply Kd.Q_alloc | apply Kd.Q_drewN | apply Kd.Q_drew)); exact HO_7.out) hb); have n2_ := Aside0.mk (below_step (by repeat (first | (with_reducible first | exact HB.out | apply below_alloc | apply pw_below_drewN | apply below_drew1) | exact HB.out)) hb); clear HO_3; clear HO_7; clear HB; have HO_3 := n0_; have HO_7 := n1_; have HB := n2_; clear n0_ n1_ n2_; (try clear hb); (try clear hb2); (try clear hk); (try clear hi)) | (go_at_call 9; (with_reducible refine (impl_Extends.calls kj37 _ _ t371 (Int.tmod (rd t374 0) (t371.length : Int)) 0 true _ ?side1 ?side2 A77.out).mono ?_); (case side1 => repeat (first | exact (Kd.N_reads' HO_3.out).2.2 | (with_reducible refine Kd.C_alloc ?_ _) | (with_reducible refine Kd.C_drewN ?_ _) | (with_reducible refine Kd.C_drew ?_))); (case side2 => exact (Kd.N_reads' HO_3.out).2.1); rintro e w93 ⟨rfl, hb⟩; have n0_ := Aside0.mk (Kd.N_below (by (with_reducible repeat (first | apply Kd.N_alloc | apply Kd.N_drewN | apply Kd.N_drew)); exact HO_3.out) hb); have n1_ := Aside0.mk (Kd.Q_below (by (with_reducible repeat (first | apply Kd.Q_alloc | apply Kd.Q_drewN | apply Kd.Q_drew)); exact HO_7.out) hb); have n2_ := Aside0.mk (below_step (by repeat (first | (with_reducible first | exact HB.out | apply below_alloc | apply pw_below_drewN | apply below_drew1) | exact HB.out)) hb); clear HO_3; clear HO_7; clear HB; have HO_3 := n0_; have HO_7 := n1_; have HB := n2_; clear n0_ n1_ n2_; (try clear hb); (try clear hb2); (try clear hk); (try clear hi)) | (go_at_call 13; (with_reducible refine (laws_in.calls kj37 _ _ t379 (Int.tmod (rd t374 1) (t371.length : Int)) t400 _ ?side1 ?side2 A89.out).mono ?_); (case side1 => repeat (first | exact (Kd.Q_reads' HO_7.out).2.2 | (with_reducible refine Kd.C_alloc ?_ _) | (with_reducible refine Kd.C_drewN ?_ _) | (with_reducible refine Kd.C_drew ?_))); (case side2 => exact (Kd.Q_reads' HO_7.out).2.1); rintro e w' ⟨rfl, ⟨nd, rfl⟩⟩))
                                  go_ret
                                  exact ⟨by first | rfl | (simp [errW_none, errW_some] <;> rfl) | (simp [*, errW_none, errW_some] <;> rfl), by repeat (first | (with_reducible first | exact HB.out | apply below_alloc | apply pw_below_drewN | apply below_drew1) | exact HB.out)⟩
                            · replace c78 := Bool.eq_false_iff.mpr c78
                              subst c78
                              have H1 : (some false) = some r := by rw [if_neg (show ¬ (false = true) by decide)] at H; exact H
                              clear H
                              have H := H1
                              clear H1
                              obtain rfl := Option.some.inj H
                              go_wp2_with (first | ((with_reducible refine gate_callee (f := 10) rfl ?_); refine goesL_ (some 110) rfl rfl Try.func10 (by kernel_rfl) rfl #[.slice Ao13 t371.length co13, .int .i64 (Int.tmod (rd t374 0) (t371.length : Int))] rfl (by (try simp only [List.map_toArray, List.map_cons, List.map_nil]); first | done | rfl | (simp only [List.length_drop, List.length_take]; rfl)) ?_; (with_reducible refine (impl_HeightOf.calls kj37 _ _ t371 (Int.tmod (rd t374 0) (t371.length : Int)) t394 _ ?side1 ?side2 A51.out).mono ?_); (case side1 => repeat (first | exact (Kd.N_reads' HO_3.out).2.2 | (with_reducible refine Kd.C_alloc ?_ _) | (with_reducible refine Kd.C_drewN ?_ _) | (with_reducible refine Kd.C_drew ?_))); (case side2 => exact (Kd.N_reads' HO_3.out).2.1); rintro e w94 ⟨rfl, hb⟩; refine ⟨_, rfl, ?_⟩; have n0_ := Aside0.mk (Kd.N_below (by (with_reducible repeat (first | apply Kd.N_alloc | apply Kd.N_drewN | apply Kd.N_drew)); exact HO_3.out) hb); have n1_ := Aside0.mk (Kd.Q_below (by (with_reducible repeat (first | apply Kd.Q_alloc | apply Kd.Q_drewN | apply Kd.Q_drew)); exact HO_7.out) hb); have n2_ := Aside0.mk (below_step (by repeat (first | (with_reducible first | exact HB.out | apply below_alloc | apply pw_below_drewN | apply below_drew1) | exact HB.out)) hb); clear HO_3; clear HO_7; clear HB; have HO_3 := n0_; have HO_7 := n1_; have HB := n2_; clear n0_ n1_ n2_; (try clear hb); (try clear hb2); (try clear hk); (try clear hi)) | (go_at_call 12; (with_reducible refine (impl_Clash.calls kj37 _ _ t371 (Int.tmod (rd t374 0) (t371.length : Int)) (Int.tmod (rd t374 1) (t371.length : Int)) t395 _ ?side1 ?side2 A53.out).mono ?_); (case side1 => repeat (first | exact (Kd.N_reads' HO_3.out).2.2 | (with_reducible refine Kd.C_alloc ?_ _) | (with_reducible refine Kd.C_drewN ?_ _) | (with_reducible refine Kd.C_drew ?_))); (case side2 => exact (Kd.N_reads' HO_3.out).2.1); rintro e w95 ⟨rfl, hb⟩; have n0_ := Aside0.mk (Kd.N_below (by (with_reducible repeat (first | apply Kd.N_alloc | apply Kd.N_drewN | apply Kd.N_drew)); exact HO_3.out) hb); have n1_ := Aside0.mk (Kd.Q_below (by (with_reducible repeat (first | apply Kd.Q_alloc | apply Kd.Q_drewN | apply Kd.Q_drew)); exact HO_7.out) hb); have n2_ := Aside0.mk (below_step (by repeat (first | (with_reducible first | exact HB.out | apply below_alloc | apply pw_below_drewN | apply below_drew1) | exact HB.out)) hb); clear HO_3; clear HO_7; clear HB; have HO_3 := n0_; have HO_7 := n1_; have HB := n2_; clear n0_ n1_ n2_; (try clear hb); (try clear hb2); (try clear hk); (try clear hi)) | (go_at_call 9; (with_reducible refine (impl_Extends.calls kj37 _ _ t371 (Int.tmod (rd t374 1) (t371.length : Int)) (Int.tmod (rd t374 0) (t371.length : Int)) t398 _ ?side1 ?side2 A75.out).mono ?_); (case side1 => repeat (first | exact (Kd.N_reads' HO_3.out).2.2 | (with_reducible refine Kd.C_alloc ?_ _) | (with_reducible refine Kd.C_drewN ?_ _) | (with_reducible refine Kd.C_drew ?_))); (case side2 => exact (Kd.N_reads' HO_3.out).2.1); rintro e w96 ⟨rfl, hb⟩; have n0_ := Aside0.mk (Kd.N_below (by (with_reducible repeat (first | apply Kd.N_alloc | apply Kd.N_drewN | apply Kd.N_drew)); exact HO_3.out) hb); have n1_ := Aside0.mk (Kd.Q_below (by (with_reducible repeat (first | apply Kd.Q_alloc | apply Kd.Q_drewN | apply Kd.Q_drew)); exact HO_7.out) hb); have n2_ := Aside0.mk (below_step (by repeat (first | (with_reducible first | exact HB.out | apply below_alloc | apply pw_below_drewN | apply below_drew1) | exact HB.out)) hb); clear HO_3; clear HO_7; clear HB; have HO_3 := n0_; have HO_7 := n1_; have HB := n2_; clear n0_ n1_ n2_; (try clear hb); (try clear hb2); (try clear hk); (try clear hi)) | (go_at_call 9; (with_reducible refine (impl_Extends.calls kj37 _ _ t371 (Int.tmod (rd t374 0) (t371.length : Int)) 0 false _ ?side1 ?side2 A77.out).mono ?_); (case side1 => repeat (first | exact (Kd.N_reads' HO_3.out).2.2 | (with_reducible refine Kd.C_alloc ?_ _) | (with_reducible refine Kd.C_drewN ?_ _) | (with_reducible refine Kd.C_drew ?_))); (case side2 => exact (Kd.N_reads' HO_3.out).2.1); rintro e w97 ⟨rfl, hb⟩; have n0_ := Aside0.mk (Kd.N_below (by (with_reducible repeat (first | apply Kd.N_alloc | apply Kd.N_drewN | apply Kd.N_drew)); exact HO_3.out) hb); have n1_ := Aside0.mk (Kd.Q_below (by (with_reducible repeat (first | apply Kd.Q_alloc | apply Kd.Q_drewN | apply Kd.Q_drew)); exact HO_7.out) hb); have n2_ := Aside0.mk (below_step (by repeat (first | (with_reducible first | exact HB.out | apply below_alloc | apply pw_below_drewN | apply below_drew1) | exact HB.out)) hb); clear HO_3; clear HO_7; clear HB; have HO_3 := n0_; have HO_7 := n1_; have HB := n2_; clear n0_ n1_ n2_; (try clear hb); (try clear hb2); (try clear hk); (try clear hi)))
                              go_ret
                              exact ⟨by first | rfl | (simp [errW_none, errW_some] <;> rfl) | (simp [*, errW_none, errW_some] <;> rfl), by repeat (first | (with_reducible first | exact HB.out | apply below_alloc | apply pw_below_drewN | apply below_drew1) | exact HB.out)⟩
                          · rw [if_neg c76] at H
                            have c76b0 : (t395 == (!t398)) = false := by simpa using c76
                            (try (have c76b1 : decide (t395 = (!t398)) = false := by simpa using c76))
                            (try (have c76b2 : (t395 == (!t398)) = false := by simpa using c76))
                            (try (have c76b3 : ¬ (t395 = (!t398)) := by simpa using c76))
                            clear c76
                            obtain rfl := Option.some.inj H
                            go_wp2_with (first | ((with_reducible refine gate_callee (f := 10) rfl ?_); refine goesL_ (some 110) rfl rfl Try.func10 (by kernel_rfl) rfl #[.slice Ao13 t371.length co13, .int .i64 (Int.tmod (rd t374 0) (t371.length : Int))] rfl (by (try simp only [List.map_toArray, List.map_cons, List.map_nil]); first | done | rfl | (simp only [List.length_drop, List.length_take]; rfl)) ?_; (with_reducible refine (impl_HeightOf.calls kj37 _ _ t371 (Int.tmod (rd t374 0) (t371.length : Int)) t394 _ ?side1 ?side2 A51.out).mono ?_); (case side1 => repeat (first | exact (Kd.N_reads' HO_3.out).2.2 | (with_reducible refine Kd.C_alloc ?_ _) | (with_reducible refine Kd.C_drewN ?_ _) | (with_reducible refine Kd.C_drew ?_))); (case side2 => exact (Kd.N_reads' HO_3.out).2.1); rintro e w98 ⟨rfl, hb⟩; refine ⟨_, rfl, ?_⟩; have n0_ := Aside0.mk (Kd.N_below (by (with_reducible repeat (first | apply Kd.N_alloc | apply Kd.N_drewN | apply Kd.N_drew)); exact HO_3.out) hb); have n1_ := Aside0.mk (Kd.Q_below (by (with_reducible repeat (first | apply Kd.Q_alloc | apply Kd.Q_drewN | apply Kd.Q_drew)); exact HO_7.out) hb); have n2_ := Aside0.mk (below_step (by repeat (first | (with_reducible first | exact HB.out | apply below_alloc | apply pw_below_drewN | apply below_drew1) | exact HB.out)) hb); clear HO_3; clear HO_7; clear HB; have HO_3 := n0_; have HO_7 := n1_; have HB := n2_; clear n0_ n1_ n2_; (try clear hb); (try clear hb2); (try clear hk); (try clear hi)) | (go_at_call 12; (with_reducible refine (impl_Clash.calls kj37 _ _ t371 (Int.tmod (rd t374 0) (t371.length : Int)) (Int.tmod (rd t374 1) (t371.length : Int)) t395 _ ?side1 ?side2 A53.out).mono ?_); (case side1 => repeat (first | exact (Kd.N_reads' HO_3.out).2.2 | (with_reducible refine Kd.C_alloc ?_ _) | (with_reducible refine Kd.C_drewN ?_ _) | (with_reducible refine Kd.C_drew ?_))); (case side2 => exact (Kd.N_reads' HO_3.out).2.1); rintro e w99 ⟨rfl, hb⟩; have n0_ := Aside0.mk (Kd.N_below (by (with_reducible repeat (first | apply Kd.N_alloc | apply Kd.N_drewN | apply Kd.N_drew)); exact HO_3.out) hb); have n1_ := Aside0.mk (Kd.Q_below (by (with_reducible repeat (first | apply Kd.Q_alloc | apply Kd.Q_drewN | apply Kd.Q_drew)); exact HO_7.out) hb); have n2_ := Aside0.mk (below_step (by repeat (first | (with_reducible first | exact HB.out | apply below_alloc | apply pw_below_drewN | apply below_drew1) | exact HB.out)) hb); clear HO_3; clear HO_7; clear HB; have HO_3 := n0_; have HO_7 := n1_; have HB := n2_; clear n0_ n1_ n2_; (try clear hb); (try clear hb2); (try clear hk); (try clear hi)) | (go_at_call 9; (with_reducible refine (impl_Extends.calls kj37 _ _ t371 (Int.tmod (rd t374 1) (t371.length : Int)) (Int.tmod (rd t374 0) (t371.length : Int)) t398 _ ?side1 ?side2 A75.out).mono ?_); (case side1 => repeat (first | exact (Kd.N_reads' HO_3.out).2.2 | (with_reducible refine Kd.C_alloc ?_ _) | (with_reducible refine Kd.C_drewN ?_ _) | (with_reducible refine Kd.C_drew ?_))); (case side2 => exact (Kd.N_reads' HO_3.out).2.1); rintro e w100 ⟨rfl, hb⟩; have n0_ := Aside0.mk (Kd.N_below (by (with_reducible repeat (first | apply Kd.N_alloc | apply Kd.N_drewN | apply Kd.N_drew)); exact HO_3.out) hb); have n1_ := Aside0.mk (Kd.Q_below (by (with_reducible repeat (first | apply Kd.Q_alloc | apply Kd.Q_drewN | apply Kd.Q_drew)); exact HO_7.out) hb); have n2_ := Aside0.mk (below_step (by repeat (first | (with_reducible first | exact HB.out | apply below_alloc | apply pw_below_drewN | apply below_drew1) | exact HB.out)) hb); clear HO_3; clear HO_7; clear HB; have HO_3 := n0_; have HO_7 := n1_; have HB := n2_; clear n0_ n1_ n2_; (try clear hb); (try clear hb2); (try clear hk); (try clear hi)))
                            go_ret
                            exact ⟨by first | rfl | (simp [errW_none, errW_some] <;> rfl) | (simp [*, errW_none, errW_some] <;> rfl), by repeat (first | (with_reducible first | exact HB.out | apply below_alloc | apply pw_below_drewN | apply below_drew1) | exact HB.out)⟩
                      · rw [if_neg c52] at H
                        have c52b0 : ((t379.length : Int) == t394) = false := beq_eq_false_iff_ne.mpr c52
                        have c52b1 : ((t379.length : Int) != t394) = true := bne_iff_ne.mpr c52
                        obtain rfl := Option.some.inj H
                        go_wp2_with (first | ((with_reducible refine gate_callee (f := 10) rfl ?_); refine goesL_ (some 110) rfl rfl Try.func10 (by kernel_rfl) rfl #[.slice Ao13 t371.length co13, .int .i64 (Int.tmod (rd t374 0) (t371.length : Int))] rfl (by (try simp only [List.map_toArray, List.map_cons, List.map_nil]); first | done | rfl | (simp only [List.length_drop, List.length_take]; rfl)) ?_; (with_reducible refine (impl_HeightOf.calls kj37 _ _ t371 (Int.tmod (rd t374 0) (t371.length : Int)) t394 _ ?side1 ?side2 A51.out).mono ?_); (case side1 => repeat (first | exact (Kd.N_reads' HO_3.out).2.2 | (with_reducible refine Kd.C_alloc ?_ _) | (with_reducible refine Kd.C_drewN ?_ _) | (with_reducible refine Kd.C_drew ?_))); (case side2 => exact (Kd.N_reads' HO_3.out).2.1); rintro e w101 ⟨rfl, hb⟩; refine ⟨_, rfl, ?_⟩; have n0_ := Aside0.mk (Kd.N_below (by (with_reducible repeat (first | apply Kd.N_alloc | apply Kd.N_drewN | apply Kd.N_drew)); exact HO_3.out) hb); have n1_ := Aside0.mk (Kd.Q_below (by (with_reducible repeat (first | apply Kd.Q_alloc | apply Kd.Q_drewN | apply Kd.Q_drew)); exact HO_7.out) hb); have n2_ := Aside0.mk (below_step (by repeat (first | (with_reducible first | exact HB.out | apply below_alloc | apply pw_below_drewN | apply below_drew1) | exact HB.out)) hb); clear HO_3; clear HO_7; clear HB; have HO_3 := n0_; have HO_7 := n1_; have HB := n2_; clear n0_ n1_ n2_; (try clear hb); (try clear hb2); (try clear hk); (try clear hi)))
                        go_ret
                        exact ⟨by first | rfl | (simp [errW_none, errW_some] <;> rfl) | (simp [*, errW_none, errW_some] <;> rfl), by repeat (first | (with_reducible first | exact HB.out | apply below_alloc | apply pw_below_drewN | apply below_drew1) | exact HB.out)⟩
        · rw [if_neg c8] at H
          exact absurd H (by simp)
    · rw [if_neg c6] at H
      exact absurd H (by simp)

/-- THE ONE PURE STATEMENT of laws_FnStands: yours. -/
def laws_FnStands.Pure : Prop := ∀ (l0 : List Int), l0.length ≤ maxLen → l0.length * 1 ≤ 140737488351232 → (∀ x ∈ l0, (Lit.int .u8 x).wf = true) → ∃ k, laws_FnStands.f k l0 = some true
theorem laws_FnStands.walk (P : laws_FnStands.Pure) (a0 : Option Addr) (len0 cap0 : Nat) (z0 : List Int) (w : World) (w0 : (a0 = none ∧ len0 = 0 ∧ cap0 = 0 ∧ z0 = []) ∨ ∃ x, a0 = some x ∧ len0 ≤ cap0 ∧ cap0 ≤ maxLen ∧ z0.length = cap0 ∧ (∀ i, i < z0.length → w.cell? (x.add i) = some (.int .u8 (z0.getD i 0))) ∧ ∀ n ∈ z0, (Lit.int .u8 n).wf = true) (y0 : len0 * 1 ≤ 140737488351232) :
    Calls Try.prog 3 #[.slice a0 len0 cap0] w fun e w' => e = .returned (.bool true) ∧ Below w.heap.size w w' := by
  obtain ⟨l0, rfl, hr0, hm0, hw0, hc0⟩ := ReadsInt.ofRowC w0
  obtain ⟨k, h⟩ := P l0 hm0 y0 hw0
  refine (laws_FnStands.calls k _ _ l0 true w (Kd.C_of_reads (d := (0 : Int)) (h1 := fun _ => rfl) hr0) hc0 h).mono ?_
  rintro e w' ⟨rfl, hd⟩
  exact ⟨rfl, hd⟩

end Go.Proofs.Ytjbbdjdbffaidaa.QFnStands
