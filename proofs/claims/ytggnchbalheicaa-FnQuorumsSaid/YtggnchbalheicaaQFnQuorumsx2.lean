-- Written by a program of this session, for this claim.
import Derived.Test.YtggnchbalheicaaQFnQuorumsx0
import Derived.Test.YtggnchbalheicaaQFnQuorumsx1
namespace Go.Proofs.Ytggnchbalheicaa.QFnQuorums
open Go.RowKit Go.Proofs.YtggnchbalheicaaW.PrintWords Go.Proofs.YtggnchbalheicaaW.PrintLast Go.Proofs.YtggnchbalheicaaW.PrintMore
attribute [local go_sem] max2_int min2_int max_two min_two max_three min_three max_four min_four   -- for this text's walks alone
set_option linter.unusedVariables false
set_option linter.unusedSimpArgs false

/-! ### laws_FnQuorums: function 10 -/
mutual
def laws_FnQuorums.l0 : Nat → List Int → Int → Int → Int → Int → Int → Option (Bool)
  | 0, _, _, _, _, _, _ => none
  | k + 1, x3, x4, x5, x6, x7, x8 => if x8 < x4 then (if 0 ≤ (IntKind.u64.wrap (x8)) then (if (Int.tmod (shr .i64 x5 (IntKind.u64.wrap (x8))) 2) = 1 then (if (Int.tmod (shr .i64 x6 (IntKind.u64.wrap (x8))) 2) = 1 then (laws_FnQuorums.l0 k x3 x4 x5 x6 (wrap64 (x7 + 1)) (wrap64 (x8 + 1))) else (laws_FnQuorums.l0 k x3 x4 x5 x6 x7 (wrap64 (x8 + 1)))) else (laws_FnQuorums.l0 k x3 x4 x5 x6 x7 (wrap64 (x8 + 1)))) else (none)) else ((impl_CountOf.f k x5).bind fun t144 => ((impl_Quorum.f x4).bind fun t145 => (if t144 ≥ t145 then ((impl_CountOf.f k x6).bind fun t146 => ((impl_Quorum.f x4).bind fun t147 => (laws_FnQuorums.j1 k x3 x4 x7 (decide (t146 ≥ t147))))) else (laws_FnQuorums.j1 k x3 x4 x7 false))))
def laws_FnQuorums.j1 : Nat → List Int → Int → Int → Bool → Option (Bool)
  | 0, _, _, _, _ => none
  | k + 1, x3, x4, x7, x9 => if 3 < (x3.length : Int) then (if x9 = true then ((impl_Faults.f x4).bind fun t149 => (if x7 > t149 then ((impl_Quorum.f x4).bind fun t150 => ((impl_Faults.f x4).bind fun t151 => (if (wrap64 (t150 + t151)) = x4 then ((impl_LeaderOf.f (Int.tmod (rd x3 3) 200) x4).bind fun t152 => (if t152 ≥ 0 then ((impl_LeaderOf.f (Int.tmod (rd x3 3) 200) x4).bind fun t153 => (if t153 < x4 then ((impl_LeaderOf.f (wrap64 ((Int.tmod (rd x3 3) 200) + 4)) x4).bind fun t154 => ((impl_LeaderOf.f (Int.tmod (rd x3 3) 200) x4).bind fun t155 => (if x4 = 0 then (none) else (if t154 = (Int.tmod (wrap64 (t155 + 1)) x4) then ((impl_LeaderOf.f (wrap64 ((wrap64 (4 * (Int.tmod (rd x3 3) 200))) + 3)) x4).bind fun t156 => ((impl_LeaderOf.f (wrap64 (4 * (Int.tmod (rd x3 3) 200))) x4).bind fun t157 => (some (t156 == t157)))) else (some false))))) else (some false))) else (some false))) else (some false)))) else (some false))) else ((impl_Quorum.f x4).bind fun t158 => ((impl_Faults.f x4).bind fun t159 => (if (wrap64 (t158 + t159)) = x4 then ((impl_LeaderOf.f (Int.tmod (rd x3 3) 200) x4).bind fun t160 => (if t160 ≥ 0 then ((impl_LeaderOf.f (Int.tmod (rd x3 3) 200) x4).bind fun t161 => (if t161 < x4 then ((impl_LeaderOf.f (wrap64 ((Int.tmod (rd x3 3) 200) + 4)) x4).bind fun t162 => ((impl_LeaderOf.f (Int.tmod (rd x3 3) 200) x4).bind fun t163 => (if x4 = 0 then (none) else (if t162 = (Int.tmod (wrap64 (t163 + 1)) x4) then ((impl_LeaderOf.f (wrap64 ((wrap64 (4 * (Int.tmod (rd x3 3) 200))) + 3)) x4).bind fun t164 => ((impl_LeaderOf.f (wrap64 (4 * (Int.tmod (rd x3 3) 200))) x4).bind fun t165 => (some (t164 == t165)))) else (some false))))) else (some false))) else (some false))) else (some false))))) else (none)
end
def laws_FnQuorums.f (k : Nat) (l0 : List Int) : Option (Bool) := (laws_big.f l0).bind fun t137 => (if t137 = true then (some true) else ((spec_DrawPlaces.f k l0).bind fun t138 => (if 0 < (t138.length : Int) then (if 1 < (t138.length : Int) then (if 0 ≤ (IntKind.u64.wrap (wrap64 (1 + (Int.tmod (rd t138 0) 7)))) then (if (shl .i64 1 (IntKind.u64.wrap (wrap64 (1 + (Int.tmod (rd t138 0) 7))))) = 0 then (none) else (if 2 < (t138.length : Int) then (laws_FnQuorums.l0 k t138 (wrap64 (1 + (Int.tmod (rd t138 0) 7))) (Int.tmod (rd t138 1) (shl .i64 1 (IntKind.u64.wrap (wrap64 (1 + (Int.tmod (rd t138 0) 7)))))) (Int.tmod (rd t138 2) (shl .i64 1 (IntKind.u64.wrap (wrap64 (1 + (Int.tmod (rd t138 0) 7)))))) 0 0) else (none))) else (none)) else (none)) else (none))))
theorem laws_FnQuorums.mono_l : ∀ k, (∀ y0 y1 y2 y3 y4 y5, LeO (laws_FnQuorums.l0 k y0 y1 y2 y3 y4 y5) (laws_FnQuorums.l0 (k + 1) y0 y1 y2 y3 y4 y5)) ∧ (∀ y0 y1 y2 y3, LeO (laws_FnQuorums.j1 k y0 y1 y2 y3) (laws_FnQuorums.j1 (k + 1) y0 y1 y2 y3))
  | 0 => ⟨fun _ _ _ _ _ _ r h => by simp [laws_FnQuorums.l0] at h, fun _ _ _ _ r h => by simp [laws_FnQuorums.j1] at h⟩
  | k + 1 => by
    obtain ⟨ih0, ih1⟩ := laws_FnQuorums.mono_l k
    refine ⟨?_, ?_⟩
    · intro y0 y1 y2 y3 y4 y5
      unfold laws_FnQuorums.l0
      repeat' first
      | (with_reducible exact ih0 _ _ _ _ _ _)
      | (with_reducible exact ih1 _ _ _ _)
      | (with_reducible exact impl_CountOf.mono _ _)
      | (with_reducible exact spec_DrawPlaces.mono _ _)
      | (with_reducible exact LeO.refl _)
      | (with_reducible exact LeO.none _)
      | (with_reducible refine LeO.ite ?_ ?_)
      | (with_reducible refine LeO.bind ?_ (fun _ => ?_))
      | exact ih0 _ _ _ _ _ _
      | exact ih1 _ _ _ _
      | exact impl_CountOf.mono _ _
      | exact spec_DrawPlaces.mono _ _
      | exact LeO.none _
      | refine LeO.ite ?_ ?_
      | refine LeO.bind ?_ (fun _ => ?_)
    · intro y0 y1 y2 y3
      unfold laws_FnQuorums.j1
      repeat' first
      | (with_reducible exact ih0 _ _ _ _ _ _)
      | (with_reducible exact ih1 _ _ _ _)
      | (with_reducible exact impl_CountOf.mono _ _)
      | (with_reducible exact spec_DrawPlaces.mono _ _)
      | (with_reducible exact LeO.refl _)
      | (with_reducible exact LeO.none _)
      | (with_reducible refine LeO.ite ?_ ?_)
      | (with_reducible refine LeO.bind ?_ (fun _ => ?_))
      | exact ih0 _ _ _ _ _ _
      | exact ih1 _ _ _ _
      | exact impl_CountOf.mono _ _
      | exact spec_DrawPlaces.mono _ _
      | exact LeO.none _
      | refine LeO.ite ?_ ?_
      | refine LeO.bind ?_ (fun _ => ?_)
theorem laws_FnQuorums.mono : ∀ a0 k, LeO (laws_FnQuorums.f k a0) (laws_FnQuorums.f (k + 1) a0) := by
  intro a0 k
  obtain ⟨ih0, ih1⟩ := laws_FnQuorums.mono_l k
  unfold laws_FnQuorums.f
  repeat' first
      | (with_reducible exact ih0 _ _ _ _ _ _)
      | (with_reducible exact ih1 _ _ _ _)
      | (with_reducible exact impl_CountOf.mono _ _)
      | (with_reducible exact spec_DrawPlaces.mono _ _)
      | (with_reducible exact LeO.refl _)
      | (with_reducible exact LeO.none _)
      | (with_reducible refine LeO.ite ?_ ?_)
      | (with_reducible refine LeO.bind ?_ (fun _ => ?_))
      | exact ih0 _ _ _ _ _ _
      | exact ih1 _ _ _ _
      | exact impl_CountOf.mono _ _
      | exact spec_DrawPlaces.mono _ _
      | exact LeO.none _
      | refine LeO.ite ?_ ?_
      | refine LeO.bind ?_ (fun _ => ?_)
set_option maxHeartbeats 8000000 in
set_option maxRecDepth 100000 in
theorem laws_FnQuorums.calls (k : Nat) (A0 : Option Addr) (c0 : Nat) (l0 : List Int) (r : Bool) (w : World) (hr0 : Kd.C (Kd.int .u8) w A0 l0.length l0) (hc0 : l0.length ≤ c0) (h : laws_FnQuorums.f k l0 = some r) :
    Calls Try.prog 10 #[.slice A0 l0.length c0] w fun e w' => e = .returned (.bool r) ∧ Below w.heap.size w w' := by
  have HR0 := Aside0.mk hr0
  have HC0 := Aside0.mk hc0
  clear hr0 hc0
  have HB := Aside0.mk (Below.refl w.heap.size w)
  have H : ((laws_big.f l0).bind fun t137 => (if t137 = true then (some true) else ((spec_DrawPlaces.f k l0).bind fun t138 => (if 0 < (t138.length : Int) then (if 1 < (t138.length : Int) then (if 0 ≤ (IntKind.u64.wrap (wrap64 (1 + (Int.tmod (rd t138 0) 7)))) then (if (shl .i64 1 (IntKind.u64.wrap (wrap64 (1 + (Int.tmod (rd t138 0) 7))))) = 0 then (none) else (if 2 < (t138.length : Int) then (laws_FnQuorums.l0 k t138 (wrap64 (1 + (Int.tmod (rd t138 0) 7))) (Int.tmod (rd t138 1) (shl .i64 1 (IntKind.u64.wrap (wrap64 (1 + (Int.tmod (rd t138 0) 7)))))) (Int.tmod (rd t138 2) (shl .i64 1 (IntKind.u64.wrap (wrap64 (1 + (Int.tmod (rd t138 0) 7)))))) 0 0) else (none))) else (none)) else (none)) else (none))))) = some r := h
  clear h
  replace H := Option.bind_eq_some_iff.mp H
  obtain ⟨t137, A20, H⟩ := H
  replace H : (if t137 = true then (some true) else ((spec_DrawPlaces.f k l0).bind fun t138 => (if 0 < (t138.length : Int) then (if 1 < (t138.length : Int) then (if 0 ≤ (IntKind.u64.wrap (wrap64 (1 + (Int.tmod (rd t138 0) 7)))) then (if (shl .i64 1 (IntKind.u64.wrap (wrap64 (1 + (Int.tmod (rd t138 0) 7))))) = 0 then (none) else (if 2 < (t138.length : Int) then (laws_FnQuorums.l0 k t138 (wrap64 (1 + (Int.tmod (rd t138 0) 7))) (Int.tmod (rd t138 1) (shl .i64 1 (IntKind.u64.wrap (wrap64 (1 + (Int.tmod (rd t138 0) 7)))))) (Int.tmod (rd t138 2) (shl .i64 1 (IntKind.u64.wrap (wrap64 (1 + (Int.tmod (rd t138 0) 7)))))) 0 0) else (none))) else (none)) else (none)) else (none)))) = some r := H
  have A2 := Aside0.mk A20
  clear A20
  by_cases c3 : t137 = true
  · subst c3
    have H1 : (some true) = some r := by rw [if_pos rfl] at H; exact H
    clear H
    have H := H1
    clear H1
    obtain rfl := Option.some.inj H
    go_enter Try.func10, Try.ntmps10
    go_wp2_with (first | ((with_reducible refine gate_callee (f := 27) rfl ?_); refine goesL_ (some 12) rfl rfl Try.func27 (by kernel_rfl) rfl #[.slice A0 l0.length c0] rfl (by (try simp only [List.map_toArray, List.map_cons, List.map_nil]); first | done | rfl | (simp only [List.length_drop, List.length_take]; rfl)) ?_; (with_reducible refine (laws_big.calls _ _ l0 true _ ?side1 ?side2 A2.out).mono ?_); (case side1 => repeat (first | exact HR0.out | (with_reducible refine Kd.C_alloc ?_ _) | (with_reducible refine Kd.C_drewN ?_ _) | (with_reducible refine Kd.C_drew ?_))); (case side2 => exact HC0.out); rintro e w' ⟨rfl, ⟨nd, rfl⟩⟩; refine ⟨_, rfl, ?_⟩))
    go_ret
    exact ⟨by first | rfl | (simp [errW_none, errW_some] <;> rfl) | (simp [*, errW_none, errW_some] <;> rfl), by repeat (first | (with_reducible first | exact HB.out | apply below_alloc | apply pw_below_drewN | apply below_drew1) | exact HB.out)⟩
  · replace c3 := Bool.eq_false_iff.mpr c3
    subst c3
    have H1 : ((spec_DrawPlaces.f k l0).bind fun t138 => (if 0 < (t138.length : Int) then (if 1 < (t138.length : Int) then (if 0 ≤ (IntKind.u64.wrap (wrap64 (1 + (Int.tmod (rd t138 0) 7)))) then (if (shl .i64 1 (IntKind.u64.wrap (wrap64 (1 + (Int.tmod (rd t138 0) 7))))) = 0 then (none) else (if 2 < (t138.length : Int) then (laws_FnQuorums.l0 k t138 (wrap64 (1 + (Int.tmod (rd t138 0) 7))) (Int.tmod (rd t138 1) (shl .i64 1 (IntKind.u64.wrap (wrap64 (1 + (Int.tmod (rd t138 0) 7)))))) (Int.tmod (rd t138 2) (shl .i64 1 (IntKind.u64.wrap (wrap64 (1 + (Int.tmod (rd t138 0) 7)))))) 0 0) else (none))) else (none)) else (none)) else (none))) = some r := by rw [if_neg (show ¬ (false = true) by decide)] at H; exact H
    clear H
    have H := H1
    clear H1
    replace H := Option.bind_eq_some_iff.mp H
    obtain ⟨t138, A40, H⟩ := H
    replace H : (if 0 < (t138.length : Int) then (if 1 < (t138.length : Int) then (if 0 ≤ (IntKind.u64.wrap (wrap64 (1 + (Int.tmod (rd t138 0) 7)))) then (if (shl .i64 1 (IntKind.u64.wrap (wrap64 (1 + (Int.tmod (rd t138 0) 7))))) = 0 then (none) else (if 2 < (t138.length : Int) then (laws_FnQuorums.l0 k t138 (wrap64 (1 + (Int.tmod (rd t138 0) 7))) (Int.tmod (rd t138 1) (shl .i64 1 (IntKind.u64.wrap (wrap64 (1 + (Int.tmod (rd t138 0) 7)))))) (Int.tmod (rd t138 2) (shl .i64 1 (IntKind.u64.wrap (wrap64 (1 + (Int.tmod (rd t138 0) 7)))))) 0 0) else (none))) else (none)) else (none)) else (none)) = some r := H
    have A4 := Aside0.mk A40
    clear A40
    by_cases c5 : 0 < (t138.length : Int)
    · rw [if_pos c5] at H
      have c5b0 : decide (0 < (t138.length : Int)) = true := decide_eq_true c5
      have c5b1 : decide (0 < t138.length) = true := decide_eq_true (by omega)
      clear c5
      by_cases c6 : 1 < (t138.length : Int)
      · rw [if_pos c6] at H
        have c6b0 : decide (1 < (t138.length : Int)) = true := decide_eq_true c6
        have c6b1 : decide (1 < t138.length) = true := decide_eq_true (by omega)
        clear c6
        obtain ⟨ji7, hji7⟩ : ∃ j_ : Int, (IntKind.u64.wrap (wrap64 (1 + (Int.tmod (rd t138 0) 7)))) = j_ := ⟨_, rfl⟩
        replace H : (if 0 ≤ (ji7) then (if (shl .i64 1 (ji7)) = 0 then (none) else (if 2 < (t138.length : Int) then (laws_FnQuorums.l0 k t138 (wrap64 (1 + (Int.tmod (rd t138 0) 7))) (Int.tmod (rd t138 1) (shl .i64 1 (ji7))) (Int.tmod (rd t138 2) (shl .i64 1 (ji7))) 0 0) else (none))) else (none)) = some r := by first | (rw [hji7] at H; exact H) | (simp only [hji7] at H ⊢; exact H)
        (try rw [hji7] at A2)
        (try rw [hji7] at A4)
        by_cases c8 : 0 ≤ (ji7)
        · rw [if_pos c8] at H
          have c8b0 := eq_true c8
          have c8b1 : decide (0 ≤ (ji7)) = true := decide_eq_true c8
          clear c8
          obtain ⟨ji9, hji9⟩ : ∃ j_ : Int, (shl .i64 1 (ji7)) = j_ := ⟨_, rfl⟩
          replace H : (if (ji9) = 0 then (none) else (if 2 < (t138.length : Int) then (laws_FnQuorums.l0 k t138 (wrap64 (1 + (Int.tmod (rd t138 0) 7))) (Int.tmod (rd t138 1) (ji9)) (Int.tmod (rd t138 2) (ji9)) 0 0) else (none))) = some r := by first | (rw [hji9] at H; exact H) | (simp only [hji9] at H ⊢; exact H)
          (try rw [hji9] at A2)
          (try rw [hji9] at A4)
          have hji9_ : (IntKind.i64.wrap (1 * 2 ^ min (ji7).toNat 64)) = ji9 := hji9
          have hji9z : (ji7) ≤ 64 → (IntKind.i64.wrap (1 * 2 ^ (ji7).toNat)) = ji9 := shl_small hji9
          have hji9u : (IntKind.i64.wrap (2 ^ min (ji7).toNat 64)) = ji9 := by have h_ := hji9_; rw [Int.one_mul] at h_; exact h_
          have hji9v : (ji7) ≤ 64 → (IntKind.i64.wrap (2 ^ (ji7).toNat)) = ji9 := fun hle_ => by have h_ := hji9z hle_; rw [Int.one_mul] at h_; exact h_
          have hji9y : (wrap64 (1 * 2 ^ min (ji7).toNat 64)) = ji9 := (i64_w _).symm.trans hji9_
          have hji9x : (ji7) ≤ 64 → (wrap64 (1 * 2 ^ (ji7).toNat)) = ji9 := fun h_ => (i64_w _).symm.trans (hji9z h_)
          by_cases c10 : (ji9) = 0
          · rw [if_pos c10] at H
            exact absurd H (by simp)
          · rw [if_neg c10] at H
            have c10b0 : ((ji9) == 0) = false := beq_eq_false_iff_ne.mpr c10
            have c10b1 : ((ji9) != 0) = true := bne_iff_ne.mpr c10
            by_cases c11 : 2 < (t138.length : Int)
            · rw [if_pos c11] at H
              have c11b0 : decide (2 < (t138.length : Int)) = true := decide_eq_true c11
              have c11b1 : decide (2 < t138.length) = true := decide_eq_true (by omega)
              clear c11
              have c12b0 := eq_true (of_decide_eq_true (by first | (with_reducible assumption) | assumption) : 0 ≤ (ji7))
              have H' := Aside0.mk H
              clear H
              go_enter Try.func10, Try.ntmps10
              go_wp2_with (first | ((with_reducible refine gate_callee (f := 27) rfl ?_); refine goesL_ (some 12) rfl rfl Try.func27 (by kernel_rfl) rfl #[.slice A0 l0.length c0] rfl (by (try simp only [List.map_toArray, List.map_cons, List.map_nil]); first | done | rfl | (simp only [List.length_drop, List.length_take]; rfl)) ?_; (with_reducible refine (laws_big.calls _ _ l0 false _ ?side1 ?side2 A2.out).mono ?_); (case side1 => repeat (first | exact HR0.out | (with_reducible refine Kd.C_alloc ?_ _) | (with_reducible refine Kd.C_drewN ?_ _) | (with_reducible refine Kd.C_drew ?_))); (case side2 => exact HC0.out); rintro e w' ⟨rfl, ⟨nd, rfl⟩⟩; refine ⟨_, rfl, ?_⟩) | ((with_reducible refine gate_callee (f := 28) rfl ?_); refine goesL_ (some 14) rfl rfl Try.func28 (by kernel_rfl) rfl #[.slice A0 l0.length c0] rfl (by (try simp only [List.map_toArray, List.map_cons, List.map_nil]); first | done | rfl | (simp only [List.length_drop, List.length_take]; rfl)) ?_; (with_reducible refine (spec_DrawPlaces.calls k _ _ l0 t138 _ ?side1 ?side2 A4.out).mono ?_); (case side1 => repeat (first | exact HR0.out | (with_reducible refine Kd.C_alloc ?_ _) | (with_reducible refine Kd.C_drewN ?_ _) | (with_reducible refine Kd.C_drew ?_))); (case side2 => exact HC0.out); rintro e w13 ⟨v139, rfl, ho0, hb⟩; refine ⟨_, rfl, ?_⟩; have n0_ := Aside0.mk (Kd.R_lower ho0 (below_size (by repeat (first | (with_reducible first | exact HB.out | apply below_alloc | apply pw_below_drewN | apply below_drew1) | exact HB.out)))); have n1_ := Aside0.mk (below_step (by repeat (first | (with_reducible first | exact HB.out | apply below_alloc | apply pw_below_drewN | apply below_drew1) | exact HB.out)) hb); clear HB; have HO140 := n0_; have HB := n1_; clear n0_ n1_; (try clear hb); (try clear hb2); (try clear hk); (try clear hi); (try clear ho0); obtain ⟨Ao14, co14, eo14⟩ := Kd.R_slice HO140.out; subst eo14; have p141 : 0 ≤ (0 : Int) := (by omega); have q141 : 0 < (t138.length : Int) := of_decide_eq_true (by first | (with_reducible assumption) | assumption); obtain ⟨ad141, e141, hx141_0⟩ := Kd.at_int (Kd.R_reads' HO140.out).2.2 0 p141 q141; cases e141; have qi141 : (0 < t138.length) = True := eq_true (by omega); (try rw [show ((0 : Int)).toNat = 0 from rfl] at hx141_0); (try rw [Addr.add_zero'] at hx141_0); replace p141 := eq_true p141; replace q141 := eq_true q141; have p142 : 0 ≤ (1 : Int) := (by omega); have q142 : 1 < (t138.length : Int) := of_decide_eq_true (by first | (with_reducible assumption) | assumption); obtain ⟨ad142, e142, hx142_0⟩ := Kd.at_int (Kd.R_reads' HO140.out).2.2 1 p142 q142; obtain rfl : ad141 = ad142 := (by injection e142); (try simp only [show (1 : Int).toNat = 1 from rfl, Nat.reduceMul, Nat.reduceEqDiff, Go.Addr.add, ↓reduceIte] at hx142_0); have qi142 : (1 < t138.length) = True := eq_true (by omega); (try rw [show ((1 : Int)).toNat = 1 from rfl] at hx142_0); replace p142 := eq_true p142; replace q142 := eq_true q142; have p143 : 0 ≤ (2 : Int) := (by omega); have q143 : 2 < (t138.length : Int) := of_decide_eq_true (by first | (with_reducible assumption) | assumption); obtain ⟨ad143, e143, hx143_0⟩ := Kd.at_int (Kd.R_reads' HO140.out).2.2 2 p143 q143; obtain rfl : ad141 = ad143 := (by injection e143); (try simp only [show (2 : Int).toNat = 2 from rfl, Nat.reduceMul, Nat.reduceEqDiff, Go.Addr.add, ↓reduceIte] at hx143_0); have qi143 : (2 < t138.length) = True := eq_true (by omega); (try rw [show ((2 : Int)).toNat = 2 from rfl] at hx143_0); replace p143 := eq_true p143; replace q143 := eq_true q143))
              go_loopg [7, 8] k (fun kq v7 v8 w' => ∃ (x7_1 : Int) (x8_1 : Int), v7 = .int .i64 x7_1 ∧ v8 = .int .i64 x8_1 ∧ Aside0 (laws_FnQuorums.l0 kq t138 (wrap64 (1 + (Int.tmod (rd t138 0) 7))) (Int.tmod (rd t138 1) (ji9)) (Int.tmod (rd t138 2) (ji9)) x7_1 x8_1 = some r) ∧ Aside0 (kq ≤ k) ∧ Aside0 (Kd.R (Kd.int .i64) 3 w' w.heap.size (fun _ => True) (.slice (some ad141) t138.length co14) t138) ∧ Aside0 (Below w.heap.size w w'))
              case atStart => exact ⟨(0), (0), (by first | rfl | (simp; done) | (simp [*]; done)), (by first | rfl | (simp; done) | (simp [*]; done)), H', ⟨Nat.le_refl _⟩, ⟨by (with_reducible repeat (first | apply Kd.R_alloc | apply Kd.R_drewN | apply Kd.R_drew)); exact HO140.out⟩, ⟨by repeat (first | (with_reducible first | exact HB.out | apply below_alloc | apply pw_below_drewN | apply below_drew1) | exact HB.out)⟩⟩
              case round =>
                clear H'
                try clear c1
                try clear p1
                try clear q1
                try clear hx1
                try clear qi1
                try clear c2
                try clear p2
                try clear c3
                try clear c5
                try clear c5b0
                try clear c5b1
                try clear c6
                try clear c6b0
                try clear c6b1
                try clear p6
                try clear c8
                try clear c8b0
                try clear c8b1
                try clear c10
                try clear c10b0
                try clear c10b1
                try clear c11
                try clear c11b0
                try clear c11b1
                try clear c12
                try clear c12b0
                try clear p14
                try clear q14
                try clear hx14
                try clear qi14
                try clear hx141_0
                try clear hx142_0
                try clear hx143_0
                try clear p141
                try clear p142
                try clear p143
                try clear q141
                try clear q142
                try clear q143
                obtain ⟨x7_1, x8_1, rfl, rfl, HA, HK1, HO_3, HB⟩ := hrel
                cases gk with
                | zero => exact absurd HA.out (by simp [laws_FnQuorums.l0])
                | succ k1 =>
                  have H := HA.out
                  clear HA
                  simp only [laws_FnQuorums.l0] at H
                  by_cases c15 : x8_1 < (wrap64 (1 + (Int.tmod (rd t138 0) 7)))
                  · rw [if_pos c15] at H
                    have c15b0 : decide (x8_1 < (wrap64 (1 + (Int.tmod (rd t138 0) 7)))) = true := decide_eq_true c15
                    clear c15
                    obtain ⟨ji16, hji16⟩ : ∃ j_ : Int, (IntKind.u64.wrap (x8_1)) = j_ := ⟨_, rfl⟩
                    replace H : (if 0 ≤ (ji16) then (if (Int.tmod (shr .i64 (Int.tmod (rd t138 1) (ji9)) (ji16)) 2) = 1 then (if (Int.tmod (shr .i64 (Int.tmod (rd t138 2) (ji9)) (ji16)) 2) = 1 then (laws_FnQuorums.l0 k1 t138 (wrap64 (1 + (Int.tmod (rd t138 0) 7))) (Int.tmod (rd t138 1) (ji9)) (Int.tmod (rd t138 2) (ji9)) (wrap64 (x7_1 + 1)) (wrap64 (x8_1 + 1))) else (laws_FnQuorums.l0 k1 t138 (wrap64 (1 + (Int.tmod (rd t138 0) 7))) (Int.tmod (rd t138 1) (ji9)) (Int.tmod (rd t138 2) (ji9)) x7_1 (wrap64 (x8_1 + 1)))) else (laws_FnQuorums.l0 k1 t138 (wrap64 (1 + (Int.tmod (rd t138 0) 7))) (Int.tmod (rd t138 1) (ji9)) (Int.tmod (rd t138 2) (ji9)) x7_1 (wrap64 (x8_1 + 1)))) else (none)) = some r := by first | (rw [hji16] at H; exact H) | (simp only [hji16] at H ⊢; exact H)
                    by_cases c17 : 0 ≤ (ji16)
                    · rw [if_pos c17] at H
                      have c17b0 := eq_true c17
                      have c17b1 : decide (0 ≤ (ji16)) = true := decide_eq_true c17
                      clear c17
                      obtain ⟨ji18, hji18⟩ : ∃ j_ : Int, (shr .i64 (Int.tmod (rd t138 1) (ji9)) (ji16)) = j_ := ⟨_, rfl⟩
                      replace H : (if (Int.tmod (ji18) 2) = 1 then (if (Int.tmod (shr .i64 (Int.tmod (rd t138 2) (ji9)) (ji16)) 2) = 1 then (laws_FnQuorums.l0 k1 t138 (wrap64 (1 + (Int.tmod (rd t138 0) 7))) (Int.tmod (rd t138 1) (ji9)) (Int.tmod (rd t138 2) (ji9)) (wrap64 (x7_1 + 1)) (wrap64 (x8_1 + 1))) else (laws_FnQuorums.l0 k1 t138 (wrap64 (1 + (Int.tmod (rd t138 0) 7))) (Int.tmod (rd t138 1) (ji9)) (Int.tmod (rd t138 2) (ji9)) x7_1 (wrap64 (x8_1 + 1)))) else (laws_FnQuorums.l0 k1 t138 (wrap64 (1 + (Int.tmod (rd t138 0) 7))) (Int.tmod (rd t138 1) (ji9)) (Int.tmod (rd t138 2) (ji9)) x7_1 (wrap64 (x8_1 + 1)))) = some r := by first | (rw [hji18] at H; exact H) | (simp only [hji18] at H ⊢; exact H)
                      have hji18_ : ((Int.tmod (rd t138 1) (ji9)) / 2 ^ min (ji16).toNat 64) = ji18 := hji18
                      have hji18z : (ji16) ≤ 64 → ((Int.tmod (rd t138 1) (ji9)) / 2 ^ (ji16).toNat) = ji18 := shr_small hji18
                      by_cases c19 : (Int.tmod (ji18) 2) = 1
                      · rw [if_pos c19] at H
                        have c19b0 : ((Int.tmod (ji18) 2) == 1) = true := beq_iff_eq.mpr c19
                        have c19b1 : ((Int.tmod (ji18) 2) != 1) = false := bne_eq_false_iff_eq.mpr c19
                        clear c19
                        have c20b0 := eq_true (of_decide_eq_true (by first | (with_reducible assumption) | assumption) : 0 ≤ (ji16))
                        obtain ⟨ji21, hji21⟩ : ∃ j_ : Int, (shr .i64 (Int.tmod (rd t138 2) (ji9)) (ji16)) = j_ := ⟨_, rfl⟩
                        replace H : (if (Int.tmod (ji21) 2) = 1 then (laws_FnQuorums.l0 k1 t138 (wrap64 (1 + (Int.tmod (rd t138 0) 7))) (Int.tmod (rd t138 1) (ji9)) (Int.tmod (rd t138 2) (ji9)) (wrap64 (x7_1 + 1)) (wrap64 (x8_1 + 1))) else (laws_FnQuorums.l0 k1 t138 (wrap64 (1 + (Int.tmod (rd t138 0) 7))) (Int.tmod (rd t138 1) (ji9)) (Int.tmod (rd t138 2) (ji9)) x7_1 (wrap64 (x8_1 + 1)))) = some r := by first | (rw [hji21] at H; exact H) | (simp only [hji21] at H ⊢; exact H)
                        have hji21_ : ((Int.tmod (rd t138 2) (ji9)) / 2 ^ min (ji16).toNat 64) = ji21 := hji21
                        have hji21z : (ji16) ≤ 64 → ((Int.tmod (rd t138 2) (ji9)) / 2 ^ (ji16).toNat) = ji21 := shr_small hji21
                        by_cases c22 : (Int.tmod (ji21) 2) = 1
                        · rw [if_pos c22] at H
                          have c22b0 : ((Int.tmod (ji21) 2) == 1) = true := beq_iff_eq.mpr c22
                          have c22b1 : ((Int.tmod (ji21) 2) != 1) = false := bne_eq_false_iff_eq.mpr c22
                          clear c22
                          have H' := Aside0.mk H
                          clear H
                          go_wp2
                          go_roundg k1
                          case measure => have := HK1.out; omega
                          case rel => exact ⟨(wrap64 (x7_1 + 1)), (wrap64 (x8_1 + 1)), (by first | rfl | (simp; done) | (simp [*]; done)), (by first | rfl | (simp; done) | (simp [*]; done)), H', ⟨by have := HK1.out; omega⟩, ⟨by (with_reducible repeat (first | apply Kd.R_alloc | apply Kd.R_drewN | apply Kd.R_drew)); exact HO_3.out⟩, ⟨by repeat (first | (with_reducible first | exact HB.out | apply below_alloc | apply pw_below_drewN | apply below_drew1) | exact HB.out)⟩⟩
                        · rw [if_neg c22] at H
                          have c22b0 : ((Int.tmod (ji21) 2) == 1) = false := beq_eq_false_iff_ne.mpr c22
                          have c22b1 : ((Int.tmod (ji21) 2) != 1) = true := bne_iff_ne.mpr c22
                          have H' := Aside0.mk H
                          clear H
                          go_wp2
                          go_roundg k1
                          case measure => have := HK1.out; omega
                          case rel => exact ⟨(x7_1), (wrap64 (x8_1 + 1)), (by first | rfl | (simp; done) | (simp [*]; done)), (by first | rfl | (simp; done) | (simp [*]; done)), H', ⟨by have := HK1.out; omega⟩, ⟨by (with_reducible repeat (first | apply Kd.R_alloc | apply Kd.R_drewN | apply Kd.R_drew)); exact HO_3.out⟩, ⟨by repeat (first | (with_reducible first | exact HB.out | apply below_alloc | apply pw_below_drewN | apply below_drew1) | exact HB.out)⟩⟩
                      · rw [if_neg c19] at H
                        have c19b0 : ((Int.tmod (ji18) 2) == 1) = false := beq_eq_false_iff_ne.mpr c19
                        have c19b1 : ((Int.tmod (ji18) 2) != 1) = true := bne_iff_ne.mpr c19
                        have H' := Aside0.mk H
                        clear H
                        go_wp2
                        go_roundg k1
                        case measure => have := HK1.out; omega
                        case rel => exact ⟨(x7_1), (wrap64 (x8_1 + 1)), (by first | rfl | (simp; done) | (simp [*]; done)), (by first | rfl | (simp; done) | (simp [*]; done)), H', ⟨by have := HK1.out; omega⟩, ⟨by (with_reducible repeat (first | apply Kd.R_alloc | apply Kd.R_drewN | apply Kd.R_drew)); exact HO_3.out⟩, ⟨by repeat (first | (with_reducible first | exact HB.out | apply below_alloc | apply pw_below_drewN | apply below_drew1) | exact HB.out)⟩⟩
                    · rw [if_neg c17] at H
                      exact absurd H (by simp)
                  · rw [if_neg c15] at H
                    have c15b0 : decide (x8_1 < (wrap64 (1 + (Int.tmod (rd t138 0) 7)))) = false := decide_eq_false c15
                    clear c15
                    have HC23 := Aside0.mk H
                    clear H
                    go_upto_region 13 with (fail)
                    go_cut [9] (fun v9 wc => ∃ (kq : Nat) (x9_22 : Bool), v9 = .bool x9_22 ∧ Aside0 (laws_FnQuorums.j1 kq t138 (wrap64 (1 + (Int.tmod (rd t138 0) 7))) x7_1 x9_22 = some r) ∧ Aside0 (kq ≤ k1) ∧ Aside0 (Kd.R (Kd.int .i64) 3 wc w.heap.size (fun _ => True) (.slice (some ad141) t138.length co14) t138) ∧ Aside0 (Below w.heap.size w wc))
                    case first =>
                      have H := HC23.out
                      clear HC23
                      replace H := Option.bind_eq_some_iff.mp H
                      obtain ⟨t144, A240, H⟩ := H
                      replace H : ((impl_Quorum.f (wrap64 (1 + (Int.tmod (rd t138 0) 7)))).bind fun t145 => (if t144 ≥ t145 then ((impl_CountOf.f k1 (Int.tmod (rd t138 2) (ji9))).bind fun t146 => ((impl_Quorum.f (wrap64 (1 + (Int.tmod (rd t138 0) 7)))).bind fun t147 => (laws_FnQuorums.j1 k1 t138 (wrap64 (1 + (Int.tmod (rd t138 0) 7))) x7_1 (decide (t146 ≥ t147))))) else (laws_FnQuorums.j1 k1 t138 (wrap64 (1 + (Int.tmod (rd t138 0) 7))) x7_1 false))) = some r := H
                      have A24 := Aside0.mk A240
                      clear A240
                      replace H := Option.bind_eq_some_iff.mp H
                      obtain ⟨t145, A250, H⟩ := H
                      replace H : (if t144 ≥ t145 then ((impl_CountOf.f k1 (Int.tmod (rd t138 2) (ji9))).bind fun t146 => ((impl_Quorum.f (wrap64 (1 + (Int.tmod (rd t138 0) 7)))).bind fun t147 => (laws_FnQuorums.j1 k1 t138 (wrap64 (1 + (Int.tmod (rd t138 0) 7))) x7_1 (decide (t146 ≥ t147))))) else (laws_FnQuorums.j1 k1 t138 (wrap64 (1 + (Int.tmod (rd t138 0) 7))) x7_1 false)) = some r := H
                      have A25 := Aside0.mk A250
                      clear A250
                      by_cases c26 : t144 ≥ t145
                      · rw [if_pos c26] at H
                        have c26b0 : decide (t145 ≤ t144) = true := decide_eq_true c26
                        clear c26
                        (first | rw [c26b0] | (simp only [i64_w, i32_w]; rw [c26b0]) | skip)
                        replace H := Option.bind_eq_some_iff.mp H
                        obtain ⟨t146, A270, H⟩ := H
                        replace H : ((impl_Quorum.f (wrap64 (1 + (Int.tmod (rd t138 0) 7)))).bind fun t147 => (laws_FnQuorums.j1 k1 t138 (wrap64 (1 + (Int.tmod (rd t138 0) 7))) x7_1 (decide (t146 ≥ t147)))) = some r := H
                        have A27 := Aside0.mk A270
                        clear A270
                        replace H := Option.bind_eq_some_iff.mp H
                        obtain ⟨t147, A280, H⟩ := H
                        obtain rfl : t145 = t147 := Option.some.inj (A25.out.symm.trans A280)
                        replace H : (laws_FnQuorums.j1 k1 t138 (wrap64 (1 + (Int.tmod (rd t138 0) 7))) x7_1 (decide (t146 ≥ t145))) = some r := H
                        have A28 := Aside0.mk A280
                        clear A280
                        have H' := Aside0.mk H
                        clear H
                        go_wp2_with (first | ((with_reducible refine gate_callee (f := 22) rfl ?_); refine goesL_ (some 56) rfl rfl Try.func22 (by kernel_rfl) rfl #[.int .i64 (Int.tmod (rd t138 1) (ji9))] rfl (by (try simp only [List.map_toArray, List.map_cons, List.map_nil]); first | done | (simp only [hji9]; rfl) | rfl | (simp only [List.length_drop, List.length_take]; rfl)) ?_; (with_reducible refine (impl_CountOf.calls k1 (Int.tmod (rd t138 1) (ji9)) t144 _ A24.out).mono ?_); rintro e w' ⟨rfl, ⟨nd, rfl⟩⟩; refine ⟨_, rfl, ?_⟩) | ((with_reducible refine gate_callee (f := 20) rfl ?_); refine goesL_ (some 58) rfl rfl Try.func20 (by kernel_rfl) rfl #[.int .i64 (wrap64 (1 + (Int.tmod (rd t138 0) 7)))] rfl (by (try simp only [List.map_toArray, List.map_cons, List.map_nil]); first | done | rfl | (simp only [List.length_drop, List.length_take]; rfl)) ?_; (with_reducible refine (impl_Quorum.calls (wrap64 (1 + (Int.tmod (rd t138 0) 7))) t145 _ A25.out).mono ?_); rintro e w' ⟨rfl, ⟨nd, rfl⟩⟩; refine ⟨_, rfl, ?_⟩) | (go_at_call 22; (with_reducible refine (impl_CountOf.calls k1 (Int.tmod (rd t138 2) (ji9)) t146 _ A27.out).mono ?_); rintro e w' ⟨rfl, ⟨nd, rfl⟩⟩) | (go_at_call 20; (with_reducible refine (impl_Quorum.calls (wrap64 (1 + (Int.tmod (rd t138 0) 7))) t145 _ A28.out).mono ?_); rintro e w' ⟨rfl, ⟨nd, rfl⟩⟩))
                        go_meet
                        case rel => exact ⟨_, (decide (t146 ≥ t145)), (by first | rfl | (simp; done) | (simp [*]; done)), H', ⟨by have := HK1.out; first | omega | exact Nat.le_refl _⟩, ⟨by (with_reducible repeat (first | apply Kd.R_alloc | apply Kd.R_drewN | apply Kd.R_drew)); exact HO_3.out⟩, ⟨by repeat (first | (with_reducible first | exact HB.out | apply below_alloc | apply pw_below_drewN | apply below_drew1) | exact HB.out)⟩⟩
                      · rw [if_neg c26] at H
                        have c26b0 : decide (t145 ≤ t144) = false := decide_eq_false c26
                        clear c26
                        (first | rw [c26b0] | (simp only [i64_w, i32_w]; rw [c26b0]) | skip)
                        have H' := Aside0.mk H
                        clear H
                        go_wp2_with (first | ((with_reducible refine gate_callee (f := 22) rfl ?_); refine goesL_ (some 56) rfl rfl Try.func22 (by kernel_rfl) rfl #[.int .i64 (Int.tmod (rd t138 1) (ji9))] rfl (by (try simp only [List.map_toArray, List.map_cons, List.map_nil]); first | done | (simp only [hji9]; rfl) | rfl | (simp only [List.length_drop, List.length_take]; rfl)) ?_; (with_reducible refine (impl_CountOf.calls k1 (Int.tmod (rd t138 1) (ji9)) t144 _ A24.out).mono ?_); rintro e w' ⟨rfl, ⟨nd, rfl⟩⟩; refine ⟨_, rfl, ?_⟩) | ((with_reducible refine gate_callee (f := 20) rfl ?_); refine goesL_ (some 58) rfl rfl Try.func20 (by kernel_rfl) rfl #[.int .i64 (wrap64 (1 + (Int.tmod (rd t138 0) 7)))] rfl (by (try simp only [List.map_toArray, List.map_cons, List.map_nil]); first | done | rfl | (simp only [List.length_drop, List.length_take]; rfl)) ?_; (with_reducible refine (impl_Quorum.calls (wrap64 (1 + (Int.tmod (rd t138 0) 7))) t145 _ A25.out).mono ?_); rintro e w' ⟨rfl, ⟨nd, rfl⟩⟩; refine ⟨_, rfl, ?_⟩))
                        go_meet
                        case rel => exact ⟨_, (false), (by first | rfl | (simp; done) | (simp [*]; done)), H', ⟨by have := HK1.out; first | omega | exact Nat.le_refl _⟩, ⟨by (with_reducible repeat (first | apply Kd.R_alloc | apply Kd.R_drewN | apply Kd.R_drew)); exact HO_3.out⟩, ⟨by repeat (first | (with_reducible first | exact HB.out | apply below_alloc | apply pw_below_drewN | apply below_drew1) | exact HB.out)⟩⟩
                    case rest =>
                      clear HC23
                      try clear c1
                      try clear p1
                      try clear q1
                      try clear hx1
                      try clear qi1
                      try clear c2
                      try clear p2
                      try clear c3
                      try clear c5
                      try clear c5b0
                      try clear c5b1
                      try clear c6
                      try clear c6b0
                      try clear c6b1
                      try clear p6
                      try clear c8
                      try clear c8b0
                      try clear c8b1
                      try clear c10
                      try clear c10b0
                      try clear c10b1
                      try clear c11
                      try clear c11b0
                      try clear c11b1
                      try clear c12
                      try clear c12b0
                      try clear p14
                      try clear q14
                      try clear hx14
                      try clear qi14
                      try clear c15
                      try clear c15b0
                      try clear c17
                      try clear c17b0
                      try clear c17b1
                      try clear c19
                      try clear c19b0
                      try clear c19b1
                      try clear c20
                      try clear c20b0
                      try clear c22
                      try clear c22b0
                      try clear c22b1
                      try clear c26
                      try clear c26b0
                      try clear c27
                      try clear c28
                      try clear hx141_0
                      try clear hx142_0
                      try clear hx143_0
                      try clear p1
                      try clear p14
                      try clear p141
                      try clear p142
                      try clear p143
                      try clear p2
                      try clear p6
                      try clear q1
                      try clear q14
                      try clear q141
                      try clear q142
                      try clear q143
                      obtain ⟨kq, x9_22, rfl, HA, HJ22, HO_3, HB⟩ := hcut
                      cases kq with
                      | zero => exact absurd HA.out (by simp [laws_FnQuorums.j1])
                      | succ kj22 =>
                        have H := HA.out
                        clear HA
                        simp only [laws_FnQuorums.j1] at H
                        by_cases c29 : 3 < (t138.length : Int)
                        · rw [if_pos c29] at H
                          have c29b0 : decide (3 < (t138.length : Int)) = true := decide_eq_true c29
                          have c29b1 : decide (3 < t138.length) = true := decide_eq_true (by omega)
                          clear c29
                          by_cases c30 : x9_22 = true
                          · subst c30
                            have H1 : ((impl_Faults.f (wrap64 (1 + (Int.tmod (rd t138 0) 7)))).bind fun t149 => (if x7_1 > t149 then ((impl_Quorum.f (wrap64 (1 + (Int.tmod (rd t138 0) 7)))).bind fun t150 => ((impl_Faults.f (wrap64 (1 + (Int.tmod (rd t138 0) 7)))).bind fun t151 => (if (wrap64 (t150 + t151)) = (wrap64 (1 + (Int.tmod (rd t138 0) 7))) then ((impl_LeaderOf.f (Int.tmod (rd t138 3) 200) (wrap64 (1 + (Int.tmod (rd t138 0) 7)))).bind fun t152 => (if t152 ≥ 0 then ((impl_LeaderOf.f (Int.tmod (rd t138 3) 200) (wrap64 (1 + (Int.tmod (rd t138 0) 7)))).bind fun t153 => (if t153 < (wrap64 (1 + (Int.tmod (rd t138 0) 7))) then ((impl_LeaderOf.f (wrap64 ((Int.tmod (rd t138 3) 200) + 4)) (wrap64 (1 + (Int.tmod (rd t138 0) 7)))).bind fun t154 => ((impl_LeaderOf.f (Int.tmod (rd t138 3) 200) (wrap64 (1 + (Int.tmod (rd t138 0) 7)))).bind fun t155 => (if (wrap64 (1 + (Int.tmod (rd t138 0) 7))) = 0 then (none) else (if t154 = (Int.tmod (wrap64 (t155 + 1)) (wrap64 (1 + (Int.tmod (rd t138 0) 7)))) then ((impl_LeaderOf.f (wrap64 ((wrap64 (4 * (Int.tmod (rd t138 3) 200))) + 3)) (wrap64 (1 + (Int.tmod (rd t138 0) 7)))).bind fun t156 => ((impl_LeaderOf.f (wrap64 (4 * (Int.tmod (rd t138 3) 200))) (wrap64 (1 + (Int.tmod (rd t138 0) 7)))).bind fun t157 => (some (t156 == t157)))) else (some false))))) else (some false))) else (some false))) else (some false)))) else (some false))) = some r := by rw [if_pos rfl] at H; exact H
                            clear H
                            have H := H1
                            clear H1
                            replace H := Option.bind_eq_some_iff.mp H
                            obtain ⟨t149, A310, H⟩ := H
                            replace H : (if x7_1 > t149 then ((impl_Quorum.f (wrap64 (1 + (Int.tmod (rd t138 0) 7)))).bind fun t150 => ((impl_Faults.f (wrap64 (1 + (Int.tmod (rd t138 0) 7)))).bind fun t151 => (if (wrap64 (t150 + t151)) = (wrap64 (1 + (Int.tmod (rd t138 0) 7))) then ((impl_LeaderOf.f (Int.tmod (rd t138 3) 200) (wrap64 (1 + (Int.tmod (rd t138 0) 7)))).bind fun t152 => (if t152 ≥ 0 then ((impl_LeaderOf.f (Int.tmod (rd t138 3) 200) (wrap64 (1 + (Int.tmod (rd t138 0) 7)))).bind fun t153 => (if t153 < (wrap64 (1 + (Int.tmod (rd t138 0) 7))) then ((impl_LeaderOf.f (wrap64 ((Int.tmod (rd t138 3) 200) + 4)) (wrap64 (1 + (Int.tmod (rd t138 0) 7)))).bind fun t154 => ((impl_LeaderOf.f (Int.tmod (rd t138 3) 200) (wrap64 (1 + (Int.tmod (rd t138 0) 7)))).bind fun t155 => (if (wrap64 (1 + (Int.tmod (rd t138 0) 7))) = 0 then (none) else (if t154 = (Int.tmod (wrap64 (t155 + 1)) (wrap64 (1 + (Int.tmod (rd t138 0) 7)))) then ((impl_LeaderOf.f (wrap64 ((wrap64 (4 * (Int.tmod (rd t138 3) 200))) + 3)) (wrap64 (1 + (Int.tmod (rd t138 0) 7)))).bind fun t156 => ((impl_LeaderOf.f (wrap64 (4 * (Int.tmod (rd t138 3) 200))) (wrap64 (1 + (Int.tmod (rd t138 0) 7)))).bind fun t157 => (some (t156 == t157)))) else (some false))))) else (some false))) else (some false))) else (some false)))) else (some false)) = some r := H
                            have A31 := Aside0.mk A310
                            clear A310
                            by_cases c32 : x7_1 > t149
                            · rw [if_pos c32] at H
                              have c32b0 : decide (t149 < x7_1) = true := decide_eq_true c32
                              clear c32
                              replace H := Option.bind_eq_some_iff.mp H
                              obtain ⟨t150, A330, H⟩ := H
                              replace H : ((impl_Faults.f (wrap64 (1 + (Int.tmod (rd t138 0) 7)))).bind fun t151 => (if (wrap64 (t150 + t151)) = (wrap64 (1 + (Int.tmod (rd t138 0) 7))) then ((impl_LeaderOf.f (Int.tmod (rd t138 3) 200) (wrap64 (1 + (Int.tmod (rd t138 0) 7)))).bind fun t152 => (if t152 ≥ 0 then ((impl_LeaderOf.f (Int.tmod (rd t138 3) 200) (wrap64 (1 + (Int.tmod (rd t138 0) 7)))).bind fun t153 => (if t153 < (wrap64 (1 + (Int.tmod (rd t138 0) 7))) then ((impl_LeaderOf.f (wrap64 ((Int.tmod (rd t138 3) 200) + 4)) (wrap64 (1 + (Int.tmod (rd t138 0) 7)))).bind fun t154 => ((impl_LeaderOf.f (Int.tmod (rd t138 3) 200) (wrap64 (1 + (Int.tmod (rd t138 0) 7)))).bind fun t155 => (if (wrap64 (1 + (Int.tmod (rd t138 0) 7))) = 0 then (none) else (if t154 = (Int.tmod (wrap64 (t155 + 1)) (wrap64 (1 + (Int.tmod (rd t138 0) 7)))) then ((impl_LeaderOf.f (wrap64 ((wrap64 (4 * (Int.tmod (rd t138 3) 200))) + 3)) (wrap64 (1 + (Int.tmod (rd t138 0) 7)))).bind fun t156 => ((impl_LeaderOf.f (wrap64 (4 * (Int.tmod (rd t138 3) 200))) (wrap64 (1 + (Int.tmod (rd t138 0) 7)))).bind fun t157 => (some (t156 == t157)))) else (some false))))) else (some false))) else (some false))) else (some false))) = some r := H
                              have A33 := Aside0.mk A330
                              clear A330
                              replace H := Option.bind_eq_some_iff.mp H
                              obtain ⟨t151, A340, H⟩ := H
                              obtain rfl : t149 = t151 := Option.some.inj (A31.out.symm.trans A340)
                              replace H : (if (wrap64 (t150 + t149)) = (wrap64 (1 + (Int.tmod (rd t138 0) 7))) then ((impl_LeaderOf.f (Int.tmod (rd t138 3) 200) (wrap64 (1 + (Int.tmod (rd t138 0) 7)))).bind fun t152 => (if t152 ≥ 0 then ((impl_LeaderOf.f (Int.tmod (rd t138 3) 200) (wrap64 (1 + (Int.tmod (rd t138 0) 7)))).bind fun t153 => (if t153 < (wrap64 (1 + (Int.tmod (rd t138 0) 7))) then ((impl_LeaderOf.f (wrap64 ((Int.tmod (rd t138 3) 200) + 4)) (wrap64 (1 + (Int.tmod (rd t138 0) 7)))).bind fun t154 => ((impl_LeaderOf.f (Int.tmod (rd t138 3) 200) (wrap64 (1 + (Int.tmod (rd t138 0) 7)))).bind fun t155 => (if (wrap64 (1 + (Int.tmod (rd t138 0) 7))) = 0 then (none) else (if t154 = (Int.tmod (wrap64 (t155 + 1)) (wrap64 (1 + (Int.tmod (rd t138 0) 7)))) then ((impl_LeaderOf.f (wrap64 ((wrap64 (4 * (Int.tmod (rd t138 3) 200))) + 3)) (wrap64 (1 + (Int.tmod (rd t138 0) 7)))).bind fun t156 => ((impl_LeaderOf.f (wrap64 (4 * (Int.tmod (rd t138 3) 200))) (wrap64 (1 + (Int.tmod (rd t138 0) 7)))).bind fun t157 => (some (t156 == t157)))) else (some false))))) else (some false))) else (some false))) else (some false)) = some r := H
                              have A34 := Aside0.mk A340
                              clear A340
                              by_cases c35 : (wrap64 (t150 + t149)) = (wrap64 (1 + (Int.tmod (rd t138 0) 7)))
                              · rw [if_pos c35] at H
                                have c35b0 : ((wrap64 (t150 + t149)) == (wrap64 (1 + (Int.tmod (rd t138 0) 7)))) = true := beq_iff_eq.mpr c35
                                have c35b1 : ((wrap64 (t150 + t149)) != (wrap64 (1 + (Int.tmod (rd t138 0) 7)))) = false := bne_eq_false_iff_eq.mpr c35
                                clear c35
                                replace H := Option.bind_eq_some_iff.mp H
                                obtain ⟨t152, A360, H⟩ := H
                                replace H : (if t152 ≥ 0 then ((impl_LeaderOf.f (Int.tmod (rd t138 3) 200) (wrap64 (1 + (Int.tmod (rd t138 0) 7)))).bind fun t153 => (if t153 < (wrap64 (1 + (Int.tmod (rd t138 0) 7))) then ((impl_LeaderOf.f (wrap64 ((Int.tmod (rd t138 3) 200) + 4)) (wrap64 (1 + (Int.tmod (rd t138 0) 7)))).bind fun t154 => ((impl_LeaderOf.f (Int.tmod (rd t138 3) 200) (wrap64 (1 + (Int.tmod (rd t138 0) 7)))).bind fun t155 => (if (wrap64 (1 + (Int.tmod (rd t138 0) 7))) = 0 then (none) else (if t154 = (Int.tmod (wrap64 (t155 + 1)) (wrap64 (1 + (Int.tmod (rd t138 0) 7)))) then ((impl_LeaderOf.f (wrap64 ((wrap64 (4 * (Int.tmod (rd t138 3) 200))) + 3)) (wrap64 (1 + (Int.tmod (rd t138 0) 7)))).bind fun t156 => ((impl_LeaderOf.f (wrap64 (4 * (Int.tmod (rd t138 3) 200))) (wrap64 (1 + (Int.tmod (rd t138 0) 7)))).bind fun t157 => (some (t156 == t157)))) else (some false))))) else (some false))) else (some false)) = some r := H
                                have A36 := Aside0.mk A360
                                clear A360
                                by_cases c37 : t152 ≥ 0
                                · rw [if_pos c37] at H
                                  have c37b0 : decide (0 ≤ t152) = true := decide_eq_true c37
                                  clear c37
                                  replace H := Option.bind_eq_some_iff.mp H
                                  obtain ⟨t153, A380, H⟩ := H
                                  obtain rfl : t152 = t153 := Option.some.inj (A36.out.symm.trans A380)
                                  replace H : (if t152 < (wrap64 (1 + (Int.tmod (rd t138 0) 7))) then ((impl_LeaderOf.f (wrap64 ((Int.tmod (rd t138 3) 200) + 4)) (wrap64 (1 + (Int.tmod (rd t138 0) 7)))).bind fun t154 => ((impl_LeaderOf.f (Int.tmod (rd t138 3) 200) (wrap64 (1 + (Int.tmod (rd t138 0) 7)))).bind fun t155 => (if (wrap64 (1 + (Int.tmod (rd t138 0) 7))) = 0 then (none) else (if t154 = (Int.tmod (wrap64 (t155 + 1)) (wrap64 (1 + (Int.tmod (rd t138 0) 7)))) then ((impl_LeaderOf.f (wrap64 ((wrap64 (4 * (Int.tmod (rd t138 3) 200))) + 3)) (wrap64 (1 + (Int.tmod (rd t138 0) 7)))).bind fun t156 => ((impl_LeaderOf.f (wrap64 (4 * (Int.tmod (rd t138 3) 200))) (wrap64 (1 + (Int.tmod (rd t138 0) 7)))).bind fun t157 => (some (t156 == t157)))) else (some false))))) else (some false)) = some r := H
                                  have A38 := Aside0.mk A380
                                  clear A380
                                  by_cases c39 : t152 < (wrap64 (1 + (Int.tmod (rd t138 0) 7)))
                                  · rw [if_pos c39] at H
                                    have c39b0 : decide (t152 < (wrap64 (1 + (Int.tmod (rd t138 0) 7)))) = true := decide_eq_true c39
                                    clear c39
                                    replace H := Option.bind_eq_some_iff.mp H
                                    obtain ⟨t154, A400, H⟩ := H
                                    replace H : ((impl_LeaderOf.f (Int.tmod (rd t138 3) 200) (wrap64 (1 + (Int.tmod (rd t138 0) 7)))).bind fun t155 => (if (wrap64 (1 + (Int.tmod (rd t138 0) 7))) = 0 then (none) else (if t154 = (Int.tmod (wrap64 (t155 + 1)) (wrap64 (1 + (Int.tmod (rd t138 0) 7)))) then ((impl_LeaderOf.f (wrap64 ((wrap64 (4 * (Int.tmod (rd t138 3) 200))) + 3)) (wrap64 (1 + (Int.tmod (rd t138 0) 7)))).bind fun t156 => ((impl_LeaderOf.f (wrap64 (4 * (Int.tmod (rd t138 3) 200))) (wrap64 (1 + (Int.tmod (rd t138 0) 7)))).bind fun t157 => (some (t156 == t157)))) else (some false)))) = some r := H
                                    have A40 := Aside0.mk A400
                                    clear A400
                                    replace H := Option.bind_eq_some_iff.mp H
                                    obtain ⟨t155, A410, H⟩ := H
                                    obtain rfl : t152 = t155 := Option.some.inj (A36.out.symm.trans A410)
                                    replace H : (if (wrap64 (1 + (Int.tmod (rd t138 0) 7))) = 0 then (none) else (if t154 = (Int.tmod (wrap64 (t152 + 1)) (wrap64 (1 + (Int.tmod (rd t138 0) 7)))) then ((impl_LeaderOf.f (wrap64 ((wrap64 (4 * (Int.tmod (rd t138 3) 200))) + 3)) (wrap64 (1 + (Int.tmod (rd t138 0) 7)))).bind fun t156 => ((impl_LeaderOf.f (wrap64 (4 * (Int.tmod (rd t138 3) 200))) (wrap64 (1 + (Int.tmod (rd t138 0) 7)))).bind fun t157 => (some (t156 == t157)))) else (some false))) = some r := H
                                    have A41 := Aside0.mk A410
                                    clear A410
                                    by_cases c42 : (wrap64 (1 + (Int.tmod (rd t138 0) 7))) = 0
                                    · rw [if_pos c42] at H
                                      exact absurd H (by simp)
                                    · rw [if_neg c42] at H
                                      have c42b0 : ((wrap64 (1 + (Int.tmod (rd t138 0) 7))) == 0) = false := beq_eq_false_iff_ne.mpr c42
                                      have c42b1 : ((wrap64 (1 + (Int.tmod (rd t138 0) 7))) != 0) = true := bne_iff_ne.mpr c42
                                      by_cases c43 : t154 = (Int.tmod (wrap64 (t152 + 1)) (wrap64 (1 + (Int.tmod (rd t138 0) 7))))
                                      · rw [if_pos c43] at H
                                        have c43b0 : (t154 == (Int.tmod (wrap64 (t152 + 1)) (wrap64 (1 + (Int.tmod (rd t138 0) 7))))) = true := beq_iff_eq.mpr c43
                                        have c43b1 : (t154 != (Int.tmod (wrap64 (t152 + 1)) (wrap64 (1 + (Int.tmod (rd t138 0) 7))))) = false := bne_eq_false_iff_eq.mpr c43
                                        clear c43
                                        replace H := Option.bind_eq_some_iff.mp H
                                        obtain ⟨t156, A440, H⟩ := H
                                        replace H : ((impl_LeaderOf.f (wrap64 (4 * (Int.tmod (rd t138 3) 200))) (wrap64 (1 + (Int.tmod (rd t138 0) 7)))).bind fun t157 => (some (t156 == t157))) = some r := H
                                        have A44 := Aside0.mk A440
                                        clear A440
                                        replace H := Option.bind_eq_some_iff.mp H
                                        obtain ⟨t157, A450, H⟩ := H
                                        replace H : (some (t156 == t157)) = some r := H
                                        have A45 := Aside0.mk A450
                                        clear A450
                                        obtain rfl := Option.some.inj H
                                        have p148 : 0 ≤ (3 : Int) := (by omega)
                                        have q148 : 3 < (t138.length : Int) := of_decide_eq_true (by first | (with_reducible assumption) | assumption)
                                        obtain ⟨ad148, e148, hx148_0⟩ := Kd.at_int (Kd.R_reads' HO_3.out).2.2 3 p148 q148
                                        obtain rfl : ad141 = ad148 := (by injection e148)
                                        (try simp only [show (3 : Int).toNat = 3 from rfl, Nat.reduceMul, Nat.reduceEqDiff, Go.Addr.add, ↓reduceIte] at hx148_0)
                                        have qi148 : (3 < t138.length) = True := eq_true (by omega)
                                        (try rw [show ((3 : Int)).toNat = 3 from rfl] at hx148_0)
                                        replace p148 := eq_true p148
                                        replace q148 := eq_true q148
                                        go_wp2_with (first | (go_at_call 16; (with_reducible refine (impl_Faults.calls (wrap64 (1 + (Int.tmod (rd t138 0) 7))) t149 _ A31.out).mono ?_); rintro e w' ⟨rfl, ⟨nd, rfl⟩⟩) | (go_at_call 20; (with_reducible refine (impl_Quorum.calls (wrap64 (1 + (Int.tmod (rd t138 0) 7))) t150 _ A33.out).mono ?_); rintro e w' ⟨rfl, ⟨nd, rfl⟩⟩) | (go_at_call 16; (with_reducible refine (impl_Faults.calls (wrap64 (1 + (Int.tmod (rd t138 0) 7))) t149 _ A34.out).mono ?_); rintro e w' ⟨rfl, ⟨nd, rfl⟩⟩) | (go_at_call 18; (with_reducible refine (impl_LeaderOf.calls (Int.tmod (rd t138 3) 200) (wrap64 (1 + (Int.tmod (rd t138 0) 7))) t152 _ A36.out).mono ?_); rintro e w' ⟨rfl, ⟨nd, rfl⟩⟩) | (go_at_call 18; (with_reducible refine (impl_LeaderOf.calls (Int.tmod (rd t138 3) 200) (wrap64 (1 + (Int.tmod (rd t138 0) 7))) t152 _ A38.out).mono ?_); rintro e w' ⟨rfl, ⟨nd, rfl⟩⟩) | (go_at_call 18; (with_reducible refine (impl_LeaderOf.calls (wrap64 ((Int.tmod (rd t138 3) 200) + 4)) (wrap64 (1 + (Int.tmod (rd t138 0) 7))) t154 _ A40.out).mono ?_); rintro e w' ⟨rfl, ⟨nd, rfl⟩⟩) | (go_at_call 18; (with_reducible refine (impl_LeaderOf.calls (Int.tmod (rd t138 3) 200) (wrap64 (1 + (Int.tmod (rd t138 0) 7))) t152 _ A41.out).mono ?_); rintro e w' ⟨rfl, ⟨nd, rfl⟩⟩) | (go_at_call 18; (with_reducible refine (impl_LeaderOf.calls (wrap64 ((wrap64 (4 * (Int.tmod (rd t138 3) 200))) + 3)) (wrap64 (1 + (Int.tmod (rd t138 0) 7))) t156 _ A44.out).mono ?_); rintro e w' ⟨rfl, ⟨nd, rfl⟩⟩) | (go_at_call 18; (with_reducible refine (impl_LeaderOf.calls (wrap64 (4 * (Int.tmod (rd t138 3) 200))) (wrap64 (1 + (Int.tmod (rd t138 0) 7))) t157 _ A45.out).mono ?_); rintro e w' ⟨rfl, ⟨nd, rfl⟩⟩))
                                        go_ret
                                        exact ⟨by first | rfl | (simp [errW_none, errW_some] <;> rfl) | (simp only [← hji7, ← hji9]; first | rfl | (simp [errW_none, errW_some] <;> rfl)) | (simp [*, errW_none, errW_some] <;> rfl), by repeat (first | (with_reducible first | exact HB.out | apply below_alloc | apply pw_below_drewN | apply below_drew1) | exact HB.out)⟩
                                      · rw [if_neg c43] at H
                                        have c43b0 : (t154 == (Int.tmod (wrap64 (t152 + 1)) (wrap64 (1 + (Int.tmod (rd t138 0) 7))))) = false := beq_eq_false_iff_ne.mpr c43
                                        have c43b1 : (t154 != (Int.tmod (wrap64 (t152 + 1)) (wrap64 (1 + (Int.tmod (rd t138 0) 7))))) = true := bne_iff_ne.mpr c43
                                        obtain rfl := Option.some.inj H
                                        have p148 : 0 ≤ (3 : Int) := (by omega)
                                        have q148 : 3 < (t138.length : Int) := of_decide_eq_true (by first | (with_reducible assumption) | assumption)
                                        obtain ⟨ad148, e148, hx148_0⟩ := Kd.at_int (Kd.R_reads' HO_3.out).2.2 3 p148 q148
                                        obtain rfl : ad141 = ad148 := (by injection e148)
                                        (try simp only [show (3 : Int).toNat = 3 from rfl, Nat.reduceMul, Nat.reduceEqDiff, Go.Addr.add, ↓reduceIte] at hx148_0)
                                        have qi148 : (3 < t138.length) = True := eq_true (by omega)
                                        (try rw [show ((3 : Int)).toNat = 3 from rfl] at hx148_0)
                                        replace p148 := eq_true p148
                                        replace q148 := eq_true q148
                                        go_wp2_with (first | (go_at_call 16; (with_reducible refine (impl_Faults.calls (wrap64 (1 + (Int.tmod (rd t138 0) 7))) t149 _ A31.out).mono ?_); rintro e w' ⟨rfl, ⟨nd, rfl⟩⟩) | (go_at_call 20; (with_reducible refine (impl_Quorum.calls (wrap64 (1 + (Int.tmod (rd t138 0) 7))) t150 _ A33.out).mono ?_); rintro e w' ⟨rfl, ⟨nd, rfl⟩⟩) | (go_at_call 16; (with_reducible refine (impl_Faults.calls (wrap64 (1 + (Int.tmod (rd t138 0) 7))) t149 _ A34.out).mono ?_); rintro e w' ⟨rfl, ⟨nd, rfl⟩⟩) | (go_at_call 18; (with_reducible refine (impl_LeaderOf.calls (Int.tmod (rd t138 3) 200) (wrap64 (1 + (Int.tmod (rd t138 0) 7))) t152 _ A36.out).mono ?_); rintro e w' ⟨rfl, ⟨nd, rfl⟩⟩) | (go_at_call 18; (with_reducible refine (impl_LeaderOf.calls (Int.tmod (rd t138 3) 200) (wrap64 (1 + (Int.tmod (rd t138 0) 7))) t152 _ A38.out).mono ?_); rintro e w' ⟨rfl, ⟨nd, rfl⟩⟩) | (go_at_call 18; (with_reducible refine (impl_LeaderOf.calls (wrap64 ((Int.tmod (rd t138 3) 200) + 4)) (wrap64 (1 + (Int.tmod (rd t138 0) 7))) t154 _ A40.out).mono ?_); rintro e w' ⟨rfl, ⟨nd, rfl⟩⟩) | (go_at_call 18; (with_reducible refine (impl_LeaderOf.calls (Int.tmod (rd t138 3) 200) (wrap64 (1 + (Int.tmod (rd t138 0) 7))) t152 _ A41.out).mono ?_); rintro e w' ⟨rfl, ⟨nd, rfl⟩⟩))
                                        go_ret
                                        exact ⟨by first | rfl | (simp [errW_none, errW_some] <;> rfl) | (simp only [← hji7, ← hji9]; first | rfl | (simp [errW_none, errW_some] <;> rfl)) | (simp [*, errW_none, errW_some] <;> rfl), by repeat (first | (with_reducible first | exact HB.out | apply below_alloc | apply pw_below_drewN | apply below_drew1) | exact HB.out)⟩
                                  · rw [if_neg c39] at H
                                    have c39b0 : decide (t152 < (wrap64 (1 + (Int.tmod (rd t138 0) 7)))) = false := decide_eq_false c39
                                    clear c39
                                    obtain rfl := Option.some.inj H
                                    have p148 : 0 ≤ (3 : Int) := (by omega)
                                    have q148 : 3 < (t138.length : Int) := of_decide_eq_true (by first | (with_reducible assumption) | assumption)
                                    obtain ⟨ad148, e148, hx148_0⟩ := Kd.at_int (Kd.R_reads' HO_3.out).2.2 3 p148 q148
                                    obtain rfl : ad141 = ad148 := (by injection e148)
                                    (try simp only [show (3 : Int).toNat = 3 from rfl, Nat.reduceMul, Nat.reduceEqDiff, Go.Addr.add, ↓reduceIte] at hx148_0)
                                    have qi148 : (3 < t138.length) = True := eq_true (by omega)
                                    (try rw [show ((3 : Int)).toNat = 3 from rfl] at hx148_0)
                                    replace p148 := eq_true p148
                                    replace q148 := eq_true q148
                                    go_wp2_with (first | (go_at_call 16; (with_reducible refine (impl_Faults.calls (wrap64 (1 + (Int.tmod (rd t138 0) 7))) t149 _ A31.out).mono ?_); rintro e w' ⟨rfl, ⟨nd, rfl⟩⟩) | (go_at_call 20; (with_reducible refine (impl_Quorum.calls (wrap64 (1 + (Int.tmod (rd t138 0) 7))) t150 _ A33.out).mono ?_); rintro e w' ⟨rfl, ⟨nd, rfl⟩⟩) | (go_at_call 16; (with_reducible refine (impl_Faults.calls (wrap64 (1 + (Int.tmod (rd t138 0) 7))) t149 _ A34.out).mono ?_); rintro e w' ⟨rfl, ⟨nd, rfl⟩⟩) | (go_at_call 18; (with_reducible refine (impl_LeaderOf.calls (Int.tmod (rd t138 3) 200) (wrap64 (1 + (Int.tmod (rd t138 0) 7))) t152 _ A36.out).mono ?_); rintro e w' ⟨rfl, ⟨nd, rfl⟩⟩) | (go_at_call 18; (with_reducible refine (impl_LeaderOf.calls (Int.tmod (rd t138 3) 200) (wrap64 (1 + (Int.tmod (rd t138 0) 7))) t152 _ A38.out).mono ?_); rintro e w' ⟨rfl, ⟨nd, rfl⟩⟩))
                                    go_ret
                                    exact ⟨by first | rfl | (simp [errW_none, errW_some] <;> rfl) | (simp only [← hji7, ← hji9]; first | rfl | (simp [errW_none, errW_some] <;> rfl)) | (simp [*, errW_none, errW_some] <;> rfl), by repeat (first | (with_reducible first | exact HB.out | apply below_alloc | apply pw_below_drewN | apply below_drew1) | exact HB.out)⟩
                                · rw [if_neg c37] at H
                                  have c37b0 : decide (0 ≤ t152) = false := decide_eq_false c37
                                  clear c37
                                  obtain rfl := Option.some.inj H
                                  have p148 : 0 ≤ (3 : Int) := (by omega)
                                  have q148 : 3 < (t138.length : Int) := of_decide_eq_true (by first | (with_reducible assumption) | assumption)
                                  obtain ⟨ad148, e148, hx148_0⟩ := Kd.at_int (Kd.R_reads' HO_3.out).2.2 3 p148 q148
                                  obtain rfl : ad141 = ad148 := (by injection e148)
                                  (try simp only [show (3 : Int).toNat = 3 from rfl, Nat.reduceMul, Nat.reduceEqDiff, Go.Addr.add, ↓reduceIte] at hx148_0)
                                  have qi148 : (3 < t138.length) = True := eq_true (by omega)
                                  (try rw [show ((3 : Int)).toNat = 3 from rfl] at hx148_0)
                                  replace p148 := eq_true p148
                                  replace q148 := eq_true q148
                                  go_wp2_with (first | (go_at_call 16; (with_reducible refine (impl_Faults.calls (wrap64 (1 + (Int.tmod (rd t138 0) 7))) t149 _ A31.out).mono ?_); rintro e w' ⟨rfl, ⟨nd, rfl⟩⟩) | (go_at_call 20; (with_reducible refine (impl_Quorum.calls (wrap64 (1 + (Int.tmod (rd t138 0) 7))) t150 _ A33.out).mono ?_); rintro e w' ⟨rfl, ⟨nd, rfl⟩⟩) | (go_at_call 16; (with_reducible refine (impl_Faults.calls (wrap64 (1 + (Int.tmod (rd t138 0) 7))) t149 _ A34.out).mono ?_); rintro e w' ⟨rfl, ⟨nd, rfl⟩⟩) | (go_at_call 18; (with_reducible refine (impl_LeaderOf.calls (Int.tmod (rd t138 3) 200) (wrap64 (1 + (Int.tmod (rd t138 0) 7))) t152 _ A36.out).mono ?_); rintro e w' ⟨rfl, ⟨nd, rfl⟩⟩))
                                  go_ret
                                  exact ⟨by first | rfl | (simp [errW_none, errW_some] <;> rfl) | (simp only [← hji7, ← hji9]; first | rfl | (simp [errW_none, errW_some] <;> rfl)) | (simp [*, errW_none, errW_some] <;> rfl), by repeat (first | (with_reducible first | exact HB.out | apply below_alloc | apply pw_below_drewN | apply below_drew1) | exact HB.out)⟩
                              · rw [if_neg c35] at H
                                have c35b0 : ((wrap64 (t150 + t149)) == (wrap64 (1 + (Int.tmod (rd t138 0) 7)))) = false := beq_eq_false_iff_ne.mpr c35
                                have c35b1 : ((wrap64 (t150 + t149)) != (wrap64 (1 + (Int.tmod (rd t138 0) 7)))) = true := bne_iff_ne.mpr c35
                                obtain rfl := Option.some.inj H
                                have p148 : 0 ≤ (3 : Int) := (by omega)
                                have q148 : 3 < (t138.length : Int) := of_decide_eq_true (by first | (with_reducible assumption) | assumption)
                                obtain ⟨ad148, e148, hx148_0⟩ := Kd.at_int (Kd.R_reads' HO_3.out).2.2 3 p148 q148
                                obtain rfl : ad141 = ad148 := (by injection e148)
                                (try simp only [show (3 : Int).toNat = 3 from rfl, Nat.reduceMul, Nat.reduceEqDiff, Go.Addr.add, ↓reduceIte] at hx148_0)
                                have qi148 : (3 < t138.length) = True := eq_true (by omega)
                                (try rw [show ((3 : Int)).toNat = 3 from rfl] at hx148_0)
                                replace p148 := eq_true p148
                                replace q148 := eq_true q148
                                go_wp2_with (first | (go_at_call 16; (with_reducible refine (impl_Faults.calls (wrap64 (1 + (Int.tmod (rd t138 0) 7))) t149 _ A31.out).mono ?_); rintro e w' ⟨rfl, ⟨nd, rfl⟩⟩) | (go_at_call 20; (with_reducible refine (impl_Quorum.calls (wrap64 (1 + (Int.tmod (rd t138 0) 7))) t150 _ A33.out).mono ?_); rintro e w' ⟨rfl, ⟨nd, rfl⟩⟩) | (go_at_call 16; (with_reducible refine (impl_Faults.calls (wrap64 (1 + (Int.tmod (rd t138 0) 7))) t149 _ A34.out).mono ?_); rintro e w' ⟨rfl, ⟨nd, rfl⟩⟩))
                                go_ret
                                exact ⟨by first | rfl | (simp [errW_none, errW_some] <;> rfl) | (simp only [← hji7, ← hji9]; first | rfl | (simp [errW_none, errW_some] <;> rfl)) | (simp [*, errW_none, errW_some] <;> rfl), by repeat (first | (with_reducible first | exact HB.out | apply below_alloc | apply pw_below_drewN | apply below_drew1) | exact HB.out)⟩
                            · rw [if_neg c32] at H
                              have c32b0 : decide (t149 < x7_1) = false := decide_eq_false c32
                              clear c32
                              obtain rfl := Option.some.inj H
                              have p148 : 0 ≤ (3 : Int) := (by omega)
                              have q148 : 3 < (t138.length : Int) := of_decide_eq_true (by first | (with_reducible assumption) | assumption)
                              obtain ⟨ad148, e148, hx148_0⟩ := Kd.at_int (Kd.R_reads' HO_3.out).2.2 3 p148 q148
                              obtain rfl : ad141 = ad148 := (by injection e148)
                              (try simp only [show (3 : Int).toNat = 3 from rfl, Nat.reduceMul, Nat.reduceEqDiff, Go.Addr.add, ↓reduceIte] at hx148_0)
                              have qi148 : (3 < t138.length) = True := eq_true (by omega)
                              (try rw [show ((3 : Int)).toNat = 3 from rfl] at hx148_0)
                              replace p148 := eq_true p148
                              replace q148 := eq_true q148
                              go_wp2_with (first | (go_at_call 16; (with_reducible refine (impl_Faults.calls (wrap64 (1 + (Int.tmod (rd t138 0) 7))) t149 _ A31.out).mono ?_); rintro e w' ⟨rfl, ⟨nd, rfl⟩⟩))
                              go_ret
                              exact ⟨by first | rfl | (simp [errW_none, errW_some] <;> rfl) | (simp only [← hji7, ← hji9]; first | rfl | (simp [errW_none, errW_some] <;> rfl)) | (simp [*, errW_none, errW_some] <;> rfl), by repeat (first | (with_reducible first | exact HB.out | apply below_alloc | apply pw_below_drewN | apply below_drew1) | exact HB.out)⟩
                          · replace c30 := Bool.eq_false_iff.mpr c30
                            subst c30
                            have H1 : ((impl_Quorum.f (wrap64 (1 + (Int.tmod (rd t138 0) 7)))).bind fun t158 => ((impl_Faults.f (wrap64 (1 + (Int.tmod (rd t138 0) 7)))).bind fun t159 => (if (wrap64 (t158 + t159)) = (wrap64 (1 + (Int.tmod (rd t138 0) 7))) then ((impl_LeaderOf.f (Int.tmod (rd t138 3) 200) (wrap64 (1 + (Int.tmod (rd t138 0) 7)))).bind fun t160 => (if t160 ≥ 0 then ((impl_LeaderOf.f (Int.tmod (rd t138 3) 200) (wrap64 (1 + (Int.tmod (rd t138 0) 7)))).bind fun t161 => (if t161 < (wrap64 (1 + (Int.tmod (rd t138 0) 7))) then ((impl_LeaderOf.f (wrap64 ((Int.tmod (rd t138 3) 200) + 4)) (wrap64 (1 + (Int.tmod (rd t138 0) 7)))).bind fun t162 => ((impl_LeaderOf.f (Int.tmod (rd t138 3) 200) (wrap64 (1 + (Int.tmod (rd t138 0) 7)))).bind fun t163 => (if (wrap64 (1 + (Int.tmod (rd t138 0) 7))) = 0 then (none) else (if t162 = (Int.tmod (wrap64 (t163 + 1)) (wrap64 (1 + (Int.tmod (rd t138 0) 7)))) then ((impl_LeaderOf.f (wrap64 ((wrap64 (4 * (Int.tmod (rd t138 3) 200))) + 3)) (wrap64 (1 + (Int.tmod (rd t138 0) 7)))).bind fun t164 => ((impl_LeaderOf.f (wrap64 (4 * (Int.tmod (rd t138 3) 200))) (wrap64 (1 + (Int.tmod (rd t138 0) 7)))).bind fun t165 => (some (t164 == t165)))) else (some false))))) else (some false))) else (some false))) else (some false)))) = some r := by rw [if_neg (show ¬ (false = true) by decide)] at H; exact H
                            clear H
                            have H := H1
                            clear H1
                            replace H := Option.bind_eq_some_iff.mp H
                            obtain ⟨t158, A460, H⟩ := H
                            replace H : ((impl_Faults.f (wrap64 (1 + (Int.tmod (rd t138 0) 7)))).bind fun t159 => (if (wrap64 (t158 + t159)) = (wrap64 (1 + (Int.tmod (rd t138 0) 7))) then ((impl_LeaderOf.f (Int.tmod (rd t138 3) 200) (wrap64 (1 + (Int.tmod (rd t138 0) 7)))).bind fun t160 => (if t160 ≥ 0 then ((impl_LeaderOf.f (Int.tmod (rd t138 3) 200) (wrap64 (1 + (Int.tmod (rd t138 0) 7)))).bind fun t161 => (if t161 < (wrap64 (1 + (Int.tmod (rd t138 0) 7))) then ((impl_LeaderOf.f (wrap64 ((Int.tmod (rd t138 3) 200) + 4)) (wrap64 (1 + (Int.tmod (rd t138 0) 7)))).bind fun t162 => ((impl_LeaderOf.f (Int.tmod (rd t138 3) 200) (wrap64 (1 + (Int.tmod (rd t138 0) 7)))).bind fun t163 => (if (wrap64 (1 + (Int.tmod (rd t138 0) 7))) = 0 then (none) else (if t162 = (Int.tmod (wrap64 (t163 + 1)) (wrap64 (1 + (Int.tmod (rd t138 0) 7)))) then ((impl_LeaderOf.f (wrap64 ((wrap64 (4 * (Int.tmod (rd t138 3) 200))) + 3)) (wrap64 (1 + (Int.tmod (rd t138 0) 7)))).bind fun t164 => ((impl_LeaderOf.f (wrap64 (4 * (Int.tmod (rd t138 3) 200))) (wrap64 (1 + (Int.tmod (rd t138 0) 7)))).bind fun t165 => (some (t164 == t165)))) else (some false))))) else (some false))) else (some false))) else (some false))) = some r := H
                            have A46 := Aside0.mk A460
                            clear A460
                            replace H := Option.bind_eq_some_iff.mp H
                            obtain ⟨t159, A470, H⟩ := H
                            replace H : (if (wrap64 (t158 + t159)) = (wrap64 (1 + (Int.tmod (rd t138 0) 7))) then ((impl_LeaderOf.f (Int.tmod (rd t138 3) 200) (wrap64 (1 + (Int.tmod (rd t138 0) 7)))).bind fun t160 => (if t160 ≥ 0 then ((impl_LeaderOf.f (Int.tmod (rd t138 3) 200) (wrap64 (1 + (Int.tmod (rd t138 0) 7)))).bind fun t161 => (if t161 < (wrap64 (1 + (Int.tmod (rd t138 0) 7))) then ((impl_LeaderOf.f (wrap64 ((Int.tmod (rd t138 3) 200) + 4)) (wrap64 (1 + (Int.tmod (rd t138 0) 7)))).bind fun t162 => ((impl_LeaderOf.f (Int.tmod (rd t138 3) 200) (wrap64 (1 + (Int.tmod (rd t138 0) 7)))).bind fun t163 => (if (wrap64 (1 + (Int.tmod (rd t138 0) 7))) = 0 then (none) else (if t162 = (Int.tmod (wrap64 (t163 + 1)) (wrap64 (1 + (Int.tmod (rd t138 0) 7)))) then ((impl_LeaderOf.f (wrap64 ((wrap64 (4 * (Int.tmod (rd t138 3) 200))) + 3)) (wrap64 (1 + (Int.tmod (rd t138 0) 7)))).bind fun t164 => ((impl_LeaderOf.f (wrap64 (4 * (Int.tmod (rd t138 3) 200))) (wrap64 (1 + (Int.tmod (rd t138 0) 7)))).bind fun t165 => (some (t164 == t165)))) else (some false))))) else (some false))) else (some false))) else (some false)) = some r := H
                            have A47 := Aside0.mk A470
                            clear A470
                            by_cases c48 : (wrap64 (t158 + t159)) = (wrap64 (1 + (Int.tmod (rd t138 0) 7)))
                            · rw [if_pos c48] at H
                              have c48b0 : ((wrap64 (t158 + t159)) == (wrap64 (1 + (Int.tmod (rd t138 0) 7)))) = true := beq_iff_eq.mpr c48
                              have c48b1 : ((wrap64 (t158 + t159)) != (wrap64 (1 + (Int.tmod (rd t138 0) 7)))) = false := bne_eq_false_iff_eq.mpr c48
                              clear c48
                              replace H := Option.bind_eq_some_iff.mp H
                              obtain ⟨t160, A490, H⟩ := H
                              replace H : (if t160 ≥ 0 then ((impl_LeaderOf.f (Int.tmod (rd t138 3) 200) (wrap64 (1 + (Int.tmod (rd t138 0) 7)))).bind fun t161 => (if t161 < (wrap64 (1 + (Int.tmod (rd t138 0) 7))) then ((impl_LeaderOf.f (wrap64 ((Int.tmod (rd t138 3) 200) + 4)) (wrap64 (1 + (Int.tmod (rd t138 0) 7)))).bind fun t162 => ((impl_LeaderOf.f (Int.tmod (rd t138 3) 200) (wrap64 (1 + (Int.tmod (rd t138 0) 7)))).bind fun t163 => (if (wrap64 (1 + (Int.tmod (rd t138 0) 7))) = 0 then (none) else (if t162 = (Int.tmod (wrap64 (t163 + 1)) (wrap64 (1 + (Int.tmod (rd t138 0) 7)))) then ((impl_LeaderOf.f (wrap64 ((wrap64 (4 * (Int.tmod (rd t138 3) 200))) + 3)) (wrap64 (1 + (Int.tmod (rd t138 0) 7)))).bind fun t164 => ((impl_LeaderOf.f (wrap64 (4 * (Int.tmod (rd t138 3) 200))) (wrap64 (1 + (Int.tmod (rd t138 0) 7)))).bind fun t165 => (some (t164 == t165)))) else (some false))))) else (some false))) else (some false)) = some r := H
                              have A49 := Aside0.mk A490
                              clear A490
                              by_cases c50 : t160 ≥ 0
                              · rw [if_pos c50] at H
                                have c50b0 : decide (0 ≤ t160) = true := decide_eq_true c50
                                clear c50
                                replace H := Option.bind_eq_some_iff.mp H
                                obtain ⟨t161, A510, H⟩ := H
                                obtain rfl : t160 = t161 := Option.some.inj (A49.out.symm.trans A510)
                                replace H : (if t160 < (wrap64 (1 + (Int.tmod (rd t138 0) 7))) then ((impl_LeaderOf.f (wrap64 ((Int.tmod (rd t138 3) 200) + 4)) (wrap64 (1 + (Int.tmod (rd t138 0) 7)))).bind fun t162 => ((impl_LeaderOf.f (Int.tmod (rd t138 3) 200) (wrap64 (1 + (Int.tmod (rd t138 0) 7)))).bind fun t163 => (if (wrap64 (1 + (Int.tmod (rd t138 0) 7))) = 0 then (none) else (if t162 = (Int.tmod (wrap64 (t163 + 1)) (wrap64 (1 + (Int.tmod (rd t138 0) 7)))) then ((impl_LeaderOf.f (wrap64 ((wrap64 (4 * (Int.tmod (rd t138 3) 200))) + 3)) (wrap64 (1 + (Int.tmod (rd t138 0) 7)))).bind fun t164 => ((impl_LeaderOf.f (wrap64 (4 * (Int.tmod (rd t138 3) 200))) (wrap64 (1 + (Int.tmod (rd t138 0) 7)))).bind fun t165 => (some (t164 == t165)))) else (some false))))) else (some false)) = some r := H
                                have A51 := Aside0.mk A510
                                clear A510
                                by_cases c52 : t160 < (wrap64 (1 + (Int.tmod (rd t138 0) 7)))
                                · rw [if_pos c52] at H
                                  have c52b0 : decide (t160 < (wrap64 (1 + (Int.tmod (rd t138 0) 7)))) = true := decide_eq_true c52
                                  clear c52
                                  replace H := Option.bind_eq_some_iff.mp H
                                  obtain ⟨t162, A530, H⟩ := H
                                  replace H : ((impl_LeaderOf.f (Int.tmod (rd t138 3) 200) (wrap64 (1 + (Int.tmod (rd t138 0) 7)))).bind fun t163 => (if (wrap64 (1 + (Int.tmod (rd t138 0) 7))) = 0 then (none) else (if t162 = (Int.tmod (wrap64 (t163 + 1)) (wrap64 (1 + (Int.tmod (rd t138 0) 7)))) then ((impl_LeaderOf.f (wrap64 ((wrap64 (4 * (Int.tmod (rd t138 3) 200))) + 3)) (wrap64 (1 + (Int.tmod (rd t138 0) 7)))).bind fun t164 => ((impl_LeaderOf.f (wrap64 (4 * (Int.tmod (rd t138 3) 200))) (wrap64 (1 + (Int.tmod (rd t138 0) 7)))).bind fun t165 => (some (t164 == t165)))) else (some false)))) = some r := H
                                  have A53 := Aside0.mk A530
                                  clear A530
                                  replace H := Option.bind_eq_some_iff.mp H
                                  obtain ⟨t163, A540, H⟩ := H
                                  obtain rfl : t160 = t163 := Option.some.inj (A49.out.symm.trans A540)
                                  replace H : (if (wrap64 (1 + (Int.tmod (rd t138 0) 7))) = 0 then (none) else (if t162 = (Int.tmod (wrap64 (t160 + 1)) (wrap64 (1 + (Int.tmod (rd t138 0) 7)))) then ((impl_LeaderOf.f (wrap64 ((wrap64 (4 * (Int.tmod (rd t138 3) 200))) + 3)) (wrap64 (1 + (Int.tmod (rd t138 0) 7)))).bind fun t164 => ((impl_LeaderOf.f (wrap64 (4 * (Int.tmod (rd t138 3) 200))) (wrap64 (1 + (Int.tmod (rd t138 0) 7)))).bind fun t165 => (some (t164 == t165)))) else (some false))) = some r := H
                                  have A54 := Aside0.mk A540
                                  clear A540
                                  by_cases c55 : (wrap64 (1 + (Int.tmod (rd t138 0) 7))) = 0
                                  · rw [if_pos c55] at H
                                    exact absurd H (by simp)
                                  · rw [if_neg c55] at H
                                    have c55b0 : ((wrap64 (1 + (Int.tmod (rd t138 0) 7))) == 0) = false := beq_eq_false_iff_ne.mpr c55
                                    have c55b1 : ((wrap64 (1 + (Int.tmod (rd t138 0) 7))) != 0) = true := bne_iff_ne.mpr c55
                                    by_cases c56 : t162 = (Int.tmod (wrap64 (t160 + 1)) (wrap64 (1 + (Int.tmod (rd t138 0) 7))))
                                    · rw [if_pos c56] at H
                                      have c56b0 : (t162 == (Int.tmod (wrap64 (t160 + 1)) (wrap64 (1 + (Int.tmod (rd t138 0) 7))))) = true := beq_iff_eq.mpr c56
                                      have c56b1 : (t162 != (Int.tmod (wrap64 (t160 + 1)) (wrap64 (1 + (Int.tmod (rd t138 0) 7))))) = false := bne_eq_false_iff_eq.mpr c56
                                      clear c56
                                      replace H := Option.bind_eq_some_iff.mp H
                                      obtain ⟨t164, A570, H⟩ := H
                                      replace H : ((impl_LeaderOf.f (wrap64 (4 * (Int.tmod (rd t138 3) 200))) (wrap64 (1 + (Int.tmod (rd t138 0) 7)))).bind fun t165 => (some (t164 == t165))) = some r := H
                                      have A57 := Aside0.mk A570
                                      clear A570
                                      replace H := Option.bind_eq_some_iff.mp H
                                      obtain ⟨t165, A580, H⟩ := H
                                      replace H : (some (t164 == t165)) = some r := H
                                      have A58 := Aside0.mk A580
                                      clear A580
                                      obtain rfl := Option.some.inj H
                                      have p148 : 0 ≤ (3 : Int) := (by omega)
                                      have q148 : 3 < (t138.length : Int) := of_decide_eq_true (by first | (with_reducible assumption) | assumption)
                                      obtain ⟨ad148, e148, hx148_0⟩ := Kd.at_int (Kd.R_reads' HO_3.out).2.2 3 p148 q148
                                      obtain rfl : ad141 = ad148 := (by injection e148)
                                      (try simp only [show (3 : Int).toNat = 3 from rfl, Nat.reduceMul, Nat.reduceEqDiff, Go.Addr.add, ↓reduceIte] at hx148_0)
                                      have qi148 : (3 < t138.length) = True := eq_true (by omega)
                                      (try rw [show ((3 : Int)).toNat = 3 from rfl] at hx148_0)
                                      replace p148 := eq_true p148
                                      replace q148 := eq_true q148
                                      go_wp2_with (first | (go_at_call 20; (with_reducible refine (impl_Quorum.calls (wrap64 (1 + (Int.tmod (rd t138 0) 7))) t158 _ A46.out).mono ?_); rintro e w' ⟨rfl, ⟨nd, rfl⟩⟩) | (go_at_call 16; (with_reducible refine (impl_Faults.calls (wrap64 (1 + (Int.tmod (rd t138 0) 7))) t159 _ A47.out).mono ?_); rintro e w' ⟨rfl, ⟨nd, rfl⟩⟩) | (go_at_call 18; (with_reducible refine (impl_LeaderOf.calls (Int.tmod (rd t138 3) 200) (wrap64 (1 + (Int.tmod (rd t138 0) 7))) t160 _ A49.out).mono ?_); rintro e w' ⟨rfl, ⟨nd, rfl⟩⟩) | (go_at_call 18; (with_reducible refine (impl_LeaderOf.calls (Int.tmod (rd t138 3) 200) (wrap64 (1 + (Int.tmod (rd t138 0) 7))) t160 _ A51.out).mono ?_); rintro e w' ⟨rfl, ⟨nd, rfl⟩⟩) | (go_at_call 18; (with_reducible refine (impl_LeaderOf.calls (wrap64 ((Int.tmod (rd t138 3) 200) + 4)) (wrap64 (1 + (Int.tmod (rd t138 0) 7))) t162 _ A53.out).mono ?_); rintro e w' ⟨rfl, ⟨nd, rfl⟩⟩) | (go_at_call 18; (with_reducible refine (impl_LeaderOf.calls (Int.tmod (rd t138 3) 200) (wrap64 (1 + (Int.tmod (rd t138 0) 7))) t160 _ A54.out).mono ?_); rintro e w' ⟨rfl, ⟨nd, rfl⟩⟩) | (go_at_call 18; (with_reducible refine (impl_LeaderOf.calls (wrap64 ((wrap64 (4 * (Int.tmod (rd t138 3) 200))) + 3)) (wrap64 (1 + (Int.tmod (rd t138 0) 7))) t164 _ A57.out).mono ?_); rintro e w' ⟨rfl, ⟨nd, rfl⟩⟩) | (go_at_call 18; (with_reducible refine (impl_LeaderOf.calls (wrap64 (4 * (Int.tmod (rd t138 3) 200))) (wrap64 (1 + (Int.tmod (rd t138 0) 7))) t165 _ A58.out).mono ?_); rintro e w' ⟨rfl, ⟨nd, rfl⟩⟩))
                                      go_ret
                                      exact ⟨by first | rfl | (simp [errW_none, errW_some] <;> rfl) | (simp only [← hji7, ← hji9]; first | rfl | (simp [errW_none, errW_some] <;> rfl)) | (simp [*, errW_none, errW_some] <;> rfl), by repeat (first | (with_reducible first | exact HB.out | apply below_alloc | apply pw_below_drewN | apply below_drew1) | exact HB.out)⟩
                                    · rw [if_neg c56] at H
                                      have c56b0 : (t162 == (Int.tmod (wrap64 (t160 + 1)) (wrap64 (1 + (Int.tmod (rd t138 0) 7))))) = false := beq_eq_false_iff_ne.mpr c56
                                      have c56b1 : (t162 != (Int.tmod (wrap64 (t160 + 1)) (wrap64 (1 + (Int.tmod (rd t138 0) 7))))) = true := bne_iff_ne.mpr c56
                                      obtain rfl := Option.some.inj H
                                      have p148 : 0 ≤ (3 : Int) := (by omega)
                                      have q148 : 3 < (t138.length : Int) := of_decide_eq_true (by first | (with_reducible assumption) | assumption)
                                      obtain ⟨ad148, e148, hx148_0⟩ := Kd.at_int (Kd.R_reads' HO_3.out).2.2 3 p148 q148
                                      obtain rfl : ad141 = ad148 := (by injection e148)
                                      (try simp only [show (3 : Int).toNat = 3 from rfl, Nat.reduceMul, Nat.reduceEqDiff, Go.Addr.add, ↓reduceIte] at hx148_0)
                                      have qi148 : (3 < t138.length) = True := eq_true (by omega)
                                      (try rw [show ((3 : Int)).toNat = 3 from rfl] at hx148_0)
                                      replace p148 := eq_true p148
                                      replace q148 := eq_true q148
                                      go_wp2_with (first | (go_at_call 20; (with_reducible refine (impl_Quorum.calls (wrap64 (1 + (Int.tmod (rd t138 0) 7))) t158 _ A46.out).mono ?_); rintro e w' ⟨rfl, ⟨nd, rfl⟩⟩) | (go_at_call 16; (with_reducible refine (impl_Faults.calls (wrap64 (1 + (Int.tmod (rd t138 0) 7))) t159 _ A47.out).mono ?_); rintro e w' ⟨rfl, ⟨nd, rfl⟩⟩) | (go_at_call 18; (with_reducible refine (impl_LeaderOf.calls (Int.tmod (rd t138 3) 200) (wrap64 (1 + (Int.tmod (rd t138 0) 7))) t160 _ A49.out).mono ?_); rintro e w' ⟨rfl, ⟨nd, rfl⟩⟩) | (go_at_call 18; (with_reducible refine (impl_LeaderOf.calls (Int.tmod (rd t138 3) 200) (wrap64 (1 + (Int.tmod (rd t138 0) 7))) t160 _ A51.out).mono ?_); rintro e w' ⟨rfl, ⟨nd, rfl⟩⟩) | (go_at_call 18; (with_reducible refine (impl_LeaderOf.calls (wrap64 ((Int.tmod (rd t138 3) 200) + 4)) (wrap64 (1 + (Int.tmod (rd t138 0) 7))) t162 _ A53.out).mono ?_); rintro e w' ⟨rfl, ⟨nd, rfl⟩⟩) | (go_at_call 18; (with_reducible refine (impl_LeaderOf.calls (Int.tmod (rd t138 3) 200) (wrap64 (1 + (Int.tmod (rd t138 0) 7))) t160 _ A54.out).mono ?_); rintro e w' ⟨rfl, ⟨nd, rfl⟩⟩))
                                      go_ret
                                      exact ⟨by first | rfl | (simp [errW_none, errW_some] <;> rfl) | (simp only [← hji7, ← hji9]; first | rfl | (simp [errW_none, errW_some] <;> rfl)) | (simp [*, errW_none, errW_some] <;> rfl), by repeat (first | (with_reducible first | exact HB.out | apply below_alloc | apply pw_below_drewN | apply below_drew1) | exact HB.out)⟩
                                · rw [if_neg c52] at H
                                  have c52b0 : decide (t160 < (wrap64 (1 + (Int.tmod (rd t138 0) 7)))) = false := decide_eq_false c52
                                  clear c52
                                  obtain rfl := Option.some.inj H
                                  have p148 : 0 ≤ (3 : Int) := (by omega)
                                  have q148 : 3 < (t138.length : Int) := of_decide_eq_true (by first | (with_reducible assumption) | assumption)
                                  obtain ⟨ad148, e148, hx148_0⟩ := Kd.at_int (Kd.R_reads' HO_3.out).2.2 3 p148 q148
                                  obtain rfl : ad141 = ad148 := (by injection e148)
                                  (try simp only [show (3 : Int).toNat = 3 from rfl, Nat.reduceMul, Nat.reduceEqDiff, Go.Addr.add, ↓reduceIte] at hx148_0)
                                  have qi148 : (3 < t138.length) = True := eq_true (by omega)
                                  (try rw [show ((3 : Int)).toNat = 3 from rfl] at hx148_0)
                                  replace p148 := eq_true p148
                                  replace q148 := eq_true q148
                                  go_wp2_with (first | (go_at_call 20; (with_reducible refine (impl_Quorum.calls (wrap64 (1 + (Int.tmod (rd t138 0) 7))) t158 _ A46.out).mono ?_); rintro e w' ⟨rfl, ⟨nd, rfl⟩⟩) | (go_at_call 16; (with_reducible refine (impl_Faults.calls (wrap64 (1 + (Int.tmod (rd t138 0) 7))) t159 _ A47.out).mono ?_); rintro e w' ⟨rfl, ⟨nd, rfl⟩⟩) | (go_at_call 18; (with_reducible refine (impl_LeaderOf.calls (Int.tmod (rd t138 3) 200) (wrap64 (1 + (Int.tmod (rd t138 0) 7))) t160 _ A49.out).mono ?_); rintro e w' ⟨rfl, ⟨nd, rfl⟩⟩) | (go_at_call 18; (with_reducible refine (impl_LeaderOf.calls (Int.tmod (rd t138 3) 200) (wrap64 (1 + (Int.tmod (rd t138 0) 7))) t160 _ A51.out).mono ?_); rintro e w' ⟨rfl, ⟨nd, rfl⟩⟩))
                                  go_ret
                                  exact ⟨by first | rfl | (simp [errW_none, errW_some] <;> rfl) | (simp only [← hji7, ← hji9]; first | rfl | (simp [errW_none, errW_some] <;> rfl)) | (simp [*, errW_none, errW_some] <;> rfl), by repeat (first | (with_reducible first | exact HB.out | apply below_alloc | apply pw_below_drewN | apply below_drew1) | exact HB.out)⟩
                              · rw [if_neg c50] at H
                                have c50b0 : decide (0 ≤ t160) = false := decide_eq_false c50
                                clear c50
                                obtain rfl := Option.some.inj H
                                have p148 : 0 ≤ (3 : Int) := (by omega)
                                have q148 : 3 < (t138.length : Int) := of_decide_eq_true (by first | (with_reducible assumption) | assumption)
                                obtain ⟨ad148, e148, hx148_0⟩ := Kd.at_int (Kd.R_reads' HO_3.out).2.2 3 p148 q148
                                obtain rfl : ad141 = ad148 := (by injection e148)
                                (try simp only [show (3 : Int).toNat = 3 from rfl, Nat.reduceMul, Nat.reduceEqDiff, Go.Addr.add, ↓reduceIte] at hx148_0)
                                have qi148 : (3 < t138.length) = True := eq_true (by omega)
                                (try rw [show ((3 : Int)).toNat = 3 from rfl] at hx148_0)
                                replace p148 := eq_true p148
                                replace q148 := eq_true q148
                                go_wp2_with (first | (go_at_call 20; (with_reducible refine (impl_Quorum.calls (wrap64 (1 + (Int.tmod (rd t138 0) 7))) t158 _ A46.out).mono ?_); rintro e w' ⟨rfl, ⟨nd, rfl⟩⟩) | (go_at_call 16; (with_reducible refine (impl_Faults.calls (wrap64 (1 + (Int.tmod (rd t138 0) 7))) t159 _ A47.out).mono ?_); rintro e w' ⟨rfl, ⟨nd, rfl⟩⟩) | (go_at_call 18; (with_reducible refine (impl_LeaderOf.calls (Int.tmod (rd t138 3) 200) (wrap64 (1 + (Int.tmod (rd t138 0) 7))) t160 _ A49.out).mono ?_); rintro e w' ⟨rfl, ⟨nd, rfl⟩⟩))
                                go_ret
                                exact ⟨by first | rfl | (simp [errW_none, errW_some] <;> rfl) | (simp only [← hji7, ← hji9]; first | rfl | (simp [errW_none, errW_some] <;> rfl)) | (simp [*, errW_none, errW_some] <;> rfl), by repeat (first | (with_reducible first | exact HB.out | apply below_alloc | apply pw_below_drewN | apply below_drew1) | exact HB.out)⟩
                            · rw [if_neg c48] at H
                              have c48b0 : ((wrap64 (t158 + t159)) == (wrap64 (1 + (Int.tmod (rd t138 0) 7)))) = false := beq_eq_false_iff_ne.mpr c48
                              have c48b1 : ((wrap64 (t158 + t159)) != (wrap64 (1 + (Int.tmod (rd t138 0) 7)))) = true := bne_iff_ne.mpr c48
                              obtain rfl := Option.some.inj H
                              have p148 : 0 ≤ (3 : Int) := (by omega)
                              have q148 : 3 < (t138.length : Int) := of_decide_eq_true (by first | (with_reducible assumption) | assumption)
                              obtain ⟨ad148, e148, hx148_0⟩ := Kd.at_int (Kd.R_reads' HO_3.out).2.2 3 p148 q148
                              obtain rfl : ad141 = ad148 := (by injection e148)
                              (try simp only [show (3 : Int).toNat = 3 from rfl, Nat.reduceMul, Nat.reduceEqDiff, Go.Addr.add, ↓reduceIte] at hx148_0)
                              have qi148 : (3 < t138.length) = True := eq_true (by omega)
                              (try rw [show ((3 : Int)).toNat = 3 from rfl] at hx148_0)
                              replace p148 := eq_true p148
                              replace q148 := eq_true q148
                              go_wp2_with (first | (go_at_call 20; (with_reducible refine (impl_Quorum.calls (wrap64 (1 + (Int.tmod (rd t138 0) 7))) t158 _ A46.out).mono ?_); rintro e w' ⟨rfl, ⟨nd, rfl⟩⟩) | (go_at_call 16; (with_reducible refine (impl_Faults.calls (wrap64 (1 + (Int.tmod (rd t138 0) 7))) t159 _ A47.out).mono ?_); rintro e w' ⟨rfl, ⟨nd, rfl⟩⟩))
                              go_ret
                              exact ⟨by first | rfl | (simp [errW_none, errW_some] <;> rfl) | (simp only [← hji7, ← hji9]; first | rfl | (simp [errW_none, errW_some] <;> rfl)) | (simp [*, errW_none, errW_some] <;> rfl), by repeat (first | (with_reducible first | exact HB.out | apply below_alloc | apply pw_below_drewN | apply below_drew1) | exact HB.out)⟩
                        · rw [if_neg c29] at H
                          exact absurd H (by simp)
            · rw [if_neg c11] at H
              exact absurd H (by simp)
        · rw [if_neg c8] at H
          exact absurd H (by simp)
      · rw [if_neg c6] at H
        exact absurd H (by simp)
    · rw [if_neg c5] at H
      exact absurd H (by simp)

/-- THE ONE PURE STATEMENT of laws_FnQuorums: yours. -/
def laws_FnQuorums.Pure : Prop := ∀ (l0 : List Int), l0.length ≤ maxLen → l0.length * 1 ≤ 140737488351232 → (∀ x ∈ l0, (Lit.int .u8 x).wf = true) → ∃ k, laws_FnQuorums.f k l0 = some true
theorem laws_FnQuorums.walk (P : laws_FnQuorums.Pure) (a0 : Option Addr) (len0 cap0 : Nat) (z0 : List Int) (w : World) (w0 : (a0 = none ∧ len0 = 0 ∧ cap0 = 0 ∧ z0 = []) ∨ ∃ x, a0 = some x ∧ len0 ≤ cap0 ∧ cap0 ≤ maxLen ∧ z0.length = cap0 ∧ (∀ i, i < z0.length → w.cell? (x.add i) = some (.int .u8 (z0.getD i 0))) ∧ ∀ n ∈ z0, (Lit.int .u8 n).wf = true) (y0 : len0 * 1 ≤ 140737488351232) :
    Calls Try.prog 10 #[.slice a0 len0 cap0] w fun e w' => e = .returned (.bool true) ∧ Below w.heap.size w w' := by
  obtain ⟨l0, rfl, hr0, hm0, hw0, hc0⟩ := ReadsInt.ofRowC w0
  obtain ⟨k, h⟩ := P l0 hm0 y0 hw0
  refine (laws_FnQuorums.calls k _ _ l0 true w (Kd.C_of_reads (d := (0 : Int)) (h1 := fun _ => rfl) hr0) hc0 h).mono ?_
  rintro e w' ⟨rfl, hd⟩
  exact ⟨rfl, hd⟩

end Go.Proofs.Ytggnchbalheicaa.QFnQuorums
