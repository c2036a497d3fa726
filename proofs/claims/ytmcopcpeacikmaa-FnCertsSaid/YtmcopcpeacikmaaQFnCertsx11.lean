-- Written by a program of this session, for this claim.
import Derived.Test.YtmcopcpeacikmaaTd
import Derived.Test.YtmcopcpeacikmaaQFnCertsx0
import Derived.Test.YtmcopcpeacikmaaQFnCertsx4
import Derived.Test.YtmcopcpeacikmaaQFnCertsx10
namespace Go.Proofs.Ytmcopcpeacikmaa.QFnCerts
open Go.RowKit Go.Proofs.YtmcopcpeacikmaaW.PrintWords Go.Proofs.YtmcopcpeacikmaaW.PrintLast Go.Proofs.YtmcopcpeacikmaaW.PrintMore
attribute [local go_sem] max2_int min2_int max_two min_two max_three min_three max_four min_four   -- for this text's walks alone
set_option linter.unusedVariables false
set_option linter.unusedSimpArgs false

/-! ### laws_FnCerts: function 6 -/
mutual
def laws_FnCerts.l0 : Nat → List (S40) → Int → Bool → Int → Int → Int → Int → Int → Int → Int → Int → Int → Option (Bool)
  | 0, _, _, _, _, _, _, _, _, _, _, _, _ => none
  | k + 1, x4, x8, x10, x11, x398000, x398001, x398002, x398003, x405000, x405001, x405002, x405003 => if x11 < 7 then (laws_FnCerts.l1 k x4 x8 x10 x11 false 0 x398000 x398001 x398002 x398003 x405000 x405001 x405002 x405003) else ((impl_CountOf.f k x8).bind fun t407 => (if (x10 != (decide (t407 ≥ 3))) = true then (laws_FnCerts.j2 k x4 x8 true x398000 x398001 x398002 x398003) else (if x10 = true then (if x405003 = x8 then ((impl_Proven.f k x4 x405000 x405001 x405002 x405003 0).bind fun t408 => (laws_FnCerts.j2 k x4 x8 (!t408) x398000 x398001 x398002 x398003)) else (laws_FnCerts.j2 k x4 x8 true x398000 x398001 x398002 x398003)) else (laws_FnCerts.j2 k x4 x8 false x398000 x398001 x398002 x398003))))
def laws_FnCerts.l1 : Nat → List (S40) → Int → Bool → Int → Bool → Int → Int → Int → Int → Int → Int → Int → Int → Int → Option (Bool)
  | 0, _, _, _, _, _, _, _, _, _, _, _, _, _, _ => none
  | k + 1, x4, x8, x10, x11, x12, x13, x398000, x398001, x398002, x398003, x405000, x405001, x405002, x405003 => if x13 < (x4.length : Int) then (if 0 ≤ x13 then (if x12 = true then (laws_FnCerts.l1 k x4 x8 x10 x11 true (wrap64 (x13 + 1)) x398000 x398001 x398002 x398003 x405000 x405001 x405002 x405003) else (if ((rd_T40 x4 x13).f3) = x11 then (if ((rd_T40 x4 x13).f0) = x398000 then (if ((rd_T40 x4 x13).f1) = x398001 then (laws_FnCerts.l1 k x4 x8 x10 x11 (((rd_T40 x4 x13).f2) == x398002) (wrap64 (x13 + 1)) x398000 x398001 x398002 x398003 x405000 x405001 x405002 x405003) else (laws_FnCerts.l1 k x4 x8 x10 x11 false (wrap64 (x13 + 1)) x398000 x398001 x398002 x398003 x405000 x405001 x405002 x405003)) else (laws_FnCerts.l1 k x4 x8 x10 x11 false (wrap64 (x13 + 1)) x398000 x398001 x398002 x398003 x405000 x405001 x405002 x405003)) else (laws_FnCerts.l1 k x4 x8 x10 x11 false (wrap64 (x13 + 1)) x398000 x398001 x398002 x398003 x405000 x405001 x405002 x405003))) else (none)) else (if 0 ≤ (IntKind.u64.wrap (x11)) then (if (x12 != ((Int.tmod (shr .i64 x8 (IntKind.u64.wrap (x11))) 2) == 1)) = true then (some false) else (laws_FnCerts.l0 k x4 x8 x10 (wrap64 (x11 + 1)) x398000 x398001 x398002 x398003 x405000 x405001 x405002 x405003)) else (none))
def laws_FnCerts.j2 : Nat → List (S40) → Int → Bool → Int → Int → Int → Int → Option (Bool)
  | 0, _, _, _, _, _, _, _ => none
  | k + 1, x4, x8, x134, x398000, x398001, x398002, x398003 => if x134 = true then (some false) else (if x398001 = 0 then (some true) else ((impl_Proven.f k x4 x398000 x398001 x398002 (Go.bits .or .i64 x8 64) 64).bind fun t410 => (if t410 = true then ((impl_Proven.f k x4 x398000 x398001 x398002 (Go.bits .or .i64 x8 64) 0).bind fun t411 => (some (t411 == ((x8 / 64) == 1)))) else (some false))))
end
def laws_FnCerts.f (k : Nat) (l0 : List Int) : Option (Bool) := (laws_big.f l0).bind fun t381 => (if t381 = true then (some true) else ((spec_DrawVotes.f k l0).bind fun bt382 => (if (bt382.2.length : Int) = 0 then ((impl_QcOf.f k bt382.2 1 1 1 4).bind fun bt388 => (if bt388.2.2.2.2 = true then (some false) else ((impl_QcRight.f k bt382.1 4 0 0 0 0).bind fun t394 => (if t394 = true then ((impl_Proven.f k bt382.2 0 0 0 0 0).bind fun t395 => (some t395)) else (some false))))) else (if 0 < (bt382.2.length : Int) then ((impl_SignersOf.f k bt382.2 ((rd_T40 bt382.2 0).f0) ((rd_T40 bt382.2 0).f1) ((rd_T40 bt382.2 0).f2)).bind fun t398 => ((impl_QcOf.f k bt382.2 ((rd_T40 bt382.2 0).f0) ((rd_T40 bt382.2 0).f1) ((rd_T40 bt382.2 0).f2) 4).bind fun bt399 => (laws_FnCerts.l0 k bt382.2 t398 bt399.2.2.2.2 0 ((rd_T40 bt382.2 0).f0) ((rd_T40 bt382.2 0).f1) ((rd_T40 bt382.2 0).f2) ((rd_T40 bt382.2 0).f3) bt399.1 bt399.2.1 bt399.2.2.1 bt399.2.2.2.1))) else (none)))))
theorem laws_FnCerts.mono_l : ∀ k, (∀ y0 y1 y2 y3 y4 y5 y6 y7 y8 y9 y10 y11, LeO (laws_FnCerts.l0 k y0 y1 y2 y3 y4 y5 y6 y7 y8 y9 y10 y11) (laws_FnCerts.l0 (k + 1) y0 y1 y2 y3 y4 y5 y6 y7 y8 y9 y10 y11)) ∧ (∀ y0 y1 y2 y3 y4 y5 y6 y7 y8 y9 y10 y11 y12 y13, LeO (laws_FnCerts.l1 k y0 y1 y2 y3 y4 y5 y6 y7 y8 y9 y10 y11 y12 y13) (laws_FnCerts.l1 (k + 1) y0 y1 y2 y3 y4 y5 y6 y7 y8 y9 y10 y11 y12 y13)) ∧ (∀ y0 y1 y2 y3 y4 y5 y6, LeO (laws_FnCerts.j2 k y0 y1 y2 y3 y4 y5 y6) (laws_FnCerts.j2 (k + 1) y0 y1 y2 y3 y4 y5 y6))
  | 0 => ⟨fun _ _ _ _ _ _ _ _ _ _ _ _ r h => by simp [laws_FnCerts.l0] at h, fun _ _ _ _ _ _ _ _ _ _ _ _ _ _ r h => by simp [laws_FnCerts.l1] at h, fun _ _ _ _ _ _ _ r h => by simp [laws_FnCerts.j2] at h⟩
  | k + 1 => by
    obtain ⟨ih0, ih1, ih2⟩ := laws_FnCerts.mono_l k
    refine ⟨?_, ?_, ?_⟩
    · intro y0 y1 y2 y3 y4 y5 y6 y7 y8 y9 y10 y11
      unfold laws_FnCerts.l0
      repeat' first
      | (with_reducible exact ih0 _ _ _ _ _ _ _ _ _ _ _ _)
      | (with_reducible exact ih1 _ _ _ _ _ _ _ _ _ _ _ _ _ _)
      | (with_reducible exact ih2 _ _ _ _ _ _ _)
      | (with_reducible exact impl_CountOf.mono _ _)
      | (with_reducible exact impl_Proven.mono _ _ _ _ _ _ _)
      | (with_reducible exact impl_QcOf.mono _ _ _ _ _ _)
      | (with_reducible exact impl_QcRight.mono _ _ _ _ _ _ _)
      | (with_reducible exact impl_SignersOf.mono _ _ _ _ _)
      | (with_reducible exact spec_DrawVotes.mono _ _)
      | (with_reducible exact LeO.refl _)
      | (with_reducible exact LeO.none _)
      | (with_reducible refine LeO.ite ?_ ?_)
      | (with_reducible refine LeO.bind ?_ (fun _ => ?_))
      | exact ih0 _ _ _ _ _ _ _ _ _ _ _ _
      | exact ih1 _ _ _ _ _ _ _ _ _ _ _ _ _ _
      | exact ih2 _ _ _ _ _ _ _
      | exact impl_CountOf.mono _ _
      | exact impl_Proven.mono _ _ _ _ _ _ _
      | exact impl_QcOf.mono _ _ _ _ _ _
      | exact impl_QcRight.mono _ _ _ _ _ _ _
      | exact impl_SignersOf.mono _ _ _ _ _
      | exact spec_DrawVotes.mono _ _
      | exact LeO.none _
      | refine LeO.ite ?_ ?_
      | refine LeO.bind ?_ (fun _ => ?_)
    · intro y0 y1 y2 y3 y4 y5 y6 y7 y8 y9 y10 y11 y12 y13
      unfold laws_FnCerts.l1
      repeat' first
      | (with_reducible exact ih0 _ _ _ _ _ _ _ _ _ _ _ _)
      | (with_reducible exact ih1 _ _ _ _ _ _ _ _ _ _ _ _ _ _)
      | (with_reducible exact ih2 _ _ _ _ _ _ _)
      | (with_reducible exact impl_CountOf.mono _ _)
      | (with_reducible exact impl_Proven.mono _ _ _ _ _ _ _)
      | (with_reducible exact impl_QcOf.mono _ _ _ _ _ _)
      | (with_reducible exact impl_QcRight.mono _ _ _ _ _ _ _)
      | (with_reducible exact impl_SignersOf.mono _ _ _ _ _)
      | (with_reducible exact spec_DrawVotes.mono _ _)
      | (with_reducible exact LeO.refl _)
      | (with_reducible exact LeO.none _)
      | (with_reducible refine LeO.ite ?_ ?_)
      | (with_reducible refine LeO.bind ?_ (fun _ => ?_))
      | exact ih0 _ _ _ _ _ _ _ _ _ _ _ _
      | exact ih1 _ _ _ _ _ _ _ _ _ _ _ _ _ _
      | exact ih2 _ _ _ _ _ _ _
      | exact impl_CountOf.mono _ _
      | exact impl_Proven.mono _ _ _ _ _ _ _
      | exact impl_QcOf.mono _ _ _ _ _ _
      | exact impl_QcRight.mono _ _ _ _ _ _ _
      | exact impl_SignersOf.mono _ _ _ _ _
      | exact spec_DrawVotes.mono _ _
      | exact LeO.none _
      | refine LeO.ite ?_ ?_
      | refine LeO.bind ?_ (fun _ => ?_)
    · intro y0 y1 y2 y3 y4 y5 y6
      unfold laws_FnCerts.j2
      repeat' first
      | (with_reducible exact ih0 _ _ _ _ _ _ _ _ _ _ _ _)
      | (with_reducible exact ih1 _ _ _ _ _ _ _ _ _ _ _ _ _ _)
      | (with_reducible exact ih2 _ _ _ _ _ _ _)
      | (with_reducible exact impl_CountOf.mono _ _)
      | (with_reducible exact impl_Proven.mono _ _ _ _ _ _ _)
      | (with_reducible exact impl_QcOf.mono _ _ _ _ _ _)
      | (with_reducible exact impl_QcRight.mono _ _ _ _ _ _ _)
      | (with_reducible exact impl_SignersOf.mono _ _ _ _ _)
      | (with_reducible exact spec_DrawVotes.mono _ _)
      | (with_reducible exact LeO.refl _)
      | (with_reducible exact LeO.none _)
      | (with_reducible refine LeO.ite ?_ ?_)
      | (with_reducible refine LeO.bind ?_ (fun _ => ?_))
      | exact ih0 _ _ _ _ _ _ _ _ _ _ _ _
      | exact ih1 _ _ _ _ _ _ _ _ _ _ _ _ _ _
      | exact ih2 _ _ _ _ _ _ _
      | exact impl_CountOf.mono _ _
      | exact impl_Proven.mono _ _ _ _ _ _ _
      | exact impl_QcOf.mono _ _ _ _ _ _
      | exact impl_QcRight.mono _ _ _ _ _ _ _
      | exact impl_SignersOf.mono _ _ _ _ _
      | exact spec_DrawVotes.mono _ _
      | exact LeO.none _
      | refine LeO.ite ?_ ?_
      | refine LeO.bind ?_ (fun _ => ?_)
theorem laws_FnCerts.mono : ∀ a0 k, LeO (laws_FnCerts.f k a0) (laws_FnCerts.f (k + 1) a0) := by
  intro a0 k
  obtain ⟨ih0, ih1, ih2⟩ := laws_FnCerts.mono_l k
  unfold laws_FnCerts.f
  repeat' first
      | (with_reducible exact ih0 _ _ _ _ _ _ _ _ _ _ _ _)
      | (with_reducible exact ih1 _ _ _ _ _ _ _ _ _ _ _ _ _ _)
      | (with_reducible exact ih2 _ _ _ _ _ _ _)
      | (with_reducible exact impl_CountOf.mono _ _)
      | (with_reducible exact impl_Proven.mono _ _ _ _ _ _ _)
      | (with_reducible exact impl_QcOf.mono _ _ _ _ _ _)
      | (with_reducible exact impl_QcRight.mono _ _ _ _ _ _ _)
      | (with_reducible exact impl_SignersOf.mono _ _ _ _ _)
      | (with_reducible exact spec_DrawVotes.mono _ _)
      | (with_reducible exact LeO.refl _)
      | (with_reducible exact LeO.none _)
      | (with_reducible refine LeO.ite ?_ ?_)
      | (with_reducible refine LeO.bind ?_ (fun _ => ?_))
      | exact ih0 _ _ _ _ _ _ _ _ _ _ _ _
      | exact ih1 _ _ _ _ _ _ _ _ _ _ _ _ _ _
      | exact ih2 _ _ _ _ _ _ _
      | exact impl_CountOf.mono _ _
      | exact impl_Proven.mono _ _ _ _ _ _ _
      | exact impl_QcOf.mono _ _ _ _ _ _
      | exact impl_QcRight.mono _ _ _ _ _ _ _
      | exact impl_SignersOf.mono _ _ _ _ _
      | exact spec_DrawVotes.mono _ _
      | exact LeO.none _
      | refine LeO.ite ?_ ?_
      | refine LeO.bind ?_ (fun _ => ?_)
set_option maxHeartbeats 8000000 in
set_option maxRecDepth 100000 in
theorem laws_FnCerts.calls (k : Nat) (A0 : Option Addr) (c0 : Nat) (l0 : List Int) (r : Bool) (w : World) (hr0 : Kd.C (Kd.int .u8) w A0 l0.length l0) (hc0 : l0.length ≤ c0) (h : laws_FnCerts.f k l0 = some r) :
    Calls Try.prog 6 #[.slice A0 l0.length c0] w fun e w' => e = .returned (.bool r) ∧ Below w.heap.size w w' := by
  have hu25 := Try.underlying25
  have hu40 := Try.underlying40
  have HR0 := Aside0.mk hr0
  have HC0 := Aside0.mk hc0
  clear hr0 hc0
  have HB := Aside0.mk (Below.refl w.heap.size w)
  have H : ((laws_big.f l0).bind fun t381 => (if t381 = true then (some true) else ((spec_DrawVotes.f k l0).bind fun bt382 => (if (bt382.2.length : Int) = 0 then ((impl_QcOf.f k bt382.2 1 1 1 4).bind fun bt388 => (if bt388.2.2.2.2 = true then (some false) else ((impl_QcRight.f k bt382.1 4 0 0 0 0).bind fun t394 => (if t394 = true then ((impl_Proven.f k bt382.2 0 0 0 0 0).bind fun t395 => (some t395)) else (some false))))) else (if 0 < (bt382.2.length : Int) then ((impl_SignersOf.f k bt382.2 ((rd_T40 bt382.2 0).f0) ((rd_T40 bt382.2 0).f1) ((rd_T40 bt382.2 0).f2)).bind fun t398 => ((impl_QcOf.f k bt382.2 ((rd_T40 bt382.2 0).f0) ((rd_T40 bt382.2 0).f1) ((rd_T40 bt382.2 0).f2) 4).bind fun bt399 => (laws_FnCerts.l0 k bt382.2 t398 bt399.2.2.2.2 0 ((rd_T40 bt382.2 0).f0) ((rd_T40 bt382.2 0).f1) ((rd_T40 bt382.2 0).f2) ((rd_T40 bt382.2 0).f3) bt399.1 bt399.2.1 bt399.2.2.1 bt399.2.2.2.1))) else (none)))))) = some r := h
  clear h
  replace H := Option.bind_eq_some_iff.mp H
  obtain ⟨t381, A20, H⟩ := H
  replace H : (if t381 = true then (some true) else ((spec_DrawVotes.f k l0).bind fun bt382 => (if (bt382.2.length : Int) = 0 then ((impl_QcOf.f k bt382.2 1 1 1 4).bind fun bt388 => (if bt388.2.2.2.2 = true then (some false) else ((impl_QcRight.f k bt382.1 4 0 0 0 0).bind fun t394 => (if t394 = true then ((impl_Proven.f k bt382.2 0 0 0 0 0).bind fun t395 => (some t395)) else (some false))))) else (if 0 < (bt382.2.length : Int) then ((impl_SignersOf.f k bt382.2 ((rd_T40 bt382.2 0).f0) ((rd_T40 bt382.2 0).f1) ((rd_T40 bt382.2 0).f2)).bind fun t398 => ((impl_QcOf.f k bt382.2 ((rd_T40 bt382.2 0).f0) ((rd_T40 bt382.2 0).f1) ((rd_T40 bt382.2 0).f2) 4).bind fun bt399 => (laws_FnCerts.l0 k bt382.2 t398 bt399.2.2.2.2 0 ((rd_T40 bt382.2 0).f0) ((rd_T40 bt382.2 0).f1) ((rd_T40 bt382.2 0).f2) ((rd_T40 bt382.2 0).f3) bt399.1 bt399.2.1 bt399.2.2.1 bt399.2.2.2.1))) else (none))))) = some r := H
  have A2 := Aside0.mk A20
  clear A20
  by_cases c3 : t381 = true
  · subst c3
    have H1 : (some true) = some r := by rw [if_pos rfl] at H; exact H
    clear H
    have H := H1
    clear H1
    obtain rfl := Option.some.inj H
    go_enter Try.func6, Try.ntmps6
    go_wp2_with (first | ((with_reducible refine gate_callee (f := 30) rfl ?_); refine goesL_ (some 17) rfl rfl Try.func30 (by kernel_rfl) rfl #[.slice A0 l0.length c0] rfl (by (try simp only [List.map_toArray, List.map_cons, List.map_nil]); first | done | rfl | (simp only [List.length_drop, List.length_take]; rfl)) ?_; (with_reducible refine (laws_big.calls _ _ l0 true _ ?side1 ?side2 A2.out).mono ?_); (case side1 => repeat (first | exact HR0.out | (with_reducible refine Kd.C_alloc ?_ _) | (with_reducible refine Kd.C_drewN ?_ _) | (with_reducible refine Kd.C_drew ?_))); (case side2 => exact HC0.out); rintro e w' ⟨rfl, ⟨nd, rfl⟩⟩; refine ⟨_, rfl, ?_⟩))
    go_ret
    exact ⟨by first | rfl | (simp [errW_none, errW_some] <;> rfl) | (simp [*, errW_none, errW_some] <;> rfl), by repeat (first | (with_reducible first | exact HB.out | apply below_alloc | apply pw_below_drewN | apply below_drew1) | exact HB.out)⟩
  · replace c3 := Bool.eq_false_iff.mpr c3
    subst c3
    have H1 : ((spec_DrawVotes.f k l0).bind fun bt382 => (if (bt382.2.length : Int) = 0 then ((impl_QcOf.f k bt382.2 1 1 1 4).bind fun bt388 => (if bt388.2.2.2.2 = true then (some false) else ((impl_QcRight.f k bt382.1 4 0 0 0 0).bind fun t394 => (if t394 = true then ((impl_Proven.f k bt382.2 0 0 0 0 0).bind fun t395 => (some t395)) else (some false))))) else (if 0 < (bt382.2.length : Int) then ((impl_SignersOf.f k bt382.2 ((rd_T40 bt382.2 0).f0) ((rd_T40 bt382.2 0).f1) ((rd_T40 bt382.2 0).f2)).bind fun t398 => ((impl_QcOf.f k bt382.2 ((rd_T40 bt382.2 0).f0) ((rd_T40 bt382.2 0).f1) ((rd_T40 bt382.2 0).f2) 4).bind fun bt399 => (laws_FnCerts.l0 k bt382.2 t398 bt399.2.2.2.2 0 ((rd_T40 bt382.2 0).f0) ((rd_T40 bt382.2 0).f1) ((rd_T40 bt382.2 0).f2) ((rd_T40 bt382.2 0).f3) bt399.1 bt399.2.1 bt399.2.2.1 bt399.2.2.2.1))) else (none)))) = some r := by rw [if_neg (show ¬ (false = true) by decide)] at H; exact H
    clear H
    have H := H1
    clear H1
    replace H := Option.bind_eq_some_iff.mp H
    obtain ⟨⟨t382, t385⟩, A40, H⟩ := H
    replace H : (if (t385.length : Int) = 0 then ((impl_QcOf.f k t385 1 1 1 4).bind fun bt388 => (if bt388.2.2.2.2 = true then (some false) else ((impl_QcRight.f k t382 4 0 0 0 0).bind fun t394 => (if t394 = true then ((impl_Proven.f k t385 0 0 0 0 0).bind fun t395 => (some t395)) else (some false))))) else (if 0 < (t385.length : Int) then ((impl_SignersOf.f k t385 ((rd_T40 t385 0).f0) ((rd_T40 t385 0).f1) ((rd_T40 t385 0).f2)).bind fun t398 => ((impl_QcOf.f k t385 ((rd_T40 t385 0).f0) ((rd_T40 t385 0).f1) ((rd_T40 t385 0).f2) 4).bind fun bt399 => (laws_FnCerts.l0 k t385 t398 bt399.2.2.2.2 0 ((rd_T40 t385 0).f0) ((rd_T40 t385 0).f1) ((rd_T40 t385 0).f2) ((rd_T40 t385 0).f3) bt399.1 bt399.2.1 bt399.2.2.1 bt399.2.2.2.1))) else (none))) = some r := H
    have A4 := Aside0.mk A40
    clear A40
    by_cases c5 : (t385.length : Int) = 0
    · rw [if_pos c5] at H
      have c5b0 : ((t385.length : Int) == 0) = true := beq_iff_eq.mpr c5
      have c5b1 : ((t385.length : Int) != 0) = false := bne_eq_false_iff_eq.mpr c5
      clear c5
      replace H := Option.bind_eq_some_iff.mp H
      obtain ⟨⟨t388, t389, t390, t391, t392⟩, A60, H⟩ := H
      replace H : (if t392 = true then (some false) else ((impl_QcRight.f k t382 4 0 0 0 0).bind fun t394 => (if t394 = true then ((impl_Proven.f k t385 0 0 0 0 0).bind fun t395 => (some t395)) else (some false)))) = some r := H
      have A6 := Aside0.mk A60
      clear A60
      by_cases c7 : t392 = true
      · subst c7
        have H1 : (some false) = some r := by rw [if_pos rfl] at H; exact H
        clear H
        have H := H1
        clear H1
        obtain rfl := Option.some.inj H
        go_enter Try.func6, Try.ntmps6
        go_wp2_with (first | ((with_reducible refine gate_callee (f := 30) rfl ?_); refine goesL_ (some 17) rfl rfl Try.func30 (by kernel_rfl) rfl #[.slice A0 l0.length c0] rfl (by (try simp only [List.map_toArray, List.map_cons, List.map_nil]); first | done | rfl | (simp only [List.length_drop, List.length_take]; rfl)) ?_; (with_reducible refine (laws_big.calls _ _ l0 false _ ?side1 ?side2 A2.out).mono ?_); (case side1 => repeat (first | exact HR0.out | (with_reducible refine Kd.C_alloc ?_ _) | (with_reducible refine Kd.C_drewN ?_ _) | (with_reducible refine Kd.C_drew ?_))); (case side2 => exact HC0.out); rintro e w' ⟨rfl, ⟨nd, rfl⟩⟩; refine ⟨_, rfl, ?_⟩) | ((with_reducible refine gate_callee (f := 31) rfl ?_); refine goesL_ (some 20) rfl rfl Try.func31 (by kernel_rfl) rfl #[.slice A0 l0.length c0] rfl (by (try simp only [List.map_toArray, List.map_cons, List.map_nil]); first | done | rfl | (simp only [List.length_drop, List.length_take]; rfl)) ?_; (with_reducible refine (spec_DrawVotes.calls k _ _ l0 t382 t385 _ ?side1 ?side2 A4.out).mono ?_); (case side1 => repeat (first | exact HR0.out | (with_reducible refine Kd.C_alloc ?_ _) | (with_reducible refine Kd.C_drewN ?_ _) | (with_reducible refine Kd.C_drew ?_))); (case side2 => exact HC0.out); rintro e w8 ⟨v383, v386, rfl, ho0, ho1, hb⟩; refine ⟨_, rfl, ?_⟩; have n0_ := Aside0.mk (Kd.N_lower (Kd.N_mono (ok' := fun k_ => some k_ ≠ (v386 : Value).ownBlock) ho0 (fun k_ hk_ => hk_.2)) (below_size (by repeat (first | (with_reducible first | exact HB.out | apply below_alloc | apply pw_below_drewN | apply below_drew1) | exact HB.out)))); have n1_ := Aside0.mk (Kd.R_lower (Kd.R_mono (ok' := fun k_ => True) ho1 (fun _ hk_ => trivial)) (below_size (by repeat (first | (with_reducible first | exact HB.out | apply below_alloc | apply pw_below_drewN | apply below_drew1) | exact HB.out)))); have n2_ := Aside0.mk (below_step (by repeat (first | (with_reducible first | exact HB.out | apply below_alloc | apply pw_below_drewN | apply below_drew1) | exact HB.out)) hb); clear HB; have HO384 := n0_; have HO387 := n1_; have HB := n2_; clear n0_ n1_ n2_; (try clear hb); (try clear hb2); (try clear hk); (try clear hi); (try clear ho0); (try clear ho1); obtain ⟨Ao9, co9, eo9⟩ := Kd.R_slice HO387.out; subst eo9) | ((with_reducible refine gate_callee (f := 18) rfl ?_); refine goesL_ (some 28) rfl rfl Try.func18 (by kernel_rfl) rfl #[.slice Ao9 t385.length co9, .int .i64 1, .int .i64 1, .int .i64 1, .int .i64 4] rfl (by (try simp only [List.map_toArray, List.map_cons, List.map_nil]); first | done | rfl | (simp only [List.length_drop, List.length_take]; rfl)) ?_; (with_reducible refine (impl_QcOf.calls k _ _ t385 1 1 1 4 t388 t389 t390 t391 true _ ?side1 ?side2 A6.out).mono ?_); (case side1 => repeat (first | exact (Kd.R_reads' HO387.out).2.2 | (with_reducible refine Kd.C_alloc ?_ _) | (with_reducible refine Kd.C_drewN ?_ _) | (with_reducible refine Kd.C_drew ?_))); (case side2 => exact (Kd.R_reads' HO387.out).2.1); rintro e w10 ⟨rfl, hb⟩; refine ⟨_, rfl, ?_⟩; have n0_ := Aside0.mk (Kd.N_below (by (with_reducible repeat (first | apply Kd.N_alloc | apply Kd.N_drewN | apply Kd.N_drew)); exact HO384.out) hb); have n1_ := Aside0.mk (Kd.R_below (by (with_reducible repeat (first | apply Kd.R_alloc | apply Kd.R_drewN | apply Kd.R_drew)); exact HO387.out) hb); have n2_ := Aside0.mk (below_step (by repeat (first | (with_reducible first | exact HB.out | apply below_alloc | apply pw_below_drewN | apply below_drew1) | exact HB.out)) hb); clear HO384; clear HO387; clear HB; have HO384 := n0_; have HO387 := n1_; have HB := n2_; clear n0_ n1_ n2_; (try clear hb); (try clear hb2); (try clear hk); (try clear hi)) | ((with_reducible refine gate_dst (N := 5) rfl ?_); refine box_event ?hg (N := 5) ?hd (cs := #[.int .i64 0, .int .i64 0, .int .i64 0, .int .i64 0]) (t := 25) ?hr ?_; (case hd => rfl); (case hg => rfl); (case hr => first | (go_simp; done) | (go_simp; rfl)); intro gb393 hg w11 hbox hb; have n0_ := Aside0.mk (Kd.N_below (Kd.N_elderB (by (with_reducible repeat (first | apply Kd.N_alloc | apply Kd.N_drewN | apply Kd.N_drew)); exact HO384.out) gb393 (Nat.le_of_eq hg.symm)) hb); have n1_ := Aside0.mk (Kd.R_below (by (with_reducible repeat (first | apply Kd.R_alloc | apply Kd.R_drewN | apply Kd.R_drew)); exact HO387.out) hb); have n2_ := Aside0.mk (below_step (by repeat (first | (with_reducible first | exact HB.out | apply below_alloc | apply pw_below_drewN | apply below_drew1) | exact HB.out)) hb); have n3_ := Aside0.mk (hbox); have n4_ := Aside0.mk ((by rw [hg]; exact (below_size (by repeat (first | (with_reducible first | exact HB.out | apply below_alloc | apply pw_below_drewN | apply below_drew1) | exact HB.out))) : w.heap.size ≤ gb393)); have n5_ := Aside0.mk ((by rw [hg]; exact (below_size (by repeat (first | (with_reducible first | exact HB.out | apply below_alloc | apply pw_below_drewN | apply below_drew1) | exact HB.out))) : w.heap.size ≤ gb393)); clear HO384; clear HO387; clear HB; have HO384 := n0_; have HO387 := n1_; have HB := n2_; have BK393 := n3_; have GW393 := n4_; have GE393 := n5_; clear n0_ n1_ n2_ n3_ n4_ n5_; clear hb hbox hg; have hcz12_0 : w11.cell? ⟨gb393, 0, none⟩ = some (.int .i64 0) := (blk_cell BK393.out 0).trans rfl; have hcz12_1 : w11.cell? ⟨gb393, 1, none⟩ = some (.int .i64 0) := (blk_cell BK393.out 1).trans rfl; have hcz12_2 : w11.cell? ⟨gb393, 2, none⟩ = some (.int .i64 0) := (blk_cell BK393.out 2).trans rfl; have hcz12_3 : w11.cell? ⟨gb393, 3, none⟩ = some (.int .i64 0) := (blk_cell BK393.out 3).trans rfl; have hfz12_0 := blk_frozen BK393.out 0; have hfz12_1 := blk_frozen BK393.out 1; have hfz12_2 := blk_frozen BK393.out 2; have hfz12_3 := blk_frozen BK393.out 3))
        go_ret
        exact ⟨by first | rfl | (simp [errW_none, errW_some] <;> rfl) | (simp [*, errW_none, errW_some] <;> rfl), by repeat (first | (with_reducible first | exact HB.out | apply below_alloc | apply pw_below_drewN | apply below_drew1 | refine below_set ?_ GE393.out) | exact HB.out)⟩
      · replace c7 := Bool.eq_false_iff.mpr c7
        subst c7
        have H1 : ((impl_QcRight.f k t382 4 0 0 0 0).bind fun t394 => (if t394 = true then ((impl_Proven.f k t385 0 0 0 0 0).bind fun t395 => (some t395)) else (some false))) = some r := by rw [if_neg (show ¬ (false = true) by decide)] at H; exact H
        clear H
        have H := H1
        clear H1
        replace H := Option.bind_eq_some_iff.mp H
        obtain ⟨t394, A130, H⟩ := H
        replace H : (if t394 = true then ((impl_Proven.f k t385 0 0 0 0 0).bind fun t395 => (some t395)) else (some false)) = some r := H
        have A13 := Aside0.mk A130
        clear A130
        by_cases c14 : t394 = true
        · subst c14
          have H1 : ((impl_Proven.f k t385 0 0 0 0 0).bind fun t395 => (some t395)) = some r := by rw [if_pos rfl] at H; exact H
          clear H
          have H := H1
          clear H1
          replace H := Option.bind_eq_some_iff.mp H
          obtain ⟨t395, A150, H⟩ := H
          replace H : (some t395) = some r := H
          have A15 := Aside0.mk A150
          clear A150
          obtain rfl := Option.some.inj H
          go_enter Try.func6, Try.ntmps6
          go_wp2_with (first | ((with_reducible refine gate_callee (f := 30) rfl ?_); refine goesL_ (some 17) rfl rfl Try.func30 (by kernel_rfl) rfl #[.slice A0 l0.length c0] rfl (by (try simp only [List.map_toArray, List.map_cons, List.map_nil]); first | done | rfl | (simp only [List.length_drop, List.length_take]; rfl)) ?_; (with_reducible refine (laws_big.calls _ _ l0 false _ ?side1 ?side2 A2.out).mono ?_); (case side1 => repeat (first | exact HR0.out | (with_reducible refine Kd.C_alloc ?_ _) | (with_reducible refine Kd.C_drewN ?_ _) | (with_reducible refine Kd.C_drew ?_))); (case side2 => exact HC0.out); rintro e w' ⟨rfl, ⟨nd, rfl⟩⟩; refine ⟨_, rfl, ?_⟩) | ((with_reducible refine gate_callee (f := 31) rfl ?_); refine goesL_ (some 20) rfl rfl Try.func31 (by kernel_rfl) rfl #[.slice A0 l0.length c0] rfl (by (try simp only [List.map_toArray, List.map_cons, List.map_nil]); first | done | rfl | (simp only [List.length_drop, List.length_take]; rfl)) ?_; (with_reducible refine (spec_DrawVotes.calls k _ _ l0 t382 t385 _ ?side1 ?side2 A4.out).mono ?_); (case side1 => repeat (first | exact HR0.out | (with_reducible refine Kd.C_alloc ?_ _) | (with_reducible refine Kd.C_drewN ?_ _) | (with_reducible refine Kd.C_drew ?_))); (case side2 => exact HC0.out); rintro e w16 ⟨v383, v386, rfl, ho0, ho1, hb⟩; refine ⟨_, rfl, ?_⟩; have n0_ := Aside0.mk (Kd.N_lower (Kd.N_mono (ok' := fun k_ => some k_ ≠ (v386 : Value).ownBlock) ho0 (fun k_ hk_ => hk_.2)) (below_size (by repeat (first | (with_reducible first | exact HB.out | apply below_alloc | apply pw_below_drewN | apply below_drew1) | exact HB.out)))); have n1_ := Aside0.mk (Kd.R_lower (Kd.R_mono (ok' := fun k_ => True) ho1 (fun _ hk_ => trivial)) (below_size (by repeat (first | (with_reducible first | exact HB.out | apply below_alloc | apply pw_below_drewN | apply below_drew1) | exact HB.out)))); have n2_ := Aside0.mk (below_step (by repeat (first | (with_reducible first | exact HB.out | apply below_alloc | apply pw_below_drewN | apply below_drew1) | exact HB.out)) hb); clear HB; have HO384 := n0_; have HO387 := n1_; have HB := n2_; clear n0_ n1_ n2_; (try clear hb); (try clear hb2); (try clear hk); (try clear hi); (try clear ho0); (try clear ho1); obtain ⟨Ao17, co17, eo17⟩ := Kd.R_slice HO387.out; subst eo17) | ((with_reducible refine gate_callee (f := 18) rfl ?_); refine goesL_ (some 28) rfl rfl Try.func18 (by kernel_rfl) rfl #[.slice Ao17 t385.length co17, .int .i64 1, .int .i64 1, .int .i64 1, .int .i64 4] rfl (by (try simp only [List.map_toArray, List.map_cons, List.map_nil]); first | done | rfl | (simp only [List.length_drop, List.length_take]; rfl)) ?_; (with_reducible refine (impl_QcOf.calls k _ _ t385 1 1 1 4 t388 t389 t390 t391 false _ ?side1 ?side2 A6.out).mono ?_); (case side1 => repeat (first | exact (Kd.R_reads' HO387.out).2.2 | (with_reducible refine Kd.C_alloc ?_ _) | (with_reducible refine Kd.C_drewN ?_ _) | (with_reducible refine Kd.C_drew ?_))); (case side2 => exact (Kd.R_reads' HO387.out).2.1); rintro e w18 ⟨rfl, hb⟩; refine ⟨_, rfl, ?_⟩; have n0_ := Aside0.mk (Kd.N_below (by (with_reducible repeat (first | apply Kd.N_alloc | apply Kd.N_drewN | apply Kd.N_drew)); exact HO384.out) hb); have n1_ := Aside0.mk (Kd.R_below (by (with_reducible repeat (first | apply Kd.R_alloc | apply Kd.R_drewN | apply Kd.R_drew)); exact HO387.out) hb); have n2_ := Aside0.mk (below_step (by repeat (first | (with_reducible first | exact HB.out | apply below_alloc | apply pw_below_drewN | apply below_drew1) | exact HB.out)) hb); clear HO384; clear HO387; clear HB; have HO384 := n0_; have HO387 := n1_; have HB := n2_; clear n0_ n1_ n2_; (try clear hb); (try clear hb2); (try clear hk); (try clear hi)) | ((with_reducible refine gate_dst (N := 5) rfl ?_); refine box_event ?hg (N := 5) ?hd (cs := #[.int .i64 0, .int .i64 0, .int .i64 0, .int .i64 0]) (t := 25) ?hr ?_; (case hd => rfl); (case hg => rfl); (case hr => first | (go_simp; done) | (go_simp; rfl)); intro gb393 hg w19 hbox hb; have n0_ := Aside0.mk (Kd.N_below (Kd.N_elderB (by (with_reducible repeat (first | apply Kd.N_alloc | apply Kd.N_drewN | apply Kd.N_drew)); exact HO384.out) gb393 (Nat.le_of_eq hg.symm)) hb); have n1_ := Aside0.mk (Kd.R_below (by (with_reducible repeat (first | apply Kd.R_alloc | apply Kd.R_drewN | apply Kd.R_drew)); exact HO387.out) hb); have n2_ := Aside0.mk (below_step (by repeat (first | (with_reducible first | exact HB.out | apply below_alloc | apply pw_below_drewN | apply below_drew1) | exact HB.out)) hb); have n3_ := Aside0.mk (hbox); have n4_ := Aside0.mk ((by rw [hg]; exact (below_size (by repeat (first | (with_reducible first | exact HB.out | apply below_alloc | apply pw_below_drewN | apply below_drew1) | exact HB.out))) : w.heap.size ≤ gb393)); have n5_ := Aside0.mk ((by rw [hg]; exact (below_size (by repeat (first | (with_reducible first | exact HB.out | apply below_alloc | apply pw_below_drewN | apply below_drew1) | exact HB.out))) : w.heap.size ≤ gb393)); clear HO384; clear HO387; clear HB; have HO384 := n0_; have HO387 := n1_; have HB := n2_; have BK393 := n3_; have GW393 := n4_; have GE393 := n5_; clear n0_ n1_ n2_ n3_ n4_ n5_; clear hb hbox hg; have hcz20_0 : w19.cell? ⟨gb393, 0, none⟩ = some (.int .i64 0) := (blk_cell BK393.out 0).trans rfl; have hcz20_1 : w19.cell? ⟨gb393, 1, none⟩ = some (.int .i64 0) := (blk_cell BK393.out 1).trans rfl; have hcz20_2 : w19.cell? ⟨gb393, 2, none⟩ = some (.int .i64 0) := (blk_cell BK393.out 2).trans rfl; have hcz20_3 : w19.cell? ⟨gb393, 3, none⟩ = some (.int .i64 0) := (blk_cell BK393.out 3).trans rfl; have hfz20_0 := blk_frozen BK393.out 0; have hfz20_1 := blk_frozen BK393.out 1; have hfz20_2 := blk_frozen BK393.out 2; have hfz20_3 := blk_frozen BK393.out 3; obtain ⟨Ao21, co21, eo21⟩ := Kd.N_slice HO384.out; subst eo21) | (go_at_call 29; (with_reducible refine (impl_QcRight.calls k _ _ t382 4 0 0 0 0 true _ ?side1 ?side2 A13.out).mono ?_); (case side1 => refine (Kd.N_reads' (e := 63) (base := w.heap.size) (ok := fun k_ => (some k_ ≠ (.slice Ao17 t385.length co17 : Value).ownBlock ∧ k_ ≠ gb393)) (n := t382.length) (c := co21) ?_).2.2; exact (by (with_reducible repeat (first | apply Kd.N_alloc | apply Kd.N_drewN | apply Kd.N_drew)); exact (Kd.N_mono (Kd.N_far (p := ⟨gb393, 3, none⟩) (Kd.N_far (p := ⟨gb393, 2, none⟩) (Kd.N_far (p := ⟨gb393, 1, none⟩) (Kd.N_far (p := ⟨gb393, 0, none⟩) (Kd.N_mono HO384.out (fun k_ hk => (⟨hk, hk.2⟩ : _ ∧ k_ ≠ gb393))) (fun _ hk => hk.2) (.int .i64 t388)) (fun _ hk => hk.2) (.int .i64 t389)) (fun _ hk => hk.2) (.int .i64 t390)) (fun _ hk => hk.2) (.int .i64 t391)) (fun _ h_ => h_.1)))); (case side2 => exact (Kd.N_reads' HO384.out).2.1); rintro e w22 ⟨rfl, hb⟩; have n0_ := Aside0.mk (Kd.N_below (by (with_reducible repeat (first | apply Kd.N_alloc | apply Kd.N_drewN | apply Kd.N_drew)); exact (Kd.N_mono (Kd.N_far (p := ⟨gb393, 3, none⟩) (Kd.N_far (p := ⟨gb393, 2, none⟩) (Kd.N_far (p := ⟨gb393, 1, none⟩) (Kd.N_far (p := ⟨gb393, 0, none⟩) (Kd.N_mono HO384.out (fun k_ hk => (⟨hk, hk.2⟩ : _ ∧ k_ ≠ gb393))) (fun _ hk => hk.2) (.int .i64 t388)) (fun _ hk => hk.2) (.int .i64 t389)) (fun _ hk => hk.2) (.int .i64 t390)) (fun _ hk => hk.2) (.int .i64 t391)) (fun _ h_ => h_.1))) hb); have n1_ := Aside0.mk (Kd.R_below (by (with_reducible repeat (first | apply Kd.R_alloc | apply Kd.R_drewN | apply Kd.R_drew)); exact (Kd.R_mono (Kd.R_far (p := ⟨gb393, 3, none⟩) (Kd.R_far (p := ⟨gb393, 2, none⟩) (Kd.R_far (p := ⟨gb393, 1, none⟩) (Kd.R_far (p := ⟨gb393, 0, none⟩) (Kd.R_types HO387.out BK393.out (by decide)) (fun _ hk => hk.2) (.int .i64 t388)) (fun _ hk => hk.2) (.int .i64 t389)) (fun _ hk => hk.2) (.int .i64 t390)) (fun _ hk => hk.2) (.int .i64 t391)) (fun _ h_ => h_.1))) hb); have n2_ := Aside0.mk (blk_below (g := gb393) (o := .cells #[.int .i64 t388, .int .i64 t389, .int .i64 t390, .int .i64 t391] 25 (0, 0)) (by (with_reducible repeat (first | refine blk_drewN ?_ _ | refine blk_drew ?_ | refine blk_alloc ?_ _)); refine blk_put (cs := #[.int .i64 t388, .int .i64 t389, .int .i64 t390, .int .i64 0]) ?_ 3 _ rfl; (with_reducible repeat (first | refine blk_drewN ?_ _ | refine blk_drew ?_ | refine blk_alloc ?_ _)); refine blk_put (cs := #[.int .i64 t388, .int .i64 t389, .int .i64 0, .int .i64 0]) ?_ 2 _ rfl; (with_reducible repeat (first | refine blk_drewN ?_ _ | refine blk_drew ?_ | refine blk_alloc ?_ _)); refine blk_put (cs := #[.int .i64 t388, .int .i64 0, .int .i64 0, .int .i64 0]) ?_ 1 _ rfl; (with_reducible repeat (first | refine blk_drewN ?_ _ | refine blk_drew ?_ | refine blk_alloc ?_ _)); refine blk_put (cs := #[.int .i64 0, .int .i64 0, .int .i64 0, .int .i64 0]) ?_ 0 _ rfl; (with_reducible repeat (first | refine blk_drewN ?_ _ | refine blk_drew ?_ | refine blk_alloc ?_ _)); exact BK393.out) hb); have n3_ := Aside0.mk (below_step (by repeat (first | (with_reducible first | exact HB.out | apply below_alloc | apply pw_below_drewN | apply below_drew1 | refine below_set ?_ GE393.out) | exact HB.out)) hb); clear HO384; clear HO387; clear BK393; clear HB; have HO384 := n0_; have HO387 := n1_; have BK393 := n2_; have HB := n3_; clear n0_ n1_ n2_ n3_; (try clear hb); (try clear hb2); (try clear hk); (try clear hi)) | (go_at_call 32; (with_reducible refine (impl_Proven.calls k _ _ t385 0 0 0 0 0 t395 _ ?side1 ?side2 A15.out).mono ?_); (case side1 => repeat (first | exact (Kd.R_reads' HO387.out).2.2 | (with_reducible refine Kd.C_alloc ?_ _) | (with_reducible refine Kd.C_drewN ?_ _) | (with_reducible refine Kd.C_drew ?_))); (case side2 => exact (Kd.R_reads' HO387.out).2.1); rintro e w23 ⟨rfl, hb⟩; have n0_ := Aside0.mk (Kd.N_below (by (with_reducible repeat (first | apply Kd.N_alloc | apply Kd.N_drewN | apply Kd.N_drew)); exact HO384.out) hb); have n1_ := Aside0.mk (Kd.R_below (by (with_reducible repeat (first | apply Kd.R_alloc | apply Kd.R_drewN | apply Kd.R_drew)); exact HO387.out) hb); have n2_ := Aside0.mk (blk_below (g := gb393) (o := .cells #[.int .i64 t388, .int .i64 t389, .int .i64 t390, .int .i64 t391] 25 (0, 0)) (by (with_reducible repeat (first | refine blk_drewN ?_ _ | refine blk_drew ?_ | refine blk_alloc ?_ _)); exact BK393.out) hb); have n3_ := Aside0.mk (below_step (by repeat (first | (with_reducible first | exact HB.out | apply below_alloc | apply pw_below_drewN | apply below_drew1 | refine below_set ?_ GE393.out) | exact HB.out)) hb); clear HO384; clear HO387; clear BK393; clear HB; have HO384 := n0_; have HO387 := n1_; have BK393 := n2_; have HB := n3_; clear n0_ n1_ n2_ n3_; (try clear hb); (try clear hb2); (try clear hk); (try clear hi)))
          go_ret
          exact ⟨by first | rfl | (simp [errW_none, errW_some] <;> rfl) | (simp [*, errW_none, errW_some] <;> rfl), by repeat (first | (with_reducible first | exact HB.out | apply below_alloc | apply pw_below_drewN | apply below_drew1 | refine below_set ?_ GE393.out) | exact HB.out)⟩
        · replace c14 := Bool.eq_false_iff.mpr c14
          subst c14
          have H1 : (some false) = some r := by rw [if_neg (show ¬ (false = true) by decide)] at H; exact H
          clear H
          have H := H1
          clear H1
          obtain rfl := Option.some.inj H
          go_enter Try.func6, Try.ntmps6
          go_wp2_with (first | ((with_reducible refine gate_callee (f := 30) rfl ?_); refine goesL_ (some 17) rfl rfl Try.func30 (by kernel_rfl) rfl #[.slice A0 l0.length c0] rfl (by (try simp only [List.map_toArray, List.map_cons, List.map_nil]); first | done | rfl | (simp only [List.length_drop, List.length_take]; rfl)) ?_; (with_reducible refine (laws_big.calls _ _ l0 false _ ?side1 ?side2 A2.out).mono ?_); (case side1 => repeat (first | exact HR0.out | (with_reducible refine Kd.C_alloc ?_ _) | (with_reducible refine Kd.C_drewN ?_ _) | (with_reducible refine Kd.C_drew ?_))); (case side2 => exact HC0.out); rintro e w' ⟨rfl, ⟨nd, rfl⟩⟩; refine ⟨_, rfl, ?_⟩) | ((with_reducible refine gate_callee (f := 31) rfl ?_); refine goesL_ (some 20) rfl rfl Try.func31 (by kernel_rfl) rfl #[.slice A0 l0.length c0] rfl (by (try simp only [List.map_toArray, List.map_cons, List.map_nil]); first | done | rfl | (simp only [List.length_drop, List.length_take]; rfl)) ?_; (with_reducible refine (spec_DrawVotes.calls k _ _ l0 t382 t385 _ ?side1 ?side2 A4.out).mono ?_); (case side1 => repeat (first | exact HR0.out | (with_reducible refine Kd.C_alloc ?_ _) | (with_reducible refine Kd.C_drewN ?_ _) | (with_reducible refine Kd.C_drew ?_))); (case side2 => exact HC0.out); rintro e w24 ⟨v383, v386, rfl, ho0, ho1, hb⟩; refine ⟨_, rfl, ?_⟩; have n0_ := Aside0.mk (Kd.N_lower (Kd.N_mono (ok' := fun k_ => some k_ ≠ (v386 : Value).ownBlock) ho0 (fun k_ hk_ => hk_.2)) (below_size (by repeat (first | (with_reducible first | exact HB.out | apply below_alloc | apply pw_below_drewN | apply below_drew1) | exact HB.out)))); have n1_ := Aside0.mk (Kd.R_lower (Kd.R_mono (ok' := fun k_ => True) ho1 (fun _ hk_ => trivial)) (below_size (by repeat (first | (with_reducible first | exact HB.out | apply below_alloc | apply pw_below_drewN | apply below_drew1) | exact HB.out)))); have n2_ := Aside0.mk (below_step (by repeat (first | (with_reducible first | exact HB.out | apply below_alloc | apply pw_below_drewN | apply below_drew1) | exact HB.out)) hb); clear HB; have HO384 := n0_; have HO387 := n1_; have HB := n2_; clear n0_ n1_ n2_; (try clear hb); (try clear hb2); (try clear hk); (try clear hi); (try clear ho0); (try clear ho1); obtain ⟨Ao25, co25, eo25⟩ := Kd.R_slice HO387.out; subst eo25) | ((with_reducible refine gate_callee (f := 18) rfl ?_); refine goesL_ (some 28) rfl rfl Try.func18 (by kernel_rfl) rfl #[.slice Ao25 t385.length co25, .int .i64 1, .int .i64 1, .int .i64 1, .int .i64 4] rfl (by (try simp only [List.map_toArray, List.map_cons, List.map_nil]); first | done | rfl | (simp only [List.length_drop, List.length_take]; rfl)) ?_; (with_reducible refine (impl_QcOf.calls k _ _ t385 1 1 1 4 t388 t389 t390 t391 false _ ?side1 ?side2 A6.out).mono ?_); (case side1 => repeat (first | exact (Kd.R_reads' HO387.out).2.2 | (with_reducible refine Kd.C_alloc ?_ _) | (with_reducible refine Kd.C_drewN ?_ _) | (with_reducible refine Kd.C_drew ?_))); (case side2 => exact (Kd.R_reads' HO387.out).2.1); rintro e w26 ⟨rfl, hb⟩; refine ⟨_, rfl, ?_⟩; have n0_ := Aside0.mk (Kd.N_below (by (with_reducible repeat (first | apply Kd.N_alloc | apply Kd.N_drewN | apply Kd.N_drew)); exact HO384.out) hb); have n1_ := Aside0.mk (Kd.R_below (by (with_reducible repeat (first | apply Kd.R_alloc | apply Kd.R_drewN | apply Kd.R_drew)); exact HO387.out) hb); have n2_ := Aside0.mk (below_step (by repeat (first | (with_reducible first | exact HB.out | apply below_alloc | apply pw_below_drewN | apply below_drew1) | exact HB.out)) hb); clear HO384; clear HO387; clear HB; have HO384 := n0_; have HO387 := n1_; have HB := n2_; clear n0_ n1_ n2_; (try clear hb); (try clear hb2); (try clear hk); (try clear hi)) | ((with_reducible refine gate_dst (N := 5) rfl ?_); refine box_event ?hg (N := 5) ?hd (cs := #[.int .i64 0, .int .i64 0, .int .i64 0, .int .i64 0]) (t := 25) ?hr ?_; (case hd => rfl); (case hg => rfl); (case hr => first | (go_simp; done) | (go_simp; rfl)); intro gb393 hg w27 hbox hb; have n0_ := Aside0.mk (Kd.N_below (Kd.N_elderB (by (with_reducible repeat (first | apply Kd.N_alloc | apply Kd.N_drewN | apply Kd.N_drew)); exact HO384.out) gb393 (Nat.le_of_eq hg.symm)) hb); have n1_ := Aside0.mk (Kd.R_below (by (with_reducible repeat (first | apply Kd.R_alloc | apply Kd.R_drewN | apply Kd.R_drew)); exact HO387.out) hb); have n2_ := Aside0.mk (below_step (by repeat (first | (with_reducible first | exact HB.out | apply below_alloc | apply pw_below_drewN | apply below_drew1) | exact HB.out)) hb); have n3_ := Aside0.mk (hbox); have n4_ := Aside0.mk ((by rw [hg]; exact (below_size (by repeat (first | (with_reducible first | exact HB.out | apply below_alloc | apply pw_below_drewN | apply below_drew1) | exact HB.out))) : w.heap.size ≤ gb393)); have n5_ := Aside0.mk ((by rw [hg]; exact (below_size (by repeat (first | (with_reducible first | exact HB.out | apply below_alloc | apply pw_below_drewN | apply below_drew1) | exact HB.out))) : w.heap.size ≤ gb393)); clear HO384; clear HO387; clear HB; have HO384 := n0_; have HO387 := n1_; have HB := n2_; have BK393 := n3_; have GW393 := n4_; have GE393 := n5_; clear n0_ n1_ n2_ n3_ n4_ n5_; clear hb hbox hg; have hcz28_0 : w27.cell? ⟨gb393, 0, none⟩ = some (.int .i64 0) := (blk_cell BK393.out 0).trans rfl; have hcz28_1 : w27.cell? ⟨gb393, 1, none⟩ = some (.int .i64 0) := (blk_cell BK393.out 1).trans rfl; have hcz28_2 : w27.cell? ⟨gb393, 2, none⟩ = some (.int .i64 0) := (blk_cell BK393.out 2).trans rfl; have hcz28_3 : w27.cell? ⟨gb393, 3, none⟩ = some (.int .i64 0) := (blk_cell BK393.out 3).trans rfl; have hfz28_0 := blk_frozen BK393.out 0; have hfz28_1 := blk_frozen BK393.out 1; have hfz28_2 := blk_frozen BK393.out 2; have hfz28_3 := blk_frozen BK393.out 3; obtain ⟨Ao29, co29, eo29⟩ := Kd.N_slice HO384.out; subst eo29) | (go_at_call 29; (with_reducible refine (impl_QcRight.calls k _ _ t382 4 0 0 0 0 false _ ?side1 ?side2 A13.out).mono ?_); (case side1 => refine (Kd.N_reads' (e := 63) (base := w.heap.size) (ok := fun k_ => (some k_ ≠ (.slice Ao25 t385.length co25 : Value).ownBlock ∧ k_ ≠ gb393)) (n := t382.length) (c := co29) ?_).2.2; exact (by (with_reducible repeat (first | apply Kd.N_alloc | apply Kd.N_drewN | apply Kd.N_drew)); exact (Kd.N_mono (Kd.N_far (p := ⟨gb393, 3, none⟩) (Kd.N_far (p := ⟨gb393, 2, none⟩) (Kd.N_far (p := ⟨gb393, 1, none⟩) (Kd.N_far (p := ⟨gb393, 0, none⟩) (Kd.N_mono HO384.out (fun k_ hk => (⟨hk, hk.2⟩ : _ ∧ k_ ≠ gb393))) (fun _ hk => hk.2) (.int .i64 t388)) (fun _ hk => hk.2) (.int .i64 t389)) (fun _ hk => hk.2) (.int .i64 t390)) (fun _ hk => hk.2) (.int .i64 t391)) (fun _ h_ => h_.1)))); (case side2 => exact (Kd.N_reads' HO384.out).2.1); rintro e w30 ⟨rfl, hb⟩; have n0_ := Aside0.mk (Kd.N_below (by (with_reducible repeat (first | apply Kd.N_alloc | apply Kd.N_drewN | apply Kd.N_drew)); exact (Kd.N_mono (Kd.N_far (p := ⟨gb393, 3, none⟩) (Kd.N_far (p := ⟨gb393, 2, none⟩) (Kd.N_far (p := ⟨gb393, 1, none⟩) (Kd.N_far (p := ⟨gb393, 0, none⟩) (Kd.N_mono HO384.out (fun k_ hk => (⟨hk, hk.2⟩ : _ ∧ k_ ≠ gb393))) (fun _ hk => hk.2) (.int .i64 t388)) (fun _ hk => hk.2) (.int .i64 t389)) (fun _ hk => hk.2) (.int .i64 t390)) (fun _ hk => hk.2) (.int .i64 t391)) (fun _ h_ => h_.1))) hb); have n1_ := Aside0.mk (Kd.R_below (by (with_reducible repeat (first | apply Kd.R_alloc | apply Kd.R_drewN | apply Kd.R_drew)); exact (Kd.R_mono (Kd.R_far (p := ⟨gb393, 3, none⟩) (Kd.R_far (p := ⟨gb393, 2, none⟩) (Kd.R_far (p := ⟨gb393, 1, none⟩) (Kd.R_far (p := ⟨gb393, 0, none⟩) (Kd.R_types HO387.out BK393.out (by decide)) (fun _ hk => hk.2) (.int .i64 t388)) (fun _ hk => hk.2) (.int .i64 t389)) (fun _ hk => hk.2) (.int .i64 t390)) (fun _ hk => hk.2) (.int .i64 t391)) (fun _ h_ => h_.1))) hb); have n2_ := Aside0.mk (blk_below (g := gb393) (o := .cells #[.int .i64 t388, .int .i64 t389, .int .i64 t390, .int .i64 t391] 25 (0, 0)) (by (with_reducible repeat (first | refine blk_drewN ?_ _ | refine blk_drew ?_ | refine blk_alloc ?_ _)); refine blk_put (cs := #[.int .i64 t388, .int .i64 t389, .int .i64 t390, .int .i64 0]) ?_ 3 _ rfl; (with_reducible repeat (first | refine blk_drewN ?_ _ | refine blk_drew ?_ | refine blk_alloc ?_ _)); refine blk_put (cs := #[.int .i64 t388, .int .i64 t389, .int .i64 0, .int .i64 0]) ?_ 2 _ rfl; (with_reducible repeat (first | refine blk_drewN ?_ _ | refine blk_drew ?_ | refine blk_alloc ?_ _)); refine blk_put (cs := #[.int .i64 t388, .int .i64 0, .int .i64 0, .int .i64 0]) ?_ 1 _ rfl; (with_reducible repeat (first | refine blk_drewN ?_ _ | refine blk_drew ?_ | refine blk_alloc ?_ _)); refine blk_put (cs := #[.int .i64 0, .int .i64 0, .int .i64 0, .int .i64 0]) ?_ 0 _ rfl; (with_reducible repeat (first | refine blk_drewN ?_ _ | refine blk_drew ?_ | refine blk_alloc ?_ _)); exact BK393.out) hb); have n3_ := Aside0.mk (below_step (by repeat (first | (with_reducible first | exact HB.out | apply below_alloc | apply pw_below_drewN | apply below_drew1 | refine below_set ?_ GE393.out) | exact HB.out)) hb); clear HO384; clear HO387; clear BK393; clear HB; have HO384 := n0_; have HO387 := n1_; have BK393 := n2_; have HB := n3_; clear n0_ n1_ n2_ n3_; (try clear hb); (try clear hb2); (try clear hk); (try clear hi)))
          go_ret
          exact ⟨by first | rfl | (simp [errW_none, errW_some] <;> rfl) | (simp [*, errW_none, errW_some] <;> rfl), by repeat (first | (with_reducible first | exact HB.out | apply below_alloc | apply pw_below_drewN | apply below_drew1 | refine below_set ?_ GE393.out) | exact HB.out)⟩
    · rw [if_neg c5] at H
      have c5b0 : ((t385.length : Int) == 0) = false := beq_eq_false_iff_ne.mpr c5
      have c5b1 : ((t385.length : Int) != 0) = true := bne_iff_ne.mpr c5
      have c5b2 : ¬ (t385 = []) := fun h_ => c5 (by rw [h_]; rfl)
      by_cases c31 : 0 < (t385.length : Int)
      · rw [if_pos c31] at H
        have c31b0 : decide (0 < (t385.length : Int)) = true := decide_eq_true c31
        have c31b1 : decide (0 < t385.length) = true := decide_eq_true (by omega)
        clear c31
        replace H := Option.bind_eq_some_iff.mp H
        obtain ⟨t398, A320, H⟩ := H
        replace H : ((impl_QcOf.f k t385 ((rd_T40 t385 0).f0) ((rd_T40 t385 0).f1) ((rd_T40 t385 0).f2) 4).bind fun bt399 => (laws_FnCerts.l0 k t385 t398 bt399.2.2.2.2 0 ((rd_T40 t385 0).f0) ((rd_T40 t385 0).f1) ((rd_T40 t385 0).f2) ((rd_T40 t385 0).f3) bt399.1 bt399.2.1 bt399.2.2.1 bt399.2.2.2.1)) = some r := H
        have A32 := Aside0.mk A320
        clear A320
        replace H := Option.bind_eq_some_iff.mp H
        obtain ⟨⟨t399, t400, t401, t402, t403⟩, A330, H⟩ := H
        replace H : (laws_FnCerts.l0 k t385 t398 t403 0 ((rd_T40 t385 0).f0) ((rd_T40 t385 0).f1) ((rd_T40 t385 0).f2) ((rd_T40 t385 0).f3) t399 t400 t401 t402) = some r := H
        have A33 := Aside0.mk A330
        clear A330
        have H' := Aside0.mk H
        clear H
        go_enter Try.func6, Try.ntmps6
        go_wp2_with (first | ((with_reducible refine gate_callee (f := 30) rfl ?_); refine goesL_ (some 17) rfl rfl Try.func30 (by kernel_rfl) rfl #[.slice A0 l0.length c0] rfl (by (try simp only [List.map_toArray, List.map_cons, List.map_nil]); first | done | rfl | (simp only [List.length_drop, List.length_take]; rfl)) ?_; (with_reducible refine (laws_big.calls _ _ l0 false _ ?side1 ?side2 A2.out).mono ?_); (case side1 => repeat (first | exact HR0.out | (with_reducible refine Kd.C_alloc ?_ _) | (with_reducible refine Kd.C_drewN ?_ _) | (with_reducible refine Kd.C_drew ?_))); (case side2 => exact HC0.out); rintro e w' ⟨rfl, ⟨nd, rfl⟩⟩; refine ⟨_, rfl, ?_⟩) | ((with_reducible refine gate_callee (f := 31) rfl ?_); refine goesL_ (some 20) rfl rfl Try.func31 (by kernel_rfl) rfl #[.slice A0 l0.length c0] rfl (by (try simp only [List.map_toArray, List.map_cons, List.map_nil]); first | done | rfl | (simp only [List.length_drop, List.length_take]; rfl)) ?_; (with_reducible refine (spec_DrawVotes.calls k _ _ l0 t382 t385 _ ?side1 ?side2 A4.out).mono ?_); (case side1 => repeat (first | exact HR0.out | (with_reducible refine Kd.C_alloc ?_ _) | (with_reducible refine Kd.C_drewN ?_ _) | (with_reducible refine Kd.C_drew ?_))); (case side2 => exact HC0.out); rintro e w34 ⟨v383, v386, rfl, ho0, ho1, hb⟩; refine ⟨_, rfl, ?_⟩; have n0_ := Aside0.mk (Kd.N_lower (Kd.N_mono (ok' := fun k_ => some k_ ≠ (v386 : Value).ownBlock) ho0 (fun k_ hk_ => hk_.2)) (below_size (by repeat (first | (with_reducible first | exact HB.out | apply below_alloc | apply pw_below_drewN | apply below_drew1) | exact HB.out)))); have n1_ := Aside0.mk (Kd.R_lower (Kd.R_mono (ok' := fun k_ => True) ho1 (fun _ hk_ => trivial)) (below_size (by repeat (first | (with_reducible first | exact HB.out | apply below_alloc | apply pw_below_drewN | apply below_drew1) | exact HB.out)))); have n2_ := Aside0.mk (below_step (by repeat (first | (with_reducible first | exact HB.out | apply below_alloc | apply pw_below_drewN | apply below_drew1) | exact HB.out)) hb); clear HB; have HO384 := n0_; have HO387 := n1_; have HB := n2_; clear n0_ n1_ n2_; (try clear hb); (try clear hb2); (try clear hk); (try clear hi); (try clear ho0); (try clear ho1); obtain ⟨Ao35, co35, eo35⟩ := Kd.R_slice HO387.out; subst eo35; have p396 : 0 ≤ (0 : Int) := (by omega); have q396 : 0 < (t385.length : Int) := of_decide_eq_true (by first | (with_reducible assumption) | assumption); obtain ⟨ad396, e396, hx396_0, hx396_1, hx396_2, hx396_3⟩ := at_T40 (Kd.R_reads' HO387.out).2.2 0 p396 q396; cases e396; have qi396 : (0 < t385.length) = True := eq_true (by omega); (try rw [show ((0 : Int)).toNat = 0 from rfl] at hx396_0); (try rw [show 0 * 4 = 0 from rfl] at hx396_0); (try rw [Addr.add_zero'] at hx396_0); (try rw [show ((0 : Int)).toNat = 0 from rfl] at hx396_1); (try rw [show 0 * 4 = 0 from rfl] at hx396_1); (try rw [Addr.add_zero'] at hx396_1); (try rw [show ((0 : Int)).toNat = 0 from rfl] at hx396_2); (try rw [show 0 * 4 = 0 from rfl] at hx396_2); (try rw [Addr.add_zero'] at hx396_2); (try rw [show ((0 : Int)).toNat = 0 from rfl] at hx396_3); (try rw [show 0 * 4 = 0 from rfl] at hx396_3); (try rw [Addr.add_zero'] at hx396_3); replace p396 := eq_true p396; replace q396 := eq_true q396) | ((with_reducible refine gate_dst (N := 7) rfl ?_); refine box_event ?hg (N := 7) ?hd (cs := #[.int .i64 0, .int .i64 0, .int .i64 0, .int .i64 0]) (t := 40) ?hr ?_; (case hd => rfl); (case hg => rfl); (case hr => first | (go_simp; done) | (go_simp; rfl)); intro gb397 hg w36 hbox hb; have n0_ := Aside0.mk (Kd.N_below (Kd.N_elderB (by (with_reducible repeat (first | apply Kd.N_alloc | apply Kd.N_drewN | apply Kd.N_drew)); exact HO384.out) gb397 (Nat.le_of_eq hg.symm)) hb); have n1_ := Aside0.mk (Kd.R_below (Kd.R_elderB (by (with_reducible repeat (first | apply Kd.R_alloc | apply Kd.R_drewN | apply Kd.R_drew)); exact HO387.out) gb397 (Nat.le_of_eq hg.symm)) hb); have n2_ := Aside0.mk (below_step (by repeat (first | (with_reducible first | exact HB.out | apply below_alloc | apply pw_below_drewN | apply below_drew1) | exact HB.out)) hb); have n3_ := Aside0.mk (hbox); have n4_ := Aside0.mk ((by rw [hg]; exact (below_size (by repeat (first | (with_reducible first | exact HB.out | apply below_alloc | apply pw_below_drewN | apply below_drew1) | exact HB.out))) : w.heap.size ≤ gb397)); have n5_ := Aside0.mk ((by rw [hg]; exact (below_size (by repeat (first | (with_reducible first | exact HB.out | apply below_alloc | apply pw_below_drewN | apply below_drew1) | exact HB.out))) : w.heap.size ≤ gb397)); clear HO384; clear HO387; clear HB; have HO384 := n0_; have HO387 := n1_; have HB := n2_; have BK397 := n3_; have GW397 := n4_; have GE397 := n5_; clear n0_ n1_ n2_ n3_ n4_ n5_; clear hb hbox hg; have hcz37_0 : w36.cell? ⟨gb397, 0, none⟩ = some (.int .i64 0) := (blk_cell BK397.out 0).trans rfl; have hcz37_1 : w36.cell? ⟨gb397, 1, none⟩ = some (.int .i64 0) := (blk_cell BK397.out 1).trans rfl; have hcz37_2 : w36.cell? ⟨gb397, 2, none⟩ = some (.int .i64 0) := (blk_cell BK397.out 2).trans rfl; have hcz37_3 : w36.cell? ⟨gb397, 3, none⟩ = some (.int .i64 0) := (blk_cell BK397.out 3).trans rfl; have hfz37_0 := blk_frozen BK397.out 0; have hfz37_1 := blk_frozen BK397.out 1; have hfz37_2 := blk_frozen BK397.out 2; have hfz37_3 := blk_frozen BK397.out 3) | ((with_reducible refine gate_callee (f := 33) rfl ?_); refine goesL_ (some 53) rfl rfl Try.func33 (by kernel_rfl) rfl #[.slice (some ad396) t385.length co35, .int .i64 ((rd_T40 t385 0).f0), .int .i64 ((rd_T40 t385 0).f1), .int .i64 ((rd_T40 t385 0).f2)] rfl (by (try simp only [List.map_toArray, List.map_cons, List.map_nil]); first | done | rfl | (simp only [List.length_drop, List.length_take]; rfl)) ?_; (with_reducible refine (impl_SignersOf.calls k _ _ t385 ((rd_T40 t385 0).f0) ((rd_T40 t385 0).f1) ((rd_T40 t385 0).f2) t398 _ ?side1 ?side2 A32.out).mono ?_); (case side1 => refine (Kd.R_reads' (e := 40) (base := w.heap.size) (ok := fun k_ => (True ∧ k_ ≠ gb397)) (n := t385.length) (c := co35) ?_).2.2; exact (by (with_reducible repeat (first | apply Kd.R_alloc | apply Kd.R_drewN | apply Kd.R_drew)); exact (Kd.R_mono (Kd.R_far (p := ⟨gb397, 3, none⟩) (Kd.R_far (p := ⟨gb397, 2, none⟩) (Kd.R_far (p := ⟨gb397, 1, none⟩) (Kd.R_far (p := ⟨gb397, 0, none⟩) (Kd.R_mono HO387.out (fun k_ hk => (⟨hk, hk.2⟩ : _ ∧ k_ ≠ gb397))) (fun _ hk => hk.2) (.int .i64 ((rd_T40 t385 0).f0))) (fun _ hk => hk.2) (.int .i64 ((rd_T40 t385 0).f1))) (fun _ hk => hk.2) (.int .i64 ((rd_T40 t385 0).f2))) (fun _ hk => hk.2) (.int .i64 ((rd_T40 t385 0).f3))) (fun _ h_ => h_.1)))); (case side2 => exact (Kd.R_reads' HO387.out).2.1); rintro e w38 ⟨rfl, hb⟩; refine ⟨_, rfl, ?_⟩; have n0_ := Aside0.mk (Kd.N_below (by (with_reducible repeat (first | apply Kd.N_alloc | apply Kd.N_drewN | apply Kd.N_drew)); exact (Kd.N_mono (Kd.N_far (p := ⟨gb397, 3, none⟩) (Kd.N_far (p := ⟨gb397, 2, none⟩) (Kd.N_far (p := ⟨gb397, 1, none⟩) (Kd.N_far (p := ⟨gb397, 0, none⟩) (Kd.N_mono HO384.out (fun k_ hk => (⟨hk, hk.2⟩ : _ ∧ k_ ≠ gb397))) (fun _ hk => hk.2) (.int .i64 ((rd_T40 t385 0).f0))) (fun _ hk => hk.2) (.int .i64 ((rd_T40 t385 0).f1))) (fun _ hk => hk.2) (.int .i64 ((rd_T40 t385 0).f2))) (fun _ hk => hk.2) (.int .i64 ((rd_T40 t385 0).f3))) (fun _ h_ => h_.1))) hb); have n1_ := Aside0.mk (Kd.R_below (by (with_reducible repeat (first | apply Kd.R_alloc | apply Kd.R_drewN | apply Kd.R_drew)); exact (Kd.R_mono (Kd.R_far (p := ⟨gb397, 3, none⟩) (Kd.R_far (p := ⟨gb397, 2, none⟩) (Kd.R_far (p := ⟨gb397, 1, none⟩) (Kd.R_far (p := ⟨gb397, 0, none⟩) (Kd.R_mono HO387.out (fun k_ hk => (⟨hk, hk.2⟩ : _ ∧ k_ ≠ gb397))) (fun _ hk => hk.2) (.int .i64 ((rd_T40 t385 0).f0))) (fun _ hk => hk.2) (.int .i64 ((rd_T40 t385 0).f1))) (fun _ hk => hk.2) (.int .i64 ((rd_T40 t385 0).f2))) (fun _ hk => hk.2) (.int .i64 ((rd_T40 t385 0).f3))) (fun _ h_ => h_.1))) hb); have n2_ := Aside0.mk (blk_below (g := gb397) (o := .cells #[.int .i64 ((rd_T40 t385 0).f0), .int .i64 ((rd_T40 t385 0).f1), .int .i64 ((rd_T40 t385 0).f2), .int .i64 ((rd_T40 t385 0).f3)] 40 (0, 0)) (by (with_reducible repeat (first | refine blk_drewN ?_ _ | refine blk_drew ?_ | refine blk_alloc ?_ _)); refine blk_put (cs := #[.int .i64 ((rd_T40 t385 0).f0), .int .i64 ((rd_T40 t385 0).f1), .int .i64 ((rd_T40 t385 0).f2), .int .i64 0]) ?_ 3 _ rfl; (with_reducible repeat (first | refine blk_drewN ?_ _ | refine blk_drew ?_ | refine blk_alloc ?_ _)); refine blk_put (cs := #[.int .i64 ((rd_T40 t385 0).f0), .int .i64 ((rd_T40 t385 0).f1), .int .i64 0, .int .i64 0]) ?_ 2 _ rfl; (with_reducible repeat (first | refine blk_drewN ?_ _ | refine blk_drew ?_ | refine blk_alloc ?_ _)); refine blk_put (cs := #[.int .i64 ((rd_T40 t385 0).f0), .int .i64 0, .int .i64 0, .int .i64 0]) ?_ 1 _ rfl; (with_reducible repeat (first | refine blk_drewN ?_ _ | refine blk_drew ?_ | refine blk_alloc ?_ _)); refine blk_put (cs := #[.int .i64 0, .int .i64 0, .int .i64 0, .int .i64 0]) ?_ 0 _ rfl; (with_reducible repeat (first | refine blk_drewN ?_ _ | refine blk_drew ?_ | refine blk_alloc ?_ _)); exact BK397.out) hb); have n3_ := Aside0.mk (below_step (by repeat (first | (with_reducible first | exact HB.out | apply below_alloc | apply pw_below_drewN | apply below_drew1 | refine below_set ?_ GE397.out) | exact HB.out)) hb); clear HO384; clear HO387; clear BK397; clear HB; have HO384 := n0_; have HO387 := n1_; have BK397 := n2_; have HB := n3_; clear n0_ n1_ n2_ n3_; (try clear hb); (try clear hb2); (try clear hk); (try clear hi); have hcz39_0 : w38.cell? ⟨gb397, 0, none⟩ = some (.int .i64 ((rd_T40 t385 0).f0)) := (blk_cell BK397.out 0).trans rfl; have hcz39_1 : w38.cell? ⟨gb397, 1, none⟩ = some (.int .i64 ((rd_T40 t385 0).f1)) := (blk_cell BK397.out 1).trans rfl; have hcz39_2 : w38.cell? ⟨gb397, 2, none⟩ = some (.int .i64 ((rd_T40 t385 0).f2)) := (blk_cell BK397.out 2).trans rfl; have hcz39_3 : w38.cell? ⟨gb397, 3, none⟩ = some (.int .i64 ((rd_T40 t385 0).f3)) := (blk_cell BK397.out 3).trans rfl; have hfz39_0 := blk_frozen BK397.out 0; have hfz39_1 := blk_frozen BK397.out 1; have hfz39_2 := blk_frozen BK397.out 2; have hfz39_3 := blk_frozen BK397.out 3) | ((with_reducible refine gate_callee (f := 18) rfl ?_); refine goesL_ (some 62) rfl rfl Try.func18 (by kernel_rfl) rfl #[.slice (some ad396) t385.length co35, .int .i64 ((rd_T40 t385 0).f0), .int .i64 ((rd_T40 t385 0).f1), .int .i64 ((rd_T40 t385 0).f2), .int .i64 4] rfl (by (try simp only [List.map_toArray, List.map_cons, List.map_nil]); first | done | rfl | (simp only [List.length_drop, List.length_take]; rfl)) ?_; (with_reducible refine (impl_QcOf.calls k _ _ t385 ((rd_T40 t385 0).f0) ((rd_T40 t385 0).f1) ((rd_T40 t385 0).f2) 4 t399 t400 t401 t402 t403 _ ?side1 ?side2 A33.out).mono ?_); (case side1 => repeat (first | exact (Kd.R_reads' HO387.out).2.2 | (with_reducible refine Kd.C_alloc ?_ _) | (with_reducible refine Kd.C_drewN ?_ _) | (with_reducible refine Kd.C_drew ?_))); (case side2 => exact (Kd.R_reads' HO387.out).2.1); rintro e w40 ⟨rfl, hb⟩; refine ⟨_, rfl, ?_⟩; have n0_ := Aside0.mk (Kd.N_below (by (with_reducible repeat (first | apply Kd.N_alloc | apply Kd.N_drewN | apply Kd.N_drew)); exact HO384.out) hb); have n1_ := Aside0.mk (Kd.R_below (by (with_reducible repeat (first | apply Kd.R_alloc | apply Kd.R_drewN | apply Kd.R_drew)); exact HO387.out) hb); have n2_ := Aside0.mk (blk_below (g := gb397) (o := .cells #[.int .i64 ((rd_T40 t385 0).f0), .int .i64 ((rd_T40 t385 0).f1), .int .i64 ((rd_T40 t385 0).f2), .int .i64 ((rd_T40 t385 0).f3)] 40 (0, 0)) (by (with_reducible repeat (first | refine blk_drewN ?_ _ | refine blk_drew ?_ | refine blk_alloc ?_ _)); exact BK397.out) hb); have n3_ := Aside0.mk (below_step (by repeat (first | (with_reducible first | exact HB.out | apply below_alloc | apply pw_below_drewN | apply below_drew1 | refine below_set ?_ GE397.out) | exact HB.out)) hb); clear HO384; clear HO387; clear BK397; clear HB; have HO384 := n0_; have HO387 := n1_; have BK397 := n2_; have HB := n3_; clear n0_ n1_ n2_ n3_; (try clear hb); (try clear hb2); (try clear hk); (try clear hi)) | ((with_reducible refine gate_dst (N := 9) rfl ?_); refine box_event ?hg (N := 9) ?hd (cs := #[.int .i64 0, .int .i64 0, .int .i64 0, .int .i64 0]) (t := 25) ?hr ?_; (case hd => rfl); (case hg => rfl); (case hr => first | (go_simp; done) | (go_simp; rfl)); intro gb404 hg w41 hbox hb; have n0_ := Aside0.mk (Kd.N_below (Kd.N_elderB (by (with_reducible repeat (first | apply Kd.N_alloc | apply Kd.N_drewN | apply Kd.N_drew)); exact HO384.out) gb404 (Nat.le_of_eq hg.symm)) hb); have n1_ := Aside0.mk (Kd.R_below (by (with_reducible repeat (first | apply Kd.R_alloc | apply Kd.R_drewN | apply Kd.R_drew)); exact HO387.out) hb); have n2_ := Aside0.mk (blk_below (g := gb397) (o := .cells #[.int .i64 ((rd_T40 t385 0).f0), .int .i64 ((rd_T40 t385 0).f1), .int .i64 ((rd_T40 t385 0).f2), .int .i64 ((rd_T40 t385 0).f3)] 40 (0, 0)) (by (with_reducible repeat (first | refine blk_drewN ?_ _ | refine blk_drew ?_ | refine blk_alloc ?_ _)); exact BK397.out) hb); have n3_ := Aside0.mk (below_step (by repeat (first | (with_reducible first | exact HB.out | apply below_alloc | apply pw_below_drewN | apply below_drew1 | refine below_set ?_ GE397.out) | exact HB.out)) hb); have n4_ := Aside0.mk (hbox); have n5_ := Aside0.mk ((by rw [hg]; exact (below_size (by repeat (first | (with_reducible first | exact HB.out | apply below_alloc | apply pw_below_drewN | apply below_drew1 | refine below_set ?_ GE397.out) | exact HB.out))) : w.heap.size ≤ gb404)); have n6_ := Aside0.mk ((by rw [hg]; exact (below_size (by repeat (first | (with_reducible first | exact HB.out | apply below_alloc | apply pw_below_drewN | apply below_drew1 | refine below_set ?_ GE397.out) | exact HB.out))) : w.heap.size ≤ gb404)); have n7_ := Aside0.mk ((by rw [hg]; exact Nat.ne_of_lt (blk_lt (g := gb397) (o := .cells #[.int .i64 ((rd_T40 t385 0).f0), .int .i64 ((rd_T40 t385 0).f1), .int .i64 ((rd_T40 t385 0).f2), .int .i64 ((rd_T40 t385 0).f3)] 40 (0, 0)) (by (with_reducible repeat (first | refine blk_drewN ?_ _ | refine blk_drew ?_ | refine blk_alloc ?_ _)); exact BK397.out)) : gb397 ≠ gb404)); have n8_ := Aside0.mk ((by rw [hg]; exact Nat.ne_of_gt (blk_lt (g := gb397) (o := .cells #[.int .i64 ((rd_T40 t385 0).f0), .int .i64 ((rd_T40 t385 0).f1), .int .i64 ((rd_T40 t385 0).f2), .int .i64 ((rd_T40 t385 0).f3)] 40 (0, 0)) (by (with_reducible repeat (first | refine blk_drewN ?_ _ | refine blk_drew ?_ | refine blk_alloc ?_ _)); exact BK397.out)) : gb404 ≠ gb397)); clear HO384; clear HO387; clear BK397; clear HB; have HO384 := n0_; have HO387 := n1_; have BK397 := n2_; have HB := n3_; have BK404 := n4_; have GW404 := n5_; have GE404 := n6_; have NB397_404 := n7_; have NB404_397 := n8_; clear n0_ n1_ n2_ n3_ n4_ n5_ n6_ n7_ n8_; clear hb hbox hg; have hnb42 := NB404_397.out; have hnc42 := NB397_404.out; have hcz43_0 : w41.cell? ⟨gb404, 0, none⟩ = some (.int .i64 0) := (blk_cell BK404.out 0).trans rfl; have hcz43_1 : w41.cell? ⟨gb404, 1, none⟩ = some (.int .i64 0) := (blk_cell BK404.out 1).trans rfl; have hcz43_2 : w41.cell? ⟨gb404, 2, none⟩ = some (.int .i64 0) := (blk_cell BK404.out 2).trans rfl; have hcz43_3 : w41.cell? ⟨gb404, 3, none⟩ = some (.int .i64 0) := (blk_cell BK404.out 3).trans rfl; have hfz43_0 := blk_frozen BK404.out 0; have hfz43_1 := blk_frozen BK404.out 1; have hfz43_2 := blk_frozen BK404.out 2; have hfz43_3 := blk_frozen BK404.out 3))
        go_loopg [11] k (fun kq v11 w' => ∃ (x11_1 : Int), v11 = .int .i64 x11_1 ∧ Aside0 (laws_FnCerts.l0 kq t385 t398 t403 x11_1 ((rd_T40 t385 0).f0) ((rd_T40 t385 0).f1) ((rd_T40 t385 0).f2) ((rd_T40 t385 0).f3) t399 t400 t401 t402 = some r) ∧ Aside0 (kq ≤ k) ∧ Aside0 (Kd.R k40 40 w' w.heap.size (fun k_ => k_ ≠ gb397) (.slice (some ad396) t385.length co35) t385) ∧ Aside0 (w'.heap[gb397]? = some (.cells #[.int .i64 ((rd_T40 t385 0).f0), .int .i64 ((rd_T40 t385 0).f1), .int .i64 ((rd_T40 t385 0).f2), .int .i64 ((rd_T40 t385 0).f3)] 40 (0, 0))) ∧ Aside0 (w'.heap[gb404]? = some (.cells #[.int .i64 t399, .int .i64 t400, .int .i64 t401, .int .i64 t402] 25 (0, 0))) ∧ Aside0 (Below w.heap.size w w'))
        case atStart => exact ⟨(0), (by first | rfl | (simp; done) | (simp [*]; done)), H', ⟨Nat.le_refl _⟩, ⟨by (with_reducible repeat (first | apply Kd.R_alloc | apply Kd.R_drewN | apply Kd.R_drew)); exact Kd.R_mono (Kd.R_far (p := ⟨gb404, 3, none⟩) (Kd.R_far (p := ⟨gb404, 2, none⟩) (Kd.R_far (p := ⟨gb404, 1, none⟩) (Kd.R_far (p := ⟨gb404, 0, none⟩) (Kd.R_types HO387.out BK404.out (by decide)) (fun _ hk => hk.2) (.int .i64 t399)) (fun _ hk => hk.2) (.int .i64 t400)) (fun _ hk => hk.2) (.int .i64 t401)) (fun _ hk => hk.2) (.int .i64 t402)) (fun _ hk => hk.1.2)⟩, ⟨by (with_reducible repeat (first | refine blk_drewN ?_ _ | refine blk_drew ?_ | refine blk_alloc ?_ _)); refine blk_far ?_ NB397_404.out _; (with_reducible repeat (first | refine blk_drewN ?_ _ | refine blk_drew ?_ | refine blk_alloc ?_ _)); refine blk_far ?_ NB397_404.out _; (with_reducible repeat (first | refine blk_drewN ?_ _ | refine blk_drew ?_ | refine blk_alloc ?_ _)); refine blk_far ?_ NB397_404.out _; (with_reducible repeat (first | refine blk_drewN ?_ _ | refine blk_drew ?_ | refine blk_alloc ?_ _)); refine blk_far ?_ NB397_404.out _; (with_reducible repeat (first | refine blk_drewN ?_ _ | refine blk_drew ?_ | refine blk_alloc ?_ _)); exact BK397.out⟩, ⟨by (with_reducible repeat (first | refine blk_drewN ?_ _ | refine blk_drew ?_ | refine blk_alloc ?_ _)); refine blk_put (cs := #[.int .i64 t399, .int .i64 t400, .int .i64 t401, .int .i64 0]) ?_ 3 _ rfl; (with_reducible repeat (first | refine blk_drewN ?_ _ | refine blk_drew ?_ | refine blk_alloc ?_ _)); refine blk_put (cs := #[.int .i64 t399, .int .i64 t400, .int .i64 0, .int .i64 0]) ?_ 2 _ rfl; (with_reducible repeat (first | refine blk_drewN ?_ _ | refine blk_drew ?_ | refine blk_alloc ?_ _)); refine blk_put (cs := #[.int .i64 t399, .int .i64 0, .int .i64 0, .int .i64 0]) ?_ 1 _ rfl; (with_reducible repeat (first | refine blk_drewN ?_ _ | refine blk_drew ?_ | refine blk_alloc ?_ _)); refine blk_put (cs := #[.int .i64 0, .int .i64 0, .int .i64 0, .int .i64 0]) ?_ 0 _ rfl; (with_reducible repeat (first | refine blk_drewN ?_ _ | refine blk_drew ?_ | refine blk_alloc ?_ _)); exact BK404.out⟩, ⟨by repeat (first | (with_reducible first | exact HB.out | apply below_alloc | apply pw_below_drewN | apply below_drew1 | refine below_set ?_ GE397.out | refine below_set ?_ GE404.out) | exact HB.out)⟩⟩
        case round =>
          clear H'
          try clear c1
          try clear p2
          try clear c3
          try clear p3
          try clear q3
          try clear hx3
          try clear qi3
          try clear c4
          try clear c5
          try clear c5b0
          try clear c5b1
          try clear c5b2
          try clear c6
          try clear c7
          try clear c14
          try clear c18
          try clear c30
          try clear c31
          try clear c31b0
          try clear c31b1
          try clear c33
          try clear p39
          try clear q39
          try clear hx39
          try clear qi39
          try clear c42
          try clear hcz12_0
          try clear hcz12_1
          try clear hcz12_2
          try clear hcz12_3
          try clear hcz20_0
          try clear hcz20_1
          try clear hcz20_2
          try clear hcz20_3
          try clear hcz28_0
          try clear hcz28_1
          try clear hcz28_2
          try clear hcz28_3
          try clear hcz37_0
          try clear hcz37_1
          try clear hcz37_2
          try clear hcz37_3
          try clear hcz39_0
          try clear hcz39_1
          try clear hcz39_2
          try clear hcz39_3
          try clear hcz43_0
          try clear hcz43_1
          try clear hcz43_2
          try clear hcz43_3
          try clear hfz12_0
          try clear hfz12_1
          try clear hfz12_2
          try clear hfz12_3
          try clear hfz20_0
          try clear hfz20_1
          try clear hfz20_2
          try clear hfz20_3
          try clear hfz28_0
          try clear hfz28_1
          try clear hfz28_2
          try clear hfz28_3
          try clear hfz37_0
          try clear hfz37_1
          try clear hfz37_2
          try clear hfz37_3
          try clear hfz39_0
          try clear hfz39_1
          try clear hfz39_2
          try clear hfz39_3
          try clear hfz43_0
          try clear hfz43_1
          try clear hfz43_2
          try clear hfz43_3
          try clear hx396_0
          try clear hx396_1
          try clear hx396_2
          try clear hx396_3
          try clear p396
          try clear q396
          obtain ⟨x11_1, rfl, HA, HK1, HO_4, BK397, BK404, HB⟩ := hrel
          cases gk with
          | zero => exact absurd HA.out (by simp [laws_FnCerts.l0])
          | succ k1 =>
            have H := HA.out
            clear HA
            simp only [laws_FnCerts.l0] at H
            by_cases c44 : x11_1 < 7
            · rw [if_pos c44] at H
              have c44b0 : decide (x11_1 < 7) = true := decide_eq_true c44
              clear c44
              have H' := Aside0.mk H
              clear H
              go_wp2
              go_loopg [12, 13] k1 (fun kq v12 v13 w' => ∃ (x12_2 : Bool) (x13_2 : Int), v12 = .bool x12_2 ∧ v13 = .int .i64 x13_2 ∧ Aside0 (laws_FnCerts.l1 kq t385 t398 t403 x11_1 x12_2 x13_2 ((rd_T40 t385 0).f0) ((rd_T40 t385 0).f1) ((rd_T40 t385 0).f2) ((rd_T40 t385 0).f3) t399 t400 t401 t402 = some r) ∧ Aside0 (kq ≤ k1) ∧ Aside0 (Kd.R k40 40 w' w.heap.size (fun k_ => k_ ≠ gb397) (.slice (some ad396) t385.length co35) t385) ∧ Aside0 (w'.heap[gb397]? = some (.cells #[.int .i64 ((rd_T40 t385 0).f0), .int .i64 ((rd_T40 t385 0).f1), .int .i64 ((rd_T40 t385 0).f2), .int .i64 ((rd_T40 t385 0).f3)] 40 (0, 0))) ∧ Aside0 (w'.heap[gb404]? = some (.cells #[.int .i64 t399, .int .i64 t400, .int .i64 t401, .int .i64 t402] 25 (0, 0))) ∧ Aside0 (Below w.heap.size w w'))
              case atStart => exact ⟨(false), (0), (by first | rfl | (simp; done) | (simp [*]; done)), (by first | rfl | (simp; done) | (simp [*]; done)), H', ⟨Nat.le_refl _⟩, ⟨by (with_reducible repeat (first | apply Kd.R_alloc | apply Kd.R_drewN | apply Kd.R_drew)); exact HO_4.out⟩, ⟨by (with_reducible repeat (first | refine blk_drewN ?_ _ | refine blk_drew ?_ | refine blk_alloc ?_ _)); exact BK397.out⟩, ⟨by (with_reducible repeat (first | refine blk_drewN ?_ _ | refine blk_drew ?_ | refine blk_alloc ?_ _)); exact BK404.out⟩, ⟨by repeat (first | (with_reducible first | exact HB.out | apply below_alloc | apply pw_below_drewN | apply below_drew1 | refine below_set ?_ GE397.out | refine below_set ?_ GE404.out) | exact HB.out)⟩⟩
              case round =>
                clear H'
                try clear c1
                try clear p2
                try clear c3
                try clear p3
                try clear q3
                try clear hx3
                try clear qi3
                try clear c4
                try clear c5
                try clear c5b0
                try clear c5b1
                try clear c5b2
                try clear c6
                try clear c7
                try clear c14
                try clear c18
                try clear c30
                try clear c31
                try clear c31b0
                try clear c31b1
                try clear c33
                try clear p39
                try clear q39
                try clear hx39
                try clear qi39
                try clear c42
                try clear c44
                try clear c44b0
                try clear hcz12_0
                try clear hcz12_1
                try clear hcz12_2
                try clear hcz12_3
                try clear hcz20_0
                try clear hcz20_1
                try clear hcz20_2
                try clear hcz20_3
                try clear hcz28_0
                try clear hcz28_1
                try clear hcz28_2
                try clear hcz28_3
                try clear hcz37_0
                try clear hcz37_1
                try clear hcz37_2
                try clear hcz37_3
                try clear hcz39_0
                try clear hcz39_1
                try clear hcz39_2
                try clear hcz39_3
                try clear hcz43_0
                try clear hcz43_1
                try clear hcz43_2
                try clear hcz43_3
                try clear hfz12_0
                try clear hfz12_1
                try clear hfz12_2
                try clear hfz12_3
                try clear hfz20_0
                try clear hfz20_1
                try clear hfz20_2
                try clear hfz20_3
                try clear hfz28_0
                try clear hfz28_1
                try clear hfz28_2
                try clear hfz28_3
                try clear hfz37_0
                try clear hfz37_1
                try clear hfz37_2
                try clear hfz37_3
                try clear hfz39_0
                try clear hfz39_1
                try clear hfz39_2
                try clear hfz39_3
                try clear hfz43_0
                try clear hfz43_1
                try clear hfz43_2
                try clear hfz43_3
                try clear hx396_0
                try clear hx396_1
                try clear hx396_2
                try clear hx396_3
                try clear p2
                try clear p3
                try clear p39
                try clear p396
                try clear q3
                try clear q39
                try clear q396
                obtain ⟨x12_2, x13_2, rfl, rfl, HA, HK2, HO_4, BK397, BK404, HB⟩ := hrel
                cases gk with
                | zero => exact absurd HA.out (by simp [laws_FnCerts.l1])
                | succ k2 =>
                  have H := HA.out
                  clear HA
                  simp only [laws_FnCerts.l1] at H
                  by_cases c45 : x13_2 < (t385.length : Int)
                  · rw [if_pos c45] at H
                    have c45b0 : decide (x13_2 < (t385.length : Int)) = true := decide_eq_true c45
                    clear c45
                    by_cases c46 : 0 ≤ x13_2
                    · rw [if_pos c46] at H
                      have c46b0 : decide (0 ≤ x13_2) = true := decide_eq_true c46
                      clear c46
                      by_cases c47 : x12_2 = true
                      · subst c47
                        have H1 : (laws_FnCerts.l1 k2 t385 t398 t403 x11_1 true (wrap64 (x13_2 + 1)) ((rd_T40 t385 0).f0) ((rd_T40 t385 0).f1) ((rd_T40 t385 0).f2) ((rd_T40 t385 0).f3) t399 t400 t401 t402) = some r := by rw [if_pos rfl] at H; exact H
                        clear H
                        have H := H1
                        clear H1
                        have H' := Aside0.mk H
                        clear H
                        have p405 : 0 ≤ (x13_2 : Int) := of_decide_eq_true (by first | (with_reducible assumption) | assumption)
                        have q405 : x13_2 < (t385.length : Int) := of_decide_eq_true (by first | (with_reducible assumption) | assumption)
                        obtain ⟨ad405, e405, hx405_0, hx405_1, hx405_2, hx405_3⟩ := at_T40 (Kd.R_reads' HO_4.out).2.2 x13_2 p405 q405
                        obtain rfl : ad396 = ad405 := (by injection e405)
                        replace p405 := eq_true p405
                        replace q405 := eq_true q405
                        go_wp2_with (first | ((with_reducible refine gate_dst (N := 14) rfl ?_); refine box_event ?hg (N := 14) ?hd (cs := #[.int .i64 0, .int .i64 0, .int .i64 0, .int .i64 0]) (t := 40) ?hr ?_; (case hd => rfl); (case hg => rfl); (case hr => first | (go_simp; done) | (go_simp; rfl)); intro gb406 hg w48 hbox hb; have n0_ := Aside0.mk (Kd.R_below (Kd.R_elderB (by (with_reducible repeat (first | apply Kd.R_alloc | apply Kd.R_drewN | apply Kd.R_drew)); exact HO_4.out) gb406 (Nat.le_of_eq hg.symm)) hb); have n1_ := Aside0.mk (blk_below (g := gb397) (o := .cells #[.int .i64 ((rd_T40 t385 0).f0), .int .i64 ((rd_T40 t385 0).f1), .int .i64 ((rd_T40 t385 0).f2), .int .i64 ((rd_T40 t385 0).f3)] 40 (0, 0)) (by (with_reducible repeat (first | refine blk_drewN ?_ _ | refine blk_drew ?_ | refine blk_alloc ?_ _)); exact BK397.out) hb); have n2_ := Aside0.mk (blk_below (g := gb404) (o := .cells #[.int .i64 t399, .int .i64 t400, .int .i64 t401, .int .i64 t402] 25 (0, 0)) (by (with_reducible repeat (first | refine blk_drewN ?_ _ | refine blk_drew ?_ | refine blk_alloc ?_ _)); exact BK404.out) hb); have n3_ := Aside0.mk (below_step (by repeat (first | (with_reducible first | exact HB.out | apply below_alloc | apply pw_below_drewN | apply below_drew1 | refine below_set ?_ GE397.out | refine below_set ?_ GE404.out) | exact HB.out)) hb); have n4_ := Aside0.mk (hbox); have n5_ := Aside0.mk ((by rw [hg]; exact (below_size (by repeat (first | (with_reducible first | exact HB.out | apply below_alloc | apply pw_below_drewN | apply below_drew1 | refine below_set ?_ GE397.out | refine below_set ?_ GE404.out) | exact HB.out))) : w.heap.size ≤ gb406)); have n6_ := Aside0.mk ((by rw [hg]; exact (below_size (by repeat (first | (with_reducible first | exact HB.out | apply below_alloc | apply pw_below_drewN | apply below_drew1 | refine below_set ?_ GE397.out | refine below_set ?_ GE404.out) | exact HB.out))) : w.heap.size ≤ gb406)); have n7_ := Aside0.mk ((by rw [hg]; exact Nat.ne_of_lt (blk_lt (g := gb397) (o := .cells #[.int .i64 ((rd_T40 t385 0).f0), .int .i64 ((rd_T40 t385 0).f1), .int .i64 ((rd_T40 t385 0).f2), .int .i64 ((rd_T40 t385 0).f3)] 40 (0, 0)) (by (with_reducible repeat (first | refine blk_drewN ?_ _ | refine blk_drew ?_ | refine blk_alloc ?_ _)); exact BK397.out)) : gb397 ≠ gb406)); have n8_ := Aside0.mk ((by rw [hg]; exact Nat.ne_of_gt (blk_lt (g := gb397) (o := .cells #[.int .i64 ((rd_T40 t385 0).f0), .int .i64 ((rd_T40 t385 0).f1), .int .i64 ((rd_T40 t385 0).f2), .int .i64 ((rd_T40 t385 0).f3)] 40 (0, 0)) (by (with_reducible repeat (first | refine blk_drewN ?_ _ | refine blk_drew ?_ | refine blk_alloc ?_ _)); exact BK397.out)) : gb406 ≠ gb397)); have n9_ := Aside0.mk ((by rw [hg]; exact Nat.ne_of_lt (blk_lt (g := gb404) (o := .cells #[.int .i64 t399, .int .i64 t400, .int .i64 t401, .int .i64 t402] 25 (0, 0)) (by (with_reducible repeat (first | refine blk_drewN ?_ _ | refine blk_drew ?_ | refine blk_alloc ?_ _)); exact BK404.out)) : gb404 ≠ gb406)); have n10_ := Aside0.mk ((by rw [hg]; exact Nat.ne_of_gt (blk_lt (g := gb404) (o := .cells #[.int .i64 t399, .int .i64 t400, .int .i64 t401, .int .i64 t402] 25 (0, 0)) (by (with_reducible repeat (first | refine blk_drewN ?_ _ | refine blk_drew ?_ | refine blk_alloc ?_ _)); exact BK404.out)) : gb406 ≠ gb404)); clear HO_4; clear BK397; clear BK404; clear HB; have HO_4 := n0_; have BK397 := n1_; have BK404 := n2_; have HB := n3_; have BK406 := n4_; have GW406 := n5_; have GE406 := n6_; have NB397_406 := n7_; have NB406_397 := n8_; have NB404_406 := n9_; have NB406_404 := n10_; clear n0_ n1_ n2_ n3_ n4_ n5_ n6_ n7_ n8_ n9_ n10_; clear hb hbox hg; have hnb49 := NB406_397.out; have hnc49 := NB397_406.out; have hnb50 := NB406_404.out; have hnc50 := NB404_406.out; have hcz51_0 : w48.cell? ⟨gb406, 0, none⟩ = some (.int .i64 0) := (blk_cell BK406.out 0).trans rfl; have hcz51_1 : w48.cell? ⟨gb406, 1, none⟩ = some (.int .i64 0) := (blk_cell BK406.out 1).trans rfl; have hcz51_2 : w48.cell? ⟨gb406, 2, none⟩ = some (.int .i64 0) := (blk_cell BK406.out 2).trans rfl; have hcz51_3 : w48.cell? ⟨gb406, 3, none⟩ = some (.int .i64 0) := (blk_cell BK406.out 3).trans rfl; have hfz51_0 := blk_frozen BK406.out 0; have hfz51_1 := blk_frozen BK406.out 1; have hfz51_2 := blk_frozen BK406.out 2; have hfz51_3 := blk_frozen BK406.out 3))
                        go_roundg k2
                        case measure => have := HK1.out; have := HK2.out; omega
                        case rel => exact ⟨(true), (wrap64 (x13_2 + 1)), (by first | rfl | (simp; done) | (simp [*]; done)), (by first | rfl | (simp; done) | (simp [*]; done)), H', ⟨by have := HK1.out; have := HK2.out; omega⟩, ⟨by (with_reducible repeat (first | apply Kd.R_alloc | apply Kd.R_drewN | apply Kd.R_drew)); exact Kd.R_mono (Kd.R_far (p := ⟨gb406, 3, none⟩) (Kd.R_far (p := ⟨gb406, 2, none⟩) (Kd.R_far (p := ⟨gb406, 1, none⟩) (Kd.R_far (p := ⟨gb406, 0, none⟩) (Kd.R_mono HO_4.out (fun k_ hk => (⟨hk, hk.2⟩ : _ ∧ k_ ≠ gb406))) (fun _ hk => hk.2) (.int .i64 ((rd_T40 t385 x13_2).f0))) (fun _ hk => hk.2) (.int .i64 ((rd_T40 t385 x13_2).f1))) (fun _ hk => hk.2) (.int .i64 ((rd_T40 t385 x13_2).f2))) (fun _ hk => hk.2) (.int .i64 ((rd_T40 t385 x13_2).f3))) (fun _ hk => hk.1.1)⟩, ⟨by (with_reducible repeat (first | refine blk_drewN ?_ _ | refine blk_drew ?_ | refine blk_alloc ?_ _)); refine blk_far ?_ NB397_406.out _; (with_reducible repeat (first | refine blk_drewN ?_ _ | refine blk_drew ?_ | refine blk_alloc ?_ _)); refine blk_far ?_ NB397_406.out _; (with_reducible repeat (first | refine blk_drewN ?_ _ | refine blk_drew ?_ | refine blk_alloc ?_ _)); refine blk_far ?_ NB397_406.out _; (with_reducible repeat (first | refine blk_drewN ?_ _ | refine blk_drew ?_ | refine blk_alloc ?_ _)); refine blk_far ?_ NB397_406.out _; (with_reducible repeat (first | refine blk_drewN ?_ _ | refine blk_drew ?_ | refine blk_alloc ?_ _)); exact BK397.out⟩, ⟨by (with_reducible repeat (first | refine blk_drewN ?_ _ | refine blk_drew ?_ | refine blk_alloc ?_ _)); refine blk_far ?_ NB404_406.out _; (with_reducible repeat (first | refine blk_drewN ?_ _ | refine blk_drew ?_ | refine blk_alloc ?_ _)); refine blk_far ?_ NB404_406.out _; (with_reducible repeat (first | refine blk_drewN ?_ _ | refine blk_drew ?_ | refine blk_alloc ?_ _)); refine blk_far ?_ NB404_406.out _; (with_reducible repeat (first | refine blk_drewN ?_ _ | refine blk_drew ?_ | refine blk_alloc ?_ _)); refine blk_far ?_ NB404_406.out _; (with_reducible repeat (first | refine blk_drewN ?_ _ | refine blk_drew ?_ | refine blk_alloc ?_ _)); exact BK404.out⟩, ⟨by repeat (first | (with_reducible first | exact HB.out | apply below_alloc | apply pw_below_drewN | apply below_drew1 | refine below_set ?_ GE397.out | refine below_set ?_ GE404.out | refine below_set ?_ GE406.out) | exact HB.out)⟩⟩
                      · replace c47 := Bool.eq_false_iff.mpr c47
                        subst c47
                        have H1 : (if ((rd_T40 t385 x13_2).f3) = x11_1 then (if ((rd_T40 t385 x13_2).f0) = ((rd_T40 t385 0).f0) then (if ((rd_T40 t385 x13_2).f1) = ((rd_T40 t385 0).f1) then (laws_FnCerts.l1 k2 t385 t398 t403 x11_1 (((rd_T40 t385 x13_2).f2) == ((rd_T40 t385 0).f2)) (wrap64 (x13_2 + 1)) ((rd_T40 t385 0).f0) ((rd_T40 t385 0).f1) ((rd_T40 t385 0).f2) ((rd_T40 t385 0).f3) t399 t400 t401 t402) else (laws_FnCerts.l1 k2 t385 t398 t403 x11_1 false (wrap64 (x13_2 + 1)) ((rd_T40 t385 0).f0) ((rd_T40 t385 0).f1) ((rd_T40 t385 0).f2) ((rd_T40 t385 0).f3) t399 t400 t401 t402)) else (laws_FnCerts.l1 k2 t385 t398 t403 x11_1 false (wrap64 (x13_2 + 1)) ((rd_T40 t385 0).f0) ((rd_T40 t385 0).f1) ((rd_T40 t385 0).f2) ((rd_T40 t385 0).f3) t399 t400 t401 t402)) else (laws_FnCerts.l1 k2 t385 t398 t403 x11_1 false (wrap64 (x13_2 + 1)) ((rd_T40 t385 0).f0) ((rd_T40 t385 0).f1) ((rd_T40 t385 0).f2) ((rd_T40 t385 0).f3) t399 t400 t401 t402)) = some r := by rw [if_neg (show ¬ (false = true) by decide)] at H; exact H
                        clear H
                        have H := H1
                        clear H1
                        by_cases c52 : ((rd_T40 t385 x13_2).f3) = x11_1
                        · rw [if_pos c52] at H
                          have c52b0 : (((rd_T40 t385 x13_2).f3) == x11_1) = true := beq_iff_eq.mpr c52
                          have c52b1 : (((rd_T40 t385 x13_2).f3) != x11_1) = false := bne_eq_false_iff_eq.mpr c52
                          clear c52
                          by_cases c53 : ((rd_T40 t385 x13_2).f0) = ((rd_T40 t385 0).f0)
                          · rw [if_pos c53] at H
                            have c53b0 : (((rd_T40 t385 x13_2).f0) == ((rd_T40 t385 0).f0)) = true := beq_iff_eq.mpr c53
                            have c53b1 : (((rd_T40 t385 x13_2).f0) != ((rd_T40 t385 0).f0)) = false := bne_eq_false_iff_eq.mpr c53
                            clear c53
                            by_cases c54 : ((rd_T40 t385 x13_2).f1) = ((rd_T40 t385 0).f1)
                            · rw [if_pos c54] at H
                              have c54b0 : (((rd_T40 t385 x13_2).f1) == ((rd_T40 t385 0).f1)) = true := beq_iff_eq.mpr c54
                              have c54b1 : (((rd_T40 t385 x13_2).f1) != ((rd_T40 t385 0).f1)) = false := bne_eq_false_iff_eq.mpr c54
                              clear c54
                              have H' := Aside0.mk H
                              clear H
                              have p405 : 0 ≤ (x13_2 : Int) := of_decide_eq_true (by first | (with_reducible assumption) | assumption)
                              have q405 : x13_2 < (t385.length : Int) := of_decide_eq_true (by first | (with_reducible assumption) | assumption)
                              obtain ⟨ad405, e405, hx405_0, hx405_1, hx405_2, hx405_3⟩ := at_T40 (Kd.R_reads' HO_4.out).2.2 x13_2 p405 q405
                              obtain rfl : ad396 = ad405 := (by injection e405)
                              replace p405 := eq_true p405
                              replace q405 := eq_true q405
                              go_wp2_with (first | ((with_reducible refine gate_dst (N := 14) rfl ?_); refine box_event ?hg (N := 14) ?hd (cs := #[.int .i64 0, .int .i64 0, .int .i64 0, .int .i64 0]) (t := 40) ?hr ?_; (case hd => rfl); (case hg => rfl); (case hr => first | (go_simp; done) | (go_simp; rfl)); intro gb406 hg w55 hbox hb; have n0_ := Aside0.mk (Kd.R_below (Kd.R_elderB (by (with_reducible repeat (first | apply Kd.R_alloc | apply Kd.R_drewN | apply Kd.R_drew)); exact HO_4.out) gb406 (Nat.le_of_eq hg.symm)) hb); have n1_ := Aside0.mk (blk_below (g := gb397) (o := .cells #[.int .i64 ((rd_T40 t385 0).f0), .int .i64 ((rd_T40 t385 0).f1), .int .i64 ((rd_T40 t385 0).f2), .int .i64 ((rd_T40 t385 0).f3)] 40 (0, 0)) (by (with_reducible repeat (first | refine blk_drewN ?_ _ | refine blk_drew ?_ | refine blk_alloc ?_ _)); exact BK397.out) hb); have n2_ := Aside0.mk (blk_below (g := gb404) (o := .cells #[.int .i64 t399, .int .i64 t400, .int .i64 t401, .int .i64 t402] 25 (0, 0)) (by (with_reducible repeat (first | refine blk_drewN ?_ _ | refine blk_drew ?_ | refine blk_alloc ?_ _)); exact BK404.out) hb); have n3_ := Aside0.mk (below_step (by repeat (first | (with_reducible first | exact HB.out | apply below_alloc | apply pw_below_drewN | apply below_drew1 | refine below_set ?_ GE397.out | refine below_set ?_ GE404.out) | exact HB.out)) hb); have n4_ := Aside0.mk (hbox); have n5_ := Aside0.mk ((by rw [hg]; exact (below_size (by repeat (first | (with_reducible first | exact HB.out | apply below_alloc | apply pw_below_drewN | apply below_drew1 | refine below_set ?_ GE397.out | refine below_set ?_ GE404.out) | exact HB.out))) : w.heap.size ≤ gb406)); have n6_ := Aside0.mk ((by rw [hg]; exact (below_size (by repeat (first | (with_reducible first | exact HB.out | apply below_alloc | apply pw_below_drewN | apply below_drew1 | refine below_set ?_ GE397.out | refine below_set ?_ GE404.out) | exact HB.out))) : w.heap.size ≤ gb406)); have n7_ := Aside0.mk ((by rw [hg]; exact Nat.ne_of_lt (blk_lt (g := gb397) (o := .cells #[.int .i64 ((rd_T40 t385 0).f0), .int .i64 ((rd_T40 t385 0).f1), .int .i64 ((rd_T40 t385 0).f2), .int .i64 ((rd_T40 t385 0).f3)] 40 (0, 0)) (by (with_reducible repeat (first | refine blk_drewN ?_ _ | refine blk_drew ?_ | refine blk_alloc ?_ _)); exact BK397.out)) : gb397 ≠ gb406)); have n8_ := Aside0.mk ((by rw [hg]; exact Nat.ne_of_gt (blk_lt (g := gb397) (o := .cells #[.int .i64 ((rd_T40 t385 0).f0), .int .i64 ((rd_T40 t385 0).f1), .int .i64 ((rd_T40 t385 0).f2), .int .i64 ((rd_T40 t385 0).f3)] 40 (0, 0)) (by (with_reducible repeat (first | refine blk_drewN ?_ _ | refine blk_drew ?_ | refine blk_alloc ?_ _)); exact BK397.out)) : gb406 ≠ gb397)); have n9_ := Aside0.mk ((by rw [hg]; exact Nat.ne_of_lt (blk_lt (g := gb404) (o := .cells #[.int .i64 t399, .int .i64 t400, .int .i64 t401, .int .i64 t402] 25 (0, 0)) (by (with_reducible repeat (first | refine blk_drewN ?_ _ | refine blk_drew ?_ | refine blk_alloc ?_ _)); exact BK404.out)) : gb404 ≠ gb406)); have n10_ := Aside0.mk ((by rw [hg]; exact Nat.ne_of_gt (blk_lt (g := gb404) (o := .cells #[.int .i64 t399, .int .i64 t400, .int .i64 t401, .int .i64 t402] 25 (0, 0)) (by (with_reducible repeat (first | refine blk_drewN ?_ _ | refine blk_drew ?_ | refine blk_alloc ?_ _)); exact BK404.out)) : gb406 ≠ gb404)); clear HO_4; clear BK397; clear BK404; clear HB; have HO_4 := n0_; have BK397 := n1_; have BK404 := n2_; have HB := n3_; have BK406 := n4_; have GW406 := n5_; have GE406 := n6_; have NB397_406 := n7_; have NB406_397 := n8_; have NB404_406 := n9_; have NB406_404 := n10_; clear n0_ n1_ n2_ n3_ n4_ n5_ n6_ n7_ n8_ n9_ n10_; clear hb hbox hg; have hnb56 := NB406_397.out; have hnc56 := NB397_406.out; have hnb57 := NB406_404.out; have hnc57 := NB404_406.out; have hcz58_0 : w55.cell? ⟨gb406, 0, none⟩ = some (.int .i64 0) := (blk_cell BK406.out 0).trans rfl; have hcz58_1 : w55.cell? ⟨gb406, 1, none⟩ = some (.int .i64 0) := (blk_cell BK406.out 1).trans rfl; have hcz58_2 : w55.cell? ⟨gb406, 2, none⟩ = some (.int .i64 0) := (blk_cell BK406.out 2).trans rfl; have hcz58_3 : w55.cell? ⟨gb406, 3, none⟩ = some (.int .i64 0) := (blk_cell BK406.out 3).trans rfl; have hfz58_0 := blk_frozen BK406.out 0; have hfz58_1 := blk_frozen BK406.out 1; have hfz58_2 := blk_frozen BK406.out 2; have hfz58_3 := blk_frozen BK406.out 3; have hnb59 := NB397_404.out; have hnc59 := NB404_397.out; have hcz60_0 : w55.cell? ⟨gb397, 0, none⟩ = some (.int .i64 ((rd_T40 t385 0).f0)) := (blk_cell BK397.out 0).trans rfl; have hcz60_1 : w55.cell? ⟨gb397, 1, none⟩ = some (.int .i64 ((rd_T40 t385 0).f1)) := (blk_cell BK397.out 1).trans rfl; have hcz60_2 : w55.cell? ⟨gb397, 2, none⟩ = some (.int .i64 ((rd_T40 t385 0).f2)) := (blk_cell BK397.out 2).trans rfl; have hcz60_3 : w55.cell? ⟨gb397, 3, none⟩ = some (.int .i64 ((rd_T40 t385 0).f3)) := (blk_cell BK397.out 3).trans rfl; have hfz60_0 := blk_frozen BK397.out 0; have hfz60_1 := blk_frozen BK397.out 1; have hfz60_2 := blk_frozen BK397.out 2; have hfz60_3 := blk_frozen BK397.out 3))
                              go_roundg k2
                              case measure => have := HK1.out; have := HK2.out; omega
                              case rel => exact ⟨((((rd_T40 t385 x13_2).f2) == ((rd_T40 t385 0).f2))), (wrap64 (x13_2 + 1)), (by first | rfl | (simp; done) | (simp [*]; done)), (by first | rfl | (simp; done) | (simp [*]; done)), H', ⟨by have := HK1.out; have := HK2.out; omega⟩, ⟨by (with_reducible repeat (first | apply Kd.R_alloc | apply Kd.R_drewN | apply Kd.R_drew)); exact Kd.R_mono (Kd.R_far (p := ⟨gb406, 3, none⟩) (Kd.R_far (p := ⟨gb406, 2, none⟩) (Kd.R_far (p := ⟨gb406, 1, none⟩) (Kd.R_far (p := ⟨gb406, 0, none⟩) (Kd.R_mono HO_4.out (fun k_ hk => (⟨hk, hk.2⟩ : _ ∧ k_ ≠ gb406))) (fun _ hk => hk.2) (.int .i64 ((rd_T40 t385 x13_2).f0))) (fun _ hk => hk.2) (.int .i64 ((rd_T40 t385 x13_2).f1))) (fun _ hk => hk.2) (.int .i64 ((rd_T40 t385 x13_2).f2))) (fun _ hk => hk.2) (.int .i64 ((rd_T40 t385 x13_2).f3))) (fun _ hk => hk.1.1)⟩, ⟨by (with_reducible repeat (first | refine blk_drewN ?_ _ | refine blk_drew ?_ | refine blk_alloc ?_ _)); refine blk_far ?_ NB397_406.out _; (with_reducible repeat (first | refine blk_drewN ?_ _ | refine blk_drew ?_ | refine blk_alloc ?_ _)); refine blk_far ?_ NB397_406.out _; (with_reducible repeat (first | refine blk_drewN ?_ _ | refine blk_drew ?_ | refine blk_alloc ?_ _)); refine blk_far ?_ NB397_406.out _; (with_reducible repeat (first | refine blk_drewN ?_ _ | refine blk_drew ?_ | refine blk_alloc ?_ _)); refine blk_far ?_ NB397_406.out _; (with_reducible repeat (first | refine blk_drewN ?_ _ | refine blk_drew ?_ | refine blk_alloc ?_ _)); exact BK397.out⟩, ⟨by (with_reducible repeat (first | refine blk_drewN ?_ _ | refine blk_drew ?_ | refine blk_alloc ?_ _)); refine blk_far ?_ NB404_406.out _; (with_reducible repeat (first | refine blk_drewN ?_ _ | refine blk_drew ?_ | refine blk_alloc ?_ _)); refine blk_far ?_ NB404_406.out _; (with_reducible repeat (first | refine blk_drewN ?_ _ | refine blk_drew ?_ | refine blk_alloc ?_ _)); refine blk_far ?_ NB404_406.out _; (with_reducible repeat (first | refine blk_drewN ?_ _ | refine blk_drew ?_ | refine blk_alloc ?_ _)); refine blk_far ?_ NB404_406.out _; (with_reducible repeat (first | refine blk_drewN ?_ _ | refine blk_drew ?_ | refine blk_alloc ?_ _)); exact BK404.out⟩, ⟨by repeat (first | (with_reducible first | exact HB.out | apply below_alloc | apply pw_below_drewN | apply below_drew1 | refine below_set ?_ GE397.out | refine below_set ?_ GE404.out | refine below_set ?_ GE406.out) | exact HB.out)⟩⟩
                            · rw [if_neg c54] at H
                              have c54b0 : (((rd_T40 t385 x13_2).f1) == ((rd_T40 t385 0).f1)) = false := beq_eq_false_iff_ne.mpr c54
                              have c54b1 : (((rd_T40 t385 x13_2).f1) != ((rd_T40 t385 0).f1)) = true := bne_iff_ne.mpr c54
                              have H' := Aside0.mk H
                              clear H
                              have p405 : 0 ≤ (x13_2 : Int) := of_decide_eq_true (by first | (with_reducible assumption) | assumption)
                              have q405 : x13_2 < (t385.length : Int) := of_decide_eq_true (by first | (with_reducible assumption) | assumption)
                              obtain ⟨ad405, e405, hx405_0, hx405_1, hx405_2, hx405_3⟩ := at_T40 (Kd.R_reads' HO_4.out).2.2 x13_2 p405 q405
                              obtain rfl : ad396 = ad405 := (by injection e405)
                              replace p405 := eq_true p405
                              replace q405 := eq_true q405
                              go_wp2_with (first | ((with_reducible refine gate_dst (N := 14) rfl ?_); refine box_event ?hg (N := 14) ?hd (cs := #[.int .i64 0, .int .i64 0, .int .i64 0, .int .i64 0]) (t := 40) ?hr ?_; (case hd => rfl); (case hg => rfl); (case hr => first | (go_simp; done) | (go_simp; rfl)); intro gb406 hg w61 hbox hb; have n0_ := Aside0.mk (Kd.R_below (Kd.R_elderB (by (with_reducible repeat (first | apply Kd.R_alloc | apply Kd.R_drewN | apply Kd.R_drew)); exact HO_4.out) gb406 (Nat.le_of_eq hg.symm)) hb); have n1_ := Aside0.mk (blk_below (g := gb397) (o := .cells #[.int .i64 ((rd_T40 t385 0).f0), .int .i64 ((rd_T40 t385 0).f1), .int .i64 ((rd_T40 t385 0).f2), .int .i64 ((rd_T40 t385 0).f3)] 40 (0, 0)) (by (with_reducible repeat (first | refine blk_drewN ?_ _ | refine blk_drew ?_ | refine blk_alloc ?_ _)); exact BK397.out) hb); have n2_ := Aside0.mk (blk_below (g := gb404) (o := .cells #[.int .i64 t399, .int .i64 t400, .int .i64 t401, .int .i64 t402] 25 (0, 0)) (by (with_reducible repeat (first | refine blk_drewN ?_ _ | refine blk_drew ?_ | refine blk_alloc ?_ _)); exact BK404.out) hb); have n3_ := Aside0.mk (below_step (by repeat (first | (with_reducible first | exact HB.out | apply below_alloc | apply pw_below_drewN | apply below_drew1 | refine below_set ?_ GE397.out | refine below_set ?_ GE404.out) | exact HB.out)) hb); have n4_ := Aside0.mk (hbox); have n5_ := Aside0.mk ((by rw [hg]; exact (below_size (by repeat (first | (with_reducible first | exact HB.out | apply below_alloc | apply pw_below_drewN | apply below_drew1 | refine below_set ?_ GE397.out | refine below_set ?_ GE404.out) | exact HB.out))) : w.heap.size ≤ gb406)); have n6_ := Aside0.mk ((by rw [hg]; exact (below_size (by repeat (first | (with_reducible first | exact HB.out | apply below_alloc | apply pw_below_drewN | apply below_drew1 | refine below_set ?_ GE397.out | refine below_set ?_ GE404.out) | exact HB.out))) : w.heap.size ≤ gb406)); have n7_ := Aside0.mk ((by rw [hg]; exact Nat.ne_of_lt (blk_lt (g := gb397) (o := .cells #[.int .i64 ((rd_T40 t385 0).f0), .int .i64 ((rd_T40 t385 0).f1), .int .i64 ((rd_T40 t385 0).f2), .int .i64 ((rd_T40 t385 0).f3)] 40 (0, 0)) (by (with_reducible repeat (first | refine blk_drewN ?_ _ | refine blk_drew ?_ | refine blk_alloc ?_ _)); exact BK397.out)) : gb397 ≠ gb406)); have n8_ := Aside0.mk ((by rw [hg]; exact Nat.ne_of_gt (blk_lt (g := gb397) (o := .cells #[.int .i64 ((rd_T40 t385 0).f0), .int .i64 ((rd_T40 t385 0).f1), .int .i64 ((rd_T40 t385 0).f2), .int .i64 ((rd_T40 t385 0).f3)] 40 (0, 0)) (by (with_reducible repeat (first | refine blk_drewN ?_ _ | refine blk_drew ?_ | refine blk_alloc ?_ _)); exact BK397.out)) : gb406 ≠ gb397)); have n9_ := Aside0.mk ((by rw [hg]; exact Nat.ne_of_lt (blk_lt (g := gb404) (o := .cells #[.int .i64 t399, .int .i64 t400, .int .i64 t401, .int .i64 t402] 25 (0, 0)) (by (with_reducible repeat (first | refine blk_drewN ?_ _ | refine blk_drew ?_ | refine blk_alloc ?_ _)); exact BK404.out)) : gb404 ≠ gb406)); have n10_ := Aside0.mk ((by rw [hg]; exact Nat.ne_of_gt (blk_lt (g := gb404) (o := .cells #[.int .i64 t399, .int .i64 t400, .int .i64 t401, .int .i64 t402] 25 (0, 0)) (by (with_reducible repeat (first | refine blk_drewN ?_ _ | refine blk_drew ?_ | refine blk_alloc ?_ _)); exact BK404.out)) : gb406 ≠ gb404)); clear HO_4; clear BK397; clear BK404; clear HB; have HO_4 := n0_; have BK397 := n1_; have BK404 := n2_; have HB := n3_; have BK406 := n4_; have GW406 := n5_; have GE406 := n6_; have NB397_406 := n7_; have NB406_397 := n8_; have NB404_406 := n9_; have NB406_404 := n10_; clear n0_ n1_ n2_ n3_ n4_ n5_ n6_ n7_ n8_ n9_ n10_; clear hb hbox hg; have hnb62 := NB406_397.out; have hnc62 := NB397_406.out; have hnb63 := NB406_404.out; have hnc63 := NB404_406.out; have hcz64_0 : w61.cell? ⟨gb406, 0, none⟩ = some (.int .i64 0) := (blk_cell BK406.out 0).trans rfl; have hcz64_1 : w61.cell? ⟨gb406, 1, none⟩ = some (.int .i64 0) := (blk_cell BK406.out 1).trans rfl; have hcz64_2 : w61.cell? ⟨gb406, 2, none⟩ = some (.int .i64 0) := (blk_cell BK406.out 2).trans rfl; have hcz64_3 : w61.cell? ⟨gb406, 3, none⟩ = some (.int .i64 0) := (blk_cell BK406.out 3).trans rfl; have hfz64_0 := blk_frozen BK406.out 0; have hfz64_1 := blk_frozen BK406.out 1; have hfz64_2 := blk_frozen BK406.out 2; have hfz64_3 := blk_frozen BK406.out 3; have hnb65 := NB397_404.out; have hnc65 := NB404_397.out; have hcz66_0 : w61.cell? ⟨gb397, 0, none⟩ = some (.int .i64 ((rd_T40 t385 0).f0)) := (blk_cell BK397.out 0).trans rfl; have hcz66_1 : w61.cell? ⟨gb397, 1, none⟩ = some (.int .i64 ((rd_T40 t385 0).f1)) := (blk_cell BK397.out 1).trans rfl; have hcz66_2 : w61.cell? ⟨gb397, 2, none⟩ = some (.int .i64 ((rd_T40 t385 0).f2)) := (blk_cell BK397.out 2).trans rfl; have hcz66_3 : w61.cell? ⟨gb397, 3, none⟩ = some (.int .i64 ((rd_T40 t385 0).f3)) := (blk_cell BK397.out 3).trans rfl; have hfz66_0 := blk_frozen BK397.out 0; have hfz66_1 := blk_frozen BK397.out 1; have hfz66_2 := blk_frozen BK397.out 2; have hfz66_3 := blk_frozen BK397.out 3))
                              go_roundg k2
                              case measure => have := HK1.out; have := HK2.out; omega
                              case rel => exact ⟨(false), (wrap64 (x13_2 + 1)), (by first | rfl | (simp; done) | (simp [*]; done)), (by first | rfl | (simp; done) | (simp [*]; done)), H', ⟨by have := HK1.out; have := HK2.out; omega⟩, ⟨by (with_reducible repeat (first | apply Kd.R_alloc | apply Kd.R_drewN | apply Kd.R_drew)); exact Kd.R_mono (Kd.R_far (p := ⟨gb406, 3, none⟩) (Kd.R_far (p := ⟨gb406, 2, none⟩) (Kd.R_far (p := ⟨gb406, 1, none⟩) (Kd.R_far (p := ⟨gb406, 0, none⟩) (Kd.R_mono HO_4.out (fun k_ hk => (⟨hk, hk.2⟩ : _ ∧ k_ ≠ gb406))) (fun _ hk => hk.2) (.int .i64 ((rd_T40 t385 x13_2).f0))) (fun _ hk => hk.2) (.int .i64 ((rd_T40 t385 x13_2).f1))) (fun _ hk => hk.2) (.int .i64 ((rd_T40 t385 x13_2).f2))) (fun _ hk => hk.2) (.int .i64 ((rd_T40 t385 x13_2).f3))) (fun _ hk => hk.1.1)⟩, ⟨by (with_reducible repeat (first | refine blk_drewN ?_ _ | refine blk_drew ?_ | refine blk_alloc ?_ _)); refine blk_far ?_ NB397_406.out _; (with_reducible repeat (first | refine blk_drewN ?_ _ | refine blk_drew ?_ | refine blk_alloc ?_ _)); refine blk_far ?_ NB397_406.out _; (with_reducible repeat (first | refine blk_drewN ?_ _ | refine blk_drew ?_ | refine blk_alloc ?_ _)); refine blk_far ?_ NB397_406.out _; (with_reducible repeat (first | refine blk_drewN ?_ _ | refine blk_drew ?_ | refine blk_alloc ?_ _)); refine blk_far ?_ NB397_406.out _; (with_reducible repeat (first | refine blk_drewN ?_ _ | refine blk_drew ?_ | refine blk_alloc ?_ _)); exact BK397.out⟩, ⟨by (with_reducible repeat (first | refine blk_drewN ?_ _ | refine blk_drew ?_ | refine blk_alloc ?_ _)); refine blk_far ?_ NB404_406.out _; (with_reducible repeat (first | refine blk_drewN ?_ _ | refine blk_drew ?_ | refine blk_alloc ?_ _)); refine blk_far ?_ NB404_406.out _; (with_reducible repeat (first | refine blk_drewN ?_ _ | refine blk_drew ?_ | refine blk_alloc ?_ _)); refine blk_far ?_ NB404_406.out _; (with_reducible repeat (first | refine blk_drewN ?_ _ | refine blk_drew ?_ | refine blk_alloc ?_ _)); refine blk_far ?_ NB404_406.out _; (with_reducible repeat (first | refine blk_drewN ?_ _ | refine blk_drew ?_ | refine blk_alloc ?_ _)); exact BK404.out⟩, ⟨by repeat (first | (with_reducible first | exact HB.out | apply below_alloc | apply pw_below_drewN | apply below_drew1 | refine below_set ?_ GE397.out | refine below_set ?_ GE404.out | refine below_set ?_ GE406.out) | exact HB.out)⟩⟩
                          · rw [if_neg c53] at H
                            have c53b0 : (((rd_T40 t385 x13_2).f0) == ((rd_T40 t385 0).f0)) = false := beq_eq_false_iff_ne.mpr c53
                            have c53b1 : (((rd_T40 t385 x13_2).f0) != ((rd_T40 t385 0).f0)) = true := bne_iff_ne.mpr c53
                            have H' := Aside0.mk H
                            clear H
                            have p405 : 0 ≤ (x13_2 : Int) := of_decide_eq_true (by first | (with_reducible assumption) | assumption)
                            have q405 : x13_2 < (t385.length : Int) := of_decide_eq_true (by first | (with_reducible assumption) | assumption)
                            obtain ⟨ad405, e405, hx405_0, hx405_1, hx405_2, hx405_3⟩ := at_T40 (Kd.R_reads' HO_4.out).2.2 x13_2 p405 q405
                            obtain rfl : ad396 = ad405 := (by injection e405)
                            replace p405 := eq_true p405
                            replace q405 := eq_true q405
                            go_wp2_with (first | ((with_reducible refine gate_dst (N := 14) rfl ?_); refine box_event ?hg (N := 14) ?hd (cs := #[.int .i64 0, .int .i64 0, .int .i64 0, .int .i64 0]) (t := 40) ?hr ?_; (case hd => rfl); (case hg => rfl); (case hr => first | (go_simp; done) | (go_simp; rfl)); intro gb406 hg w67 hbox hb; have n0_ := Aside0.mk (Kd.R_below (Kd.R_elderB (by (with_reducible repeat (first | apply Kd.R_alloc | apply Kd.R_drewN | apply Kd.R_drew)); exact HO_4.out) gb406 (Nat.le_of_eq hg.symm)) hb); have n1_ := Aside0.mk (blk_below (g := gb397) (o := .cells #[.int .i64 ((rd_T40 t385 0).f0), .int .i64 ((rd_T40 t385 0).f1), .int .i64 ((rd_T40 t385 0).f2), .int .i64 ((rd_T40 t385 0).f3)] 40 (0, 0)) (by (with_reducible repeat (first | refine blk_drewN ?_ _ | refine blk_drew ?_ | refine blk_alloc ?_ _)); exact BK397.out) hb); have n2_ := Aside0.mk (blk_below (g := gb404) (o := .cells #[.int .i64 t399, .int .i64 t400, .int .i64 t401, .int .i64 t402] 25 (0, 0)) (by (with_reducible repeat (first | refine blk_drewN ?_ _ | refine blk_drew ?_ | refine blk_alloc ?_ _)); exact BK404.out) hb); have n3_ := Aside0.mk (below_step (by repeat (first | (with_reducible first | exact HB.out | apply below_alloc | apply pw_below_drewN | apply below_drew1 | refine below_set ?_ GE397.out | refine below_set ?_ GE404.out) | exact HB.out)) hb); have n4_ := Aside0.mk (hbox); have n5_ := Aside0.mk ((by rw [hg]; exact (below_size (by repeat (first | (with_reducible first | exact HB.out | apply below_alloc | apply pw_below_drewN | apply below_drew1 | refine below_set ?_ GE397.out | refine below_set ?_ GE404.out) | exact HB.out))) : w.heap.size ≤ gb406)); have n6_ := Aside0.mk ((by rw [hg]; exact (below_size (by repeat (first | (with_reducible first | exact HB.out | apply below_alloc | apply pw_below_drewN | apply below_drew1 | refine below_set ?_ GE397.out | refine below_set ?_ GE404.out) | exact HB.out))) : w.heap.size ≤ gb406)); have n7_ := Aside0.mk ((by rw [hg]; exact Nat.ne_of_lt (blk_lt (g := gb397) (o := .cells #[.int .i64 ((rd_T40 t385 0).f0), .int .i64 ((rd_T40 t385 0).f1), .int .i64 ((rd_T40 t385 0).f2), .int .i64 ((rd_T40 t385 0).f3)] 40 (0, 0)) (by (with_reducible repeat (first | refine blk_drewN ?_ _ | refine blk_drew ?_ | refine blk_alloc ?_ _)); exact BK397.out)) : gb397 ≠ gb406)); have n8_ := Aside0.mk ((by rw [hg]; exact Nat.ne_of_gt (blk_lt (g := gb397) (o := .cells #[.int .i64 ((rd_T40 t385 0).f0), .int .i64 ((rd_T40 t385 0).f1), .int .i64 ((rd_T40 t385 0).f2), .int .i64 ((rd_T40 t385 0).f3)] 40 (0, 0)) (by (with_reducible repeat (first | refine blk_drewN ?_ _ | refine blk_drew ?_ | refine blk_alloc ?_ _)); exact BK397.out)) : gb406 ≠ gb397)); have n9_ := Aside0.mk ((by rw [hg]; exact Nat.ne_of_lt (blk_lt (g := gb404) (o := .cells #[.int .i64 t399, .int .i64 t400, .int .i64 t401, .int .i64 t402] 25 (0, 0)) (by (with_reducible repeat (first | refine blk_drewN ?_ _ | refine blk_drew ?_ | refine blk_alloc ?_ _)); exact BK404.out)) : gb404 ≠ gb406)); have n10_ := Aside0.mk ((by rw [hg]; exact Nat.ne_of_gt (blk_lt (g := gb404) (o := .cells #[.int .i64 t399, .int .i64 t400, .int .i64 t401, .int .i64 t402] 25 (0, 0)) (by (with_reducible repeat (first | refine blk_drewN ?_ _ | refine blk_drew ?_ | refine blk_alloc ?_ _)); exact BK404.out)) : gb406 ≠ gb404)); clear HO_4; clear BK397; clear BK404; clear HB; have HO_4 := n0_; have BK397 := n1_; have BK404 := n2_; have HB := n3_; have BK406 := n4_; have GW406 := n5_; have GE406 := n6_; have NB397_406 := n7_; have NB406_397 := n8_; have NB404_406 := n9_; have NB406_404 := n10_; clear n0_ n1_ n2_ n3_ n4_ n5_ n6_ n7_ n8_ n9_ n10_; clear hb hbox hg; have hnb68 := NB406_397.out; have hnc68 := NB397_406.out; have hnb69 := NB406_404.out; have hnc69 := NB404_406.out; have hcz70_0 : w67.cell? ⟨gb406, 0, none⟩ = some (.int .i64 0) := (blk_cell BK406.out 0).trans rfl; have hcz70_1 : w67.cell? ⟨gb406, 1, none⟩ = some (.int .i64 0) := (blk_cell BK406.out 1).trans rfl; have hcz70_2 : w67.cell? ⟨gb406, 2, none⟩ = some (.int .i64 0) := (blk_cell BK406.out 2).trans rfl; have hcz70_3 : w67.cell? ⟨gb406, 3, none⟩ = some (.int .i64 0) := (blk_cell BK406.out 3).trans rfl; have hfz70_0 := blk_frozen BK406.out 0; have hfz70_1 := blk_frozen BK406.out 1; have hfz70_2 := blk_frozen BK406.out 2; have hfz70_3 := blk_frozen BK406.out 3; have hnb71 := NB397_404.out; have hnc71 := NB404_397.out; have hcz72_0 : w67.cell? ⟨gb397, 0, none⟩ = some (.int .i64 ((rd_T40 t385 0).f0)) := (blk_cell BK397.out 0).trans rfl; have hcz72_1 : w67.cell? ⟨gb397, 1, none⟩ = some (.int .i64 ((rd_T40 t385 0).f1)) := (blk_cell BK397.out 1).trans rfl; have hcz72_2 : w67.cell? ⟨gb397, 2, none⟩ = some (.int .i64 ((rd_T40 t385 0).f2)) := (blk_cell BK397.out 2).trans rfl; have hcz72_3 : w67.cell? ⟨gb397, 3, none⟩ = some (.int .i64 ((rd_T40 t385 0).f3)) := (blk_cell BK397.out 3).trans rfl; have hfz72_0 := blk_frozen BK397.out 0; have hfz72_1 := blk_frozen BK397.out 1; have hfz72_2 := blk_frozen BK397.out 2; have hfz72_3 := blk_frozen BK397.out 3))
                            go_roundg k2
                            case measure => have := HK1.out; have := HK2.out; omega
                            case rel => exact ⟨(false), (wrap64 (x13_2 + 1)), (by first | rfl | (simp; done) | (simp [*]; done)), (by first | rfl | (simp; done) | (simp [*]; done)), H', ⟨by have := HK1.out; have := HK2.out; omega⟩, ⟨by (with_reducible repeat (first | apply Kd.R_alloc | apply Kd.R_drewN | apply Kd.R_drew)); exact Kd.R_mono (Kd.R_far (p := ⟨gb406, 3, none⟩) (Kd.R_far (p := ⟨gb406, 2, none⟩) (Kd.R_far (p := ⟨gb406, 1, none⟩) (Kd.R_far (p := ⟨gb406, 0, none⟩) (Kd.R_mono HO_4.out (fun k_ hk => (⟨hk, hk.2⟩ : _ ∧ k_ ≠ gb406))) (fun _ hk => hk.2) (.int .i64 ((rd_T40 t385 x13_2).f0))) (fun _ hk => hk.2) (.int .i64 ((rd_T40 t385 x13_2).f1))) (fun _ hk => hk.2) (.int .i64 ((rd_T40 t385 x13_2).f2))) (fun _ hk => hk.2) (.int .i64 ((rd_T40 t385 x13_2).f3))) (fun _ hk => hk.1.1)⟩, ⟨by (with_reducible repeat (first | refine blk_drewN ?_ _ | refine blk_drew ?_ | refine blk_alloc ?_ _)); refine blk_far ?_ NB397_406.out _; (with_reducible repeat (first | refine blk_drewN ?_ _ | refine blk_drew ?_ | refine blk_alloc ?_ _)); refine blk_far ?_ NB397_406.out _; (with_reducible repeat (first | refine blk_drewN ?_ _ | refine blk_drew ?_ | refine blk_alloc ?_ _)); refine blk_far ?_ NB397_406.out _; (with_reducible repeat (first | refine blk_drewN ?_ _ | refine blk_drew ?_ | refine blk_alloc ?_ _)); refine blk_far ?_ NB397_406.out _; (with_reducible repeat (first | refine blk_drewN ?_ _ | refine blk_drew ?_ | refine blk_alloc ?_ _)); exact BK397.out⟩, ⟨by (with_reducible repeat (first | refine blk_drewN ?_ _ | refine blk_drew ?_ | refine blk_alloc ?_ _)); refine blk_far ?_ NB404_406.out _; (with_reducible repeat (first | refine blk_drewN ?_ _ | refine blk_drew ?_ | refine blk_alloc ?_ _)); refine blk_far ?_ NB404_406.out _; (with_reducible repeat (first | refine blk_drewN ?_ _ | refine blk_drew ?_ | refine blk_alloc ?_ _)); refine blk_far ?_ NB404_406.out _; (with_reducible repeat (first | refine blk_drewN ?_ _ | refine blk_drew ?_ | refine blk_alloc ?_ _)); refine blk_far ?_ NB404_406.out _; (with_reducible repeat (first | refine blk_drewN ?_ _ | refine blk_drew ?_ | refine blk_alloc ?_ _)); exact BK404.out⟩, ⟨by repeat (first | (with_reducible first | exact HB.out | apply below_alloc | apply pw_below_drewN | apply below_drew1 | refine below_set ?_ GE397.out | refine below_set ?_ GE404.out | refine below_set ?_ GE406.out) | exact HB.out)⟩⟩
                        · rw [if_neg c52] at H
                          have c52b0 : (((rd_T40 t385 x13_2).f3) == x11_1) = false := beq_eq_false_iff_ne.mpr c52
                          have c52b1 : (((rd_T40 t385 x13_2).f3) != x11_1) = true := bne_iff_ne.mpr c52
                          have H' := Aside0.mk H
                          clear H
                          have p405 : 0 ≤ (x13_2 : Int) := of_decide_eq_true (by first | (with_reducible assumption) | assumption)
                          have q405 : x13_2 < (t385.length : Int) := of_decide_eq_true (by first | (with_reducible assumption) | assumption)
                          obtain ⟨ad405, e405, hx405_0, hx405_1, hx405_2, hx405_3⟩ := at_T40 (Kd.R_reads' HO_4.out).2.2 x13_2 p405 q405
                          obtain rfl : ad396 = ad405 := (by injection e405)
                          replace p405 := eq_true p405
                          replace q405 := eq_true q405
                          go_wp2_with (first | ((with_reducible refine gate_dst (N := 14) rfl ?_); refine box_event ?hg (N := 14) ?hd (cs := #[.int .i64 0, .int .i64 0, .int .i64 0, .int .i64 0]) (t := 40) ?hr ?_; (case hd => rfl); (case hg => rfl); (case hr => first | (go_simp; done) | (go_simp; rfl)); intro gb406 hg w73 hbox hb; have n0_ := Aside0.mk (Kd.R_below (Kd.R_elderB (by (with_reducible repeat (first | apply Kd.R_alloc | apply Kd.R_drewN | apply Kd.R_drew)); exact HO_4.out) gb406 (Nat.le_of_eq hg.symm)) hb); have n1_ := Aside0.mk (blk_below (g := gb397) (o := .cells #[.int .i64 ((rd_T40 t385 0).f0), .int .i64 ((rd_T40 t385 0).f1), .int .i64 ((rd_T40 t385 0).f2), .int .i64 ((rd_T40 t385 0).f3)] 40 (0, 0)) (by (with_reducible repeat (first | refine blk_drewN ?_ _ | refine blk_drew ?_ | refine blk_alloc ?_ _)); exact BK397.out) hb); have n2_ := Aside0.mk (blk_below (g := gb404) (o := .cells #[.int .i64 t399, .int .i64 t400, .int .i64 t401, .int .i64 t402] 25 (0, 0)) (by (with_reducible repeat (first | refine blk_drewN ?_ _ | refine blk_drew ?_ | refine blk_alloc ?_ _)); exact BK404.out) hb); have n3_ := Aside0.mk (below_step (by repeat (first | (with_reducible first | exact HB.out | apply below_alloc | apply pw_below_drewN | apply below_drew1 | refine below_set ?_ GE397.out | refine below_set ?_ GE404.out) | exact HB.out)) hb); have n4_ := Aside0.mk (hbox); have n5_ := Aside0.mk ((by rw [hg]; exact (below_size (by repeat (first | (with_reducible first | exact HB.out | apply below_alloc | apply pw_below_drewN | apply below_drew1 | refine below_set ?_ GE397.out | refine below_set ?_ GE404.out) | exact HB.out))) : w.heap.size ≤ gb406)); have n6_ := Aside0.mk ((by rw [hg]; exact (below_size (by repeat (first | (with_reducible first | exact HB.out | apply below_alloc | apply pw_below_drewN | apply below_drew1 | refine below_set ?_ GE397.out | refine below_set ?_ GE404.out) | exact HB.out))) : w.heap.size ≤ gb406)); have n7_ := Aside0.mk ((by rw [hg]; exact Nat.ne_of_lt (blk_lt (g := gb397) (o := .cells #[.int .i64 ((rd_T40 t385 0).f0), .int .i64 ((rd_T40 t385 0).f1), .int .i64 ((rd_T40 t385 0).f2), .int .i64 ((rd_T40 t385 0).f3)] 40 (0, 0)) (by (with_reducible repeat (first | refine blk_drewN ?_ _ | refine blk_drew ?_ | refine blk_alloc ?_ _)); exact BK397.out)) : gb397 ≠ gb406)); have n8_ := Aside0.mk ((by rw [hg]; exact Nat.ne_of_gt (blk_lt (g := gb397) (o := .cells #[.int .i64 ((rd_T40 t385 0).f0), .int .i64 ((rd_T40 t385 0).f1), .int .i64 ((rd_T40 t385 0).f2), .int .i64 ((rd_T40 t385 0).f3)] 40 (0, 0)) (by (with_reducible repeat (first | refine blk_drewN ?_ _ | refine blk_drew ?_ | refine blk_alloc ?_ _)); exact BK397.out)) : gb406 ≠ gb397)); have n9_ := Aside0.mk ((by rw [hg]; exact Nat.ne_of_lt (blk_lt (g := gb404) (o := .cells #[.int .i64 t399, .int .i64 t400, .int .i64 t401, .int .i64 t402] 25 (0, 0)) (by (with_reducible repeat (first | refine blk_drewN ?_ _ | refine blk_drew ?_ | refine blk_alloc ?_ _)); exact BK404.out)) : gb404 ≠ gb406)); have n10_ := Aside0.mk ((by rw [hg]; exact Nat.ne_of_gt (blk_lt (g := gb404) (o := .cells #[.int .i64 t399, .int .i64 t400, .int .i64 t401, .int .i64 t402] 25 (0, 0)) (by (with_reducible repeat (first | refine blk_drewN ?_ _ | refine blk_drew ?_ | refine blk_alloc ?_ _)); exact BK404.out)) : gb406 ≠ gb404)); clear HO_4; clear BK397; clear BK404; clear HB; have HO_4 := n0_; have BK397 := n1_; have BK404 := n2_; have HB := n3_; have BK406 := n4_; have GW406 := n5_; have GE406 := n6_; have NB397_406 := n7_; have NB406_397 := n8_; have NB404_406 := n9_; have NB406_404 := n10_; clear n0_ n1_ n2_ n3_ n4_ n5_ n6_ n7_ n8_ n9_ n10_; clear hb hbox hg; have hnb74 := NB406_397.out; have hnc74 := NB397_406.out; have hnb75 := NB406_404.out; have hnc75 := NB404_406.out; have hcz76_0 : w73.cell? ⟨gb406, 0, none⟩ = some (.int .i64 0) := (blk_cell BK406.out 0).trans rfl; have hcz76_1 : w73.cell? ⟨gb406, 1, none⟩ = some (.int .i64 0) := (blk_cell BK406.out 1).trans rfl; have hcz76_2 : w73.cell? ⟨gb406, 2, none⟩ = some (.int .i64 0) := (blk_cell BK406.out 2).trans rfl; have hcz76_3 : w73.cell? ⟨gb406, 3, none⟩ = some (.int .i64 0) := (blk_cell BK406.out 3).trans rfl; have hfz76_0 := blk_frozen BK406.out 0; have hfz76_1 := blk_frozen BK406.out 1; have hfz76_2 := blk_frozen BK406.out 2; have hfz76_3 := blk_frozen BK406.out 3))
                          go_roundg k2
                          case measure => have := HK1.out; have := HK2.out; omega
                          case rel => exact ⟨(false), (wrap64 (x13_2 + 1)), (by first | rfl | (simp; done) | (simp [*]; done)), (by first | rfl | (simp; done) | (simp [*]; done)), H', ⟨by have := HK1.out; have := HK2.out; omega⟩, ⟨by (with_reducible repeat (first | apply Kd.R_alloc | apply Kd.R_drewN | apply Kd.R_drew)); exact Kd.R_mono (Kd.R_far (p := ⟨gb406, 3, none⟩) (Kd.R_far (p := ⟨gb406, 2, none⟩) (Kd.R_far (p := ⟨gb406, 1, none⟩) (Kd.R_far (p := ⟨gb406, 0, none⟩) (Kd.R_mono HO_4.out (fun k_ hk => (⟨hk, hk.2⟩ : _ ∧ k_ ≠ gb406))) (fun _ hk => hk.2) (.int .i64 ((rd_T40 t385 x13_2).f0))) (fun _ hk => hk.2) (.int .i64 ((rd_T40 t385 x13_2).f1))) (fun _ hk => hk.2) (.int .i64 ((rd_T40 t385 x13_2).f2))) (fun _ hk => hk.2) (.int .i64 ((rd_T40 t385 x13_2).f3))) (fun _ hk => hk.1.1)⟩, ⟨by (with_reducible repeat (first | refine blk_drewN ?_ _ | refine blk_drew ?_ | refine blk_alloc ?_ _)); refine blk_far ?_ NB397_406.out _; (with_reducible repeat (first | refine blk_drewN ?_ _ | refine blk_drew ?_ | refine blk_alloc ?_ _)); refine blk_far ?_ NB397_406.out _; (with_reducible repeat (first | refine blk_drewN ?_ _ | refine blk_drew ?_ | refine blk_alloc ?_ _)); refine blk_far ?_ NB397_406.out _; (with_reducible repeat (first | refine blk_drewN ?_ _ | refine blk_drew ?_ | refine blk_alloc ?_ _)); refine blk_far ?_ NB397_406.out _; (with_reducible repeat (first | refine blk_drewN ?_ _ | refine blk_drew ?_ | refine blk_alloc ?_ _)); exact BK397.out⟩, ⟨by (with_reducible repeat (first | refine blk_drewN ?_ _ | refine blk_drew ?_ | refine blk_alloc ?_ _)); refine blk_far ?_ NB404_406.out _; (with_reducible repeat (first | refine blk_drewN ?_ _ | refine blk_drew ?_ | refine blk_alloc ?_ _)); refine blk_far ?_ NB404_406.out _; (with_reducible repeat (first | refine blk_drewN ?_ _ | refine blk_drew ?_ | refine blk_alloc ?_ _)); refine blk_far ?_ NB404_406.out _; (with_reducible repeat (first | refine blk_drewN ?_ _ | refine blk_drew ?_ | refine blk_alloc ?_ _)); refine blk_far ?_ NB404_406.out _; (with_reducible repeat (first | refine blk_drewN ?_ _ | refine blk_drew ?_ | refine blk_alloc ?_ _)); exact BK404.out⟩, ⟨by repeat (first | (with_reducible first | exact HB.out | apply below_alloc | apply pw_below_drewN | apply below_drew1 | refine below_set ?_ GE397.out | refine below_set ?_ GE404.out | refine below_set ?_ GE406.out) | exact HB.out)⟩⟩
                    · rw [if_neg c46] at H
                      exact absurd H (by simp)
                  · rw [if_neg c45] at H
                    have c45b0 : decide (x13_2 < (t385.length : Int)) = false := decide_eq_false c45
                    clear c45
                    obtain ⟨ji77, hji77⟩ : ∃ j_ : Int, (IntKind.u64.wrap (x11_1)) = j_ := ⟨_, rfl⟩
                    replace H : (if 0 ≤ (ji77) then (if (x12_2 != ((Int.tmod (shr .i64 t398 (ji77)) 2) == 1)) = true then (some false) else (laws_FnCerts.l0 k2 t385 t398 t403 (wrap64 (x11_1 + 1)) ((rd_T40 t385 0).f0) ((rd_T40 t385 0).f1) ((rd_T40 t385 0).f2) ((rd_T40 t385 0).f3) t399 t400 t401 t402)) else (none)) = some r := by first | (rw [hji77] at H; exact H) | (simp only [hji77] at H ⊢; exact H)
                    by_cases c78 : 0 ≤ (ji77)
                    · rw [if_pos c78] at H
                      have c78b0 := eq_true c78
                      have c78b1 : decide (0 ≤ (ji77)) = true := decide_eq_true c78
                      clear c78
                      obtain ⟨ji79, hji79⟩ : ∃ j_ : Int, (shr .i64 t398 (ji77)) = j_ := ⟨_, rfl⟩
                      replace H : (if (x12_2 != ((Int.tmod (ji79) 2) == 1)) = true then (some false) else (laws_FnCerts.l0 k2 t385 t398 t403 (wrap64 (x11_1 + 1)) ((rd_T40 t385 0).f0) ((rd_T40 t385 0).f1) ((rd_T40 t385 0).f2) ((rd_T40 t385 0).f3) t399 t400 t401 t402)) = some r := by first | (rw [hji79] at H; exact H) | (simp only [hji79] at H ⊢; exact H)
                      have hji79_ : (t398 / 2 ^ min (ji77).toNat 64) = ji79 := hji79
                      have hji79z : (ji77) ≤ 64 → (t398 / 2 ^ (ji77).toNat) = ji79 := shr_small hji79
                      by_cases c80 : (x12_2 != ((Int.tmod (ji79) 2) == 1)) = true
                      · rw [if_pos c80] at H
                        have c80b0 : (x12_2 != ((Int.tmod (ji79) 2) == 1)) = true := c80
                        (try (have c80b1 : decide (x12_2 = ((Int.tmod (ji79) 2) == 1)) = false := by simpa using c80))
                        (try (have c80b2 : (x12_2 == ((Int.tmod (ji79) 2) == 1)) = false := by simpa using c80))
                        (try (have c80b3 : ¬ (x12_2 = ((Int.tmod (ji79) 2) == 1)) := by simpa using c80))
                        clear c80
                        obtain rfl := Option.some.inj H
                        go_wp2
                        go_ret
                        exact ⟨by first | rfl | (simp [errW_none, errW_some] <;> rfl) | (simp only [← hji77, ← hji79]; first | rfl | (simp [errW_none, errW_some] <;> rfl)) | (simp [*, errW_none, errW_some] <;> rfl), by repeat (first | (with_reducible first | exact HB.out | apply below_alloc | apply pw_below_drewN | apply below_drew1 | refine below_set ?_ GE397.out | refine below_set ?_ GE404.out) | exact HB.out)⟩
                      · rw [if_neg c80] at H
                        have c80b0 : (x12_2 != ((Int.tmod (ji79) 2) == 1)) = false := by simpa using c80
                        (try (have c80b1 : decide (x12_2 = ((Int.tmod (ji79) 2) == 1)) = true := by simpa using c80))
                        (try (have c80b2 : (x12_2 == ((Int.tmod (ji79) 2) == 1)) = true := by simpa using c80))
                        clear c80
                        have H' := Aside0.mk H
                        clear H
                        go_wp2
                        go_roundg k2
                        case measure => have := HK1.out; have := HK2.out; omega
                        case rel => exact ⟨(wrap64 (x11_1 + 1)), (by first | rfl | (simp; done) | (simp [*]; done)), H', ⟨by have := HK1.out; have := HK2.out; omega⟩, ⟨by (with_reducible repeat (first | apply Kd.R_alloc | apply Kd.R_drewN | apply Kd.R_drew)); exact HO_4.out⟩, ⟨by (with_reducible repeat (first | refine blk_drewN ?_ _ | refine blk_drew ?_ | refine blk_alloc ?_ _)); exact BK397.out⟩, ⟨by (with_reducible repeat (first | refine blk_drewN ?_ _ | refine blk_drew ?_ | refine blk_alloc ?_ _)); exact BK404.out⟩, ⟨by repeat (first | (with_reducible first | exact HB.out | apply below_alloc | apply pw_below_drewN | apply below_drew1 | refine below_set ?_ GE397.out | refine below_set ?_ GE404.out) | exact HB.out)⟩⟩
                    · rw [if_neg c78] at H
                      exact absurd H (by simp)
            · rw [if_neg c44] at H
              have c44b0 : decide (x11_1 < 7) = false := decide_eq_false c44
              clear c44
              have HC81 := Aside0.mk H
              clear H
              go_upto_region 21 with (fail)
              go_cut [134] (fun v134 wc => ∃ (kq : Nat) (x134_80 : Bool), v134 = .bool x134_80 ∧ Aside0 (laws_FnCerts.j2 kq t385 t398 x134_80 ((rd_T40 t385 0).f0) ((rd_T40 t385 0).f1) ((rd_T40 t385 0).f2) ((rd_T40 t385 0).f3) = some r) ∧ Aside0 (kq ≤ k1) ∧ Aside0 (Kd.R k40 40 wc w.heap.size (fun k_ => k_ ≠ gb397) (.slice (some ad396) t385.length co35) t385) ∧ Aside0 (wc.heap[gb397]? = some (.cells #[.int .i64 ((rd_T40 t385 0).f0), .int .i64 ((rd_T40 t385 0).f1), .int .i64 ((rd_T40 t385 0).f2), .int .i64 ((rd_T40 t385 0).f3)] 40 (0, 0))) ∧ Aside0 (wc.heap[gb404]? = some (.cells #[.int .i64 t399, .int .i64 t400, .int .i64 t401, .int .i64 t402] 25 (0, 0))) ∧ Aside0 (Below w.heap.size w wc))
              case first =>
                have H := HC81.out
                clear HC81
                replace H := Option.bind_eq_some_iff.mp H
                obtain ⟨t407, A820, H⟩ := H
                replace H : (if (t403 != (decide (t407 ≥ 3))) = true then (laws_FnCerts.j2 k1 t385 t398 true ((rd_T40 t385 0).f0) ((rd_T40 t385 0).f1) ((rd_T40 t385 0).f2) ((rd_T40 t385 0).f3)) else (if t403 = true then (if t402 = t398 then ((impl_Proven.f k1 t385 t399 t400 t401 t402 0).bind fun t408 => (laws_FnCerts.j2 k1 t385 t398 (!t408) ((rd_T40 t385 0).f0) ((rd_T40 t385 0).f1) ((rd_T40 t385 0).f2) ((rd_T40 t385 0).f3))) else (laws_FnCerts.j2 k1 t385 t398 true ((rd_T40 t385 0).f0) ((rd_T40 t385 0).f1) ((rd_T40 t385 0).f2) ((rd_T40 t385 0).f3))) else (laws_FnCerts.j2 k1 t385 t398 false ((rd_T40 t385 0).f0) ((rd_T40 t385 0).f1) ((rd_T40 t385 0).f2) ((rd_T40 t385 0).f3)))) = some r := H
                have A82 := Aside0.mk A820
                clear A820
                by_cases c83 : (t403 != (decide (t407 ≥ 3))) = true
                · rw [if_pos c83] at H
                  have c83b0 : (t403 != (decide (t407 ≥ 3))) = true := c83
                  (try (have c83b1 : decide (t403 = (decide (t407 ≥ 3))) = false := by simpa using c83))
                  (try (have c83b2 : (t403 == (decide (t407 ≥ 3))) = false := by simpa using c83))
                  (try (have c83b3 : ¬ (t403 = (decide (t407 ≥ 3))) := by simpa using c83))
                  clear c83
                  (first | rw [c83b0] | (simp only [i64_w, i32_w]; rw [c83b0]) | skip)
                  have H' := Aside0.mk H
                  clear H
                  go_wp2_with (first | ((with_reducible refine gate_callee (f := 34) rfl ?_); refine goesL_ (some 117) rfl rfl Try.func34 (by kernel_rfl) rfl #[.int .i64 t398] rfl (by (try simp only [List.map_toArray, List.map_cons, List.map_nil]); first | done | rfl | (simp only [List.length_drop, List.length_take]; rfl)) ?_; (with_reducible refine (impl_CountOf.calls k1 t398 t407 _ A82.out).mono ?_); rintro e w' ⟨rfl, ⟨nd, rfl⟩⟩; refine ⟨_, rfl, ?_⟩))
                  go_meet
                  case rel => exact ⟨_, (true), (by first | rfl | (simp; done) | (simp [*]; done)), H', ⟨by have := HK1.out; first | omega | exact Nat.le_refl _⟩, ⟨by (with_reducible repeat (first | apply Kd.R_alloc | apply Kd.R_drewN | apply Kd.R_drew)); exact HO_4.out⟩, ⟨by (with_reducible repeat (first | refine blk_drewN ?_ _ | refine blk_drew ?_ | refine blk_alloc ?_ _)); exact BK397.out⟩, ⟨by (with_reducible repeat (first | refine blk_drewN ?_ _ | refine blk_drew ?_ | refine blk_alloc ?_ _)); exact BK404.out⟩, ⟨by repeat (first | (with_reducible first | exact HB.out | apply below_alloc | apply pw_below_drewN | apply below_drew1 | refine below_set ?_ GE397.out | refine below_set ?_ GE404.out) | exact HB.out)⟩⟩
                · rw [if_neg c83] at H
                  have c83b0 : (t403 != (decide (t407 ≥ 3))) = false := by simpa using c83
                  (try (have c83b1 : decide (t403 = (decide (t407 ≥ 3))) = true := by simpa using c83))
                  (try (have c83b2 : (t403 == (decide (t407 ≥ 3))) = true := by simpa using c83))
                  clear c83
                  (first | rw [c83b0] | (simp only [i64_w, i32_w]; rw [c83b0]) | skip)
                  by_cases c84 : t403 = true
                  · subst c84
                    have H1 : (if t402 = t398 then ((impl_Proven.f k1 t385 t399 t400 t401 t402 0).bind fun t408 => (laws_FnCerts.j2 k1 t385 t398 (!t408) ((rd_T40 t385 0).f0) ((rd_T40 t385 0).f1) ((rd_T40 t385 0).f2) ((rd_T40 t385 0).f3))) else (laws_FnCerts.j2 k1 t385 t398 true ((rd_T40 t385 0).f0) ((rd_T40 t385 0).f1) ((rd_T40 t385 0).f2) ((rd_T40 t385 0).f3))) = some r := by rw [if_pos rfl] at H; exact H
                    clear H
                    have H := H1
                    clear H1
                    by_cases c85 : t402 = t398
                    · rw [if_pos c85] at H
                      have c85b0 : (t402 == t398) = true := beq_iff_eq.mpr c85
                      have c85b1 : (t402 != t398) = false := bne_eq_false_iff_eq.mpr c85
                      clear c85
                      replace H := Option.bind_eq_some_iff.mp H
                      obtain ⟨t408, A860, H⟩ := H
                      replace H : (laws_FnCerts.j2 k1 t385 t398 (!t408) ((rd_T40 t385 0).f0) ((rd_T40 t385 0).f1) ((rd_T40 t385 0).f2) ((rd_T40 t385 0).f3)) = some r := H
                      have A86 := Aside0.mk A860
                      clear A860
                      have H' := Aside0.mk H
                      clear H
                      go_wp2_with (first | ((with_reducible refine gate_callee (f := 34) rfl ?_); refine goesL_ (some 117) rfl rfl Try.func34 (by kernel_rfl) rfl #[.int .i64 t398] rfl (by (try simp only [List.map_toArray, List.map_cons, List.map_nil]); first | done | rfl | (simp only [List.length_drop, List.length_take]; rfl)) ?_; (with_reducible refine (impl_CountOf.calls k1 t398 t407 _ A82.out).mono ?_); rintro e w' ⟨rfl, ⟨nd, rfl⟩⟩; refine ⟨_, rfl, ?_⟩; have hnb87 := NB404_397.out; have hnc87 := NB397_404.out; have hcz88_0 : wr.cell? ⟨gb404, 0, none⟩ = some (.int .i64 t399) := (blk_cell BK404.out 0).trans rfl; have hcz88_1 : wr.cell? ⟨gb404, 1, none⟩ = some (.int .i64 t400) := (blk_cell BK404.out 1).trans rfl; have hcz88_2 : wr.cell? ⟨gb404, 2, none⟩ = some (.int .i64 t401) := (blk_cell BK404.out 2).trans rfl; have hcz88_3 : wr.cell? ⟨gb404, 3, none⟩ = some (.int .i64 t402) := (blk_cell BK404.out 3).trans rfl; have hfz88_0 := blk_frozen BK404.out 0; have hfz88_1 := blk_frozen BK404.out 1; have hfz88_2 := blk_frozen BK404.out 2; have hfz88_3 := blk_frozen BK404.out 3) | (go_at_call 32; (with_reducible refine (impl_Proven.calls k1 _ _ t385 t399 t400 t401 t402 0 t408 _ ?side1 ?side2 A86.out).mono ?_); (case side1 => repeat (first | exact (Kd.R_reads' HO_4.out).2.2 | (with_reducible refine Kd.C_alloc ?_ _) | (with_reducible refine Kd.C_drewN ?_ _) | (with_reducible refine Kd.C_drew ?_))); (case side2 => exact (Kd.R_reads' HO_4.out).2.1); rintro e w89 ⟨rfl, hb⟩; have n0_ := Aside0.mk (Kd.R_below (by (with_reducible repeat (first | apply Kd.R_alloc | apply Kd.R_drewN | apply Kd.R_drew)); exact HO_4.out) hb); have n1_ := Aside0.mk (blk_below (g := gb397) (o := .cells #[.int .i64 ((rd_T40 t385 0).f0), .int .i64 ((rd_T40 t385 0).f1), .int .i64 ((rd_T40 t385 0).f2), .int .i64 ((rd_T40 t385 0).f3)] 40 (0, 0)) (by (with_reducible repeat (first | refine blk_drewN ?_ _ | refine blk_drew ?_ | refine blk_alloc ?_ _)); exact BK397.out) hb); have n2_ := Aside0.mk (blk_below (g := gb404) (o := .cells #[.int .i64 t399, .int .i64 t400, .int .i64 t401, .int .i64 t402] 25 (0, 0)) (by (with_reducible repeat (first | refine blk_drewN ?_ _ | refine blk_drew ?_ | refine blk_alloc ?_ _)); exact BK404.out) hb); have n3_ := Aside0.mk (below_step (by repeat (first | (with_reducible first | exact HB.out | apply below_alloc | apply pw_below_drewN | apply below_drew1 | refine below_set ?_ GE397.out | refine below_set ?_ GE404.out) | exact HB.out)) hb); clear HO_4; clear BK397; clear BK404; clear HB; have HO_4 := n0_; have BK397 := n1_; have BK404 := n2_; have HB := n3_; clear n0_ n1_ n2_ n3_; (try clear hb); (try clear hb2); (try clear hk); (try clear hi)))
                      go_meet
                      case rel => exact ⟨_, (!t408), (by first | rfl | (simp; done) | (simp [*]; done)), H', ⟨by have := HK1.out; first | omega | exact Nat.le_refl _⟩, ⟨by (with_reducible repeat (first | apply Kd.R_alloc | apply Kd.R_drewN | apply Kd.R_drew)); exact HO_4.out⟩, ⟨by (with_reducible repeat (first | refine blk_drewN ?_ _ | refine blk_drew ?_ | refine blk_alloc ?_ _)); exact BK397.out⟩, ⟨by (with_reducible repeat (first | refine blk_drewN ?_ _ | refine blk_drew ?_ | refine blk_alloc ?_ _)); exact BK404.out⟩, ⟨by repeat (first | (with_reducible first | exact HB.out | apply below_alloc | apply pw_below_drewN | apply below_drew1 | refine below_set ?_ GE397.out | refine below_set ?_ GE404.out) | exact HB.out)⟩⟩
                    · rw [if_neg c85] at H
                      have c85b0 : (t402 == t398) = false := beq_eq_false_iff_ne.mpr c85
                      have c85b1 : (t402 != t398) = true := bne_iff_ne.mpr c85
                      have H' := Aside0.mk H
                      clear H
                      go_wp2_with (first | ((with_reducible refine gate_callee (f := 34) rfl ?_); refine goesL_ (some 117) rfl rfl Try.func34 (by kernel_rfl) rfl #[.int .i64 t398] rfl (by (try simp only [List.map_toArray, List.map_cons, List.map_nil]); first | done | rfl | (simp only [List.length_drop, List.length_take]; rfl)) ?_; (with_reducible refine (impl_CountOf.calls k1 t398 t407 _ A82.out).mono ?_); rintro e w' ⟨rfl, ⟨nd, rfl⟩⟩; refine ⟨_, rfl, ?_⟩; have hnb90 := NB404_397.out; have hnc90 := NB397_404.out; have hcz91_0 : wr.cell? ⟨gb404, 0, none⟩ = some (.int .i64 t399) := (blk_cell BK404.out 0).trans rfl; have hcz91_1 : wr.cell? ⟨gb404, 1, none⟩ = some (.int .i64 t400) := (blk_cell BK404.out 1).trans rfl; have hcz91_2 : wr.cell? ⟨gb404, 2, none⟩ = some (.int .i64 t401) := (blk_cell BK404.out 2).trans rfl; have hcz91_3 : wr.cell? ⟨gb404, 3, none⟩ = some (.int .i64 t402) := (blk_cell BK404.out 3).trans rfl; have hfz91_0 := blk_frozen BK404.out 0; have hfz91_1 := blk_frozen BK404.out 1; have hfz91_2 := blk_frozen BK404.out 2; have hfz91_3 := blk_frozen BK404.out 3))
                      go_meet
                      case rel => exact ⟨_, (true), (by first | rfl | (simp; done) | (simp [*]; done)), H', ⟨by have := HK1.out; first | omega | exact Nat.le_refl _⟩, ⟨by (with_reducible repeat (first | apply Kd.R_alloc | apply Kd.R_drewN | apply Kd.R_drew)); exact HO_4.out⟩, ⟨by (with_reducible repeat (first | refine blk_drewN ?_ _ | refine blk_drew ?_ | refine blk_alloc ?_ _)); exact BK397.out⟩, ⟨by (with_reducible repeat (first | refine blk_drewN ?_ _ | refine blk_drew ?_ | refine blk_alloc ?_ _)); exact BK404.out⟩, ⟨by repeat (first | (with_reducible first | exact HB.out | apply below_alloc | apply pw_below_drewN | apply below_drew1 | refine below_set ?_ GE397.out | refine below_set ?_ GE404.out) | exact HB.out)⟩⟩
                  · replace c84 := Bool.eq_false_iff.mpr c84
                    subst c84
                    have H1 : (laws_FnCerts.j2 k1 t385 t398 false ((rd_T40 t385 0).f0) ((rd_T40 t385 0).f1) ((rd_T40 t385 0).f2) ((rd_T40 t385 0).f3)) = some r := by rw [if_neg (show ¬ (false = true) by decide)] at H; exact H
                    clear H
                    have H := H1
                    clear H1
                    have H' := Aside0.mk H
                    clear H
                    go_wp2_with (first | ((with_reducible refine gate_callee (f := 34) rfl ?_); refine goesL_ (some 117) rfl rfl Try.func34 (by kernel_rfl) rfl #[.int .i64 t398] rfl (by (try simp only [List.map_toArray, List.map_cons, List.map_nil]); first | done | rfl | (simp only [List.length_drop, List.length_take]; rfl)) ?_; (with_reducible refine (impl_CountOf.calls k1 t398 t407 _ A82.out).mono ?_); rintro e w' ⟨rfl, ⟨nd, rfl⟩⟩; refine ⟨_, rfl, ?_⟩))
                    go_meet
                    case rel => exact ⟨_, (false), (by first | rfl | (simp; done) | (simp [*]; done)), H', ⟨by have := HK1.out; first | omega | exact Nat.le_refl _⟩, ⟨by (with_reducible repeat (first | apply Kd.R_alloc | apply Kd.R_drewN | apply Kd.R_drew)); exact HO_4.out⟩, ⟨by (with_reducible repeat (first | refine blk_drewN ?_ _ | refine blk_drew ?_ | refine blk_alloc ?_ _)); exact BK397.out⟩, ⟨by (with_reducible repeat (first | refine blk_drewN ?_ _ | refine blk_drew ?_ | refine blk_alloc ?_ _)); exact BK404.out⟩, ⟨by repeat (first | (with_reducible first | exact HB.out | apply below_alloc | apply pw_below_drewN | apply below_drew1 | refine below_set ?_ GE397.out | refine below_set ?_ GE404.out) | exact HB.out)⟩⟩
              case rest =>
                clear HC81
                try clear c1
                try clear p2
                try clear c3
                try clear p3
                try clear q3
                try clear hx3
                try clear qi3
                try clear c4
                try clear p4
                try clear q4
                try clear hx4
                try clear c5
                try clear c5b0
                try clear c5b1
                try clear c5b2
                try clear c6
                try clear p6
                try clear c7
                try clear c8
                try clear c9
                try clear c14
                try clear c18
                try clear c30
                try clear c31
                try clear c31b0
                try clear c31b1
                try clear c33
                try clear c34
                try clear p39
                try clear q39
                try clear hx39
                try clear qi39
                try clear p40
                try clear q40
                try clear hx40
                try clear c42
                try clear c44
                try clear c44b0
                try clear c45
                try clear c45b0
                try clear c46
                try clear c46b0
                try clear c47
                try clear c49
                try clear c50
                try clear c52
                try clear c52b0
                try clear c52b1
                try clear c53
                try clear c53b0
                try clear c53b1
                try clear c54
                try clear c54b0
                try clear c54b1
                try clear c56
                try clear c57
                try clear c59
                try clear c62
                try clear c63
                try clear p64
                try clear c65
                try clear c68
                try clear c69
                try clear c71
                try clear c74
                try clear c75
                try clear c78
                try clear c78b0
                try clear c78b1
                try clear c80
                try clear c80b0
                try clear c80b1
                try clear c80b2
                try clear c83
                try clear c83b0
                try clear c83b1
                try clear c83b2
                try clear c84
                try clear c85
                try clear c85b0
                try clear c85b1
                try clear c87
                try clear c90
                try clear hcz12_0
                try clear hcz12_1
                try clear hcz12_2
                try clear hcz12_3
                try clear hcz20_0
                try clear hcz20_1
                try clear hcz20_2
                try clear hcz20_3
                try clear hcz28_0
                try clear hcz28_1
                try clear hcz28_2
                try clear hcz28_3
                try clear hcz37_0
                try clear hcz37_1
                try clear hcz37_2
                try clear hcz37_3
                try clear hcz39_0
                try clear hcz39_1
                try clear hcz39_2
                try clear hcz39_3
                try clear hcz43_0
                try clear hcz43_1
                try clear hcz43_2
                try clear hcz43_3
                try clear hcz51_0
                try clear hcz51_1
                try clear hcz51_2
                try clear hcz51_3
                try clear hcz58_0
                try clear hcz58_1
                try clear hcz58_2
                try clear hcz58_3
                try clear hcz60_0
                try clear hcz60_1
                try clear hcz60_2
                try clear hcz60_3
                try clear hcz64_0
                try clear hcz64_1
                try clear hcz64_2
                try clear hcz64_3
                try clear hcz66_0
                try clear hcz66_1
                try clear hcz66_2
                try clear hcz66_3
                try clear hcz70_0
                try clear hcz70_1
                try clear hcz70_2
                try clear hcz70_3
                try clear hcz72_0
                try clear hcz72_1
                try clear hcz72_2
                try clear hcz72_3
                try clear hcz76_0
                try clear hcz76_1
                try clear hcz76_2
                try clear hcz76_3
                try clear hcz88_0
                try clear hcz88_1
                try clear hcz88_2
                try clear hcz88_3
                try clear hcz91_0
                try clear hcz91_1
                try clear hcz91_2
                try clear hcz91_3
                try clear hfz12_0
                try clear hfz12_1
                try clear hfz12_2
                try clear hfz12_3
                try clear hfz20_0
                try clear hfz20_1
                try clear hfz20_2
                try clear hfz20_3
                try clear hfz28_0
                try clear hfz28_1
                try clear hfz28_2
                try clear hfz28_3
                try clear hfz37_0
                try clear hfz37_1
                try clear hfz37_2
                try clear hfz37_3
                try clear hfz39_0
                try clear hfz39_1
                try clear hfz39_2
                try clear hfz39_3
                try clear hfz43_0
                try clear hfz43_1
                try clear hfz43_2
                try clear hfz43_3
                try clear hfz51_0
                try clear hfz51_1
                try clear hfz51_2
                try clear hfz51_3
                try clear hfz58_0
                try clear hfz58_1
                try clear hfz58_2
                try clear hfz58_3
                try clear hfz60_0
                try clear hfz60_1
                try clear hfz60_2
                try clear hfz60_3
                try clear hfz64_0
                try clear hfz64_1
                try clear hfz64_2
                try clear hfz64_3
                try clear hfz66_0
                try clear hfz66_1
                try clear hfz66_2
                try clear hfz66_3
                try clear hfz70_0
                try clear hfz70_1
                try clear hfz70_2
                try clear hfz70_3
                try clear hfz72_0
                try clear hfz72_1
                try clear hfz72_2
                try clear hfz72_3
                try clear hfz76_0
                try clear hfz76_1
                try clear hfz76_2
                try clear hfz76_3
                try clear hfz88_0
                try clear hfz88_1
                try clear hfz88_2
                try clear hfz88_3
                try clear hfz91_0
                try clear hfz91_1
                try clear hfz91_2
                try clear hfz91_3
                try clear hx396_0
                try clear hx396_1
                try clear hx396_2
                try clear hx396_3
                try clear hx405_0
                try clear hx405_1
                try clear hx405_2
                try clear hx405_3
                try clear p2
                try clear p3
                try clear p39
                try clear p396
                try clear p405
                try clear q3
                try clear q39
                try clear q396
                try clear q405
                obtain ⟨kq, x134_80, rfl, HA, HJ80, HO_4, BK397, BK404, HB⟩ := hcut
                cases kq with
                | zero => exact absurd HA.out (by simp [laws_FnCerts.j2])
                | succ kj80 =>
                  have H := HA.out
                  clear HA
                  simp only [laws_FnCerts.j2] at H
                  by_cases c92 : x134_80 = true
                  · subst c92
                    have H1 : (some false) = some r := by rw [if_pos rfl] at H; exact H
                    clear H
                    have H := H1
                    clear H1
                    obtain rfl := Option.some.inj H
                    go_wp2
                    go_ret
                    exact ⟨by first | rfl | (simp [errW_none, errW_some] <;> rfl) | (simp [*, errW_none, errW_some] <;> rfl), by repeat (first | (with_reducible first | exact HB.out | apply below_alloc | apply pw_below_drewN | apply below_drew1 | refine below_set ?_ GE397.out | refine below_set ?_ GE404.out) | exact HB.out)⟩
                  · replace c92 := Bool.eq_false_iff.mpr c92
                    subst c92
                    have H1 : (if ((rd_T40 t385 0).f1) = 0 then (some true) else ((impl_Proven.f kj80 t385 ((rd_T40 t385 0).f0) ((rd_T40 t385 0).f1) ((rd_T40 t385 0).f2) (Go.bits .or .i64 t398 64) 64).bind fun t410 => (if t410 = true then ((impl_Proven.f kj80 t385 ((rd_T40 t385 0).f0) ((rd_T40 t385 0).f1) ((rd_T40 t385 0).f2) (Go.bits .or .i64 t398 64) 0).bind fun t411 => (some (t411 == ((t398 / 64) == 1)))) else (some false)))) = some r := by rw [if_neg (show ¬ (false = true) by decide)] at H; exact H
                    clear H
                    have H := H1
                    clear H1
                    by_cases c93 : ((rd_T40 t385 0).f1) = 0
                    · rw [if_pos c93] at H
                      have c93b0 : (((rd_T40 t385 0).f1) == 0) = true := beq_iff_eq.mpr c93
                      have c93b1 : (((rd_T40 t385 0).f1) != 0) = false := bne_eq_false_iff_eq.mpr c93
                      clear c93
                      obtain rfl := Option.some.inj H
                      have hnb94 := NB397_404.out
                      have hnc94 := NB404_397.out
                      have hcz95_0 : wc.cell? ⟨gb397, 0, none⟩ = some (.int .i64 ((rd_T40 t385 0).f0)) := (blk_cell BK397.out 0).trans rfl
                      have hcz95_1 : wc.cell? ⟨gb397, 1, none⟩ = some (.int .i64 ((rd_T40 t385 0).f1)) := (blk_cell BK397.out 1).trans rfl
                      have hcz95_2 : wc.cell? ⟨gb397, 2, none⟩ = some (.int .i64 ((rd_T40 t385 0).f2)) := (blk_cell BK397.out 2).trans rfl
                      have hcz95_3 : wc.cell? ⟨gb397, 3, none⟩ = some (.int .i64 ((rd_T40 t385 0).f3)) := (blk_cell BK397.out 3).trans rfl
                      have hfz95_0 := blk_frozen BK397.out 0
                      have hfz95_1 := blk_frozen BK397.out 1
                      have hfz95_2 := blk_frozen BK397.out 2
                      have hfz95_3 := blk_frozen BK397.out 3
                      go_wp2_with (first | ((with_reducible refine gate_dst (N := 15) rfl ?_); refine box_event ?hg (N := 15) ?hd (cs := #[.int .i64 0, .int .i64 0, .int .i64 0, .int .i64 0]) (t := 25) ?hr ?_; (case hd => rfl); (case hg => rfl); (case hr => first | (go_simp; done) | (go_simp; rfl)); intro gb409 hg w96 hbox hb; have n0_ := Aside0.mk (Kd.R_below (by (with_reducible repeat (first | apply Kd.R_alloc | apply Kd.R_drewN | apply Kd.R_drew)); exact HO_4.out) hb); have n1_ := Aside0.mk (blk_below (g := gb397) (o := .cells #[.int .i64 ((rd_T40 t385 0).f0), .int .i64 ((rd_T40 t385 0).f1), .int .i64 ((rd_T40 t385 0).f2), .int .i64 ((rd_T40 t385 0).f3)] 40 (0, 0)) (by (with_reducible repeat (first | refine blk_drewN ?_ _ | refine blk_drew ?_ | refine blk_alloc ?_ _)); exact BK397.out) hb); have n2_ := Aside0.mk (blk_below (g := gb404) (o := .cells #[.int .i64 t399, .int .i64 t400, .int .i64 t401, .int .i64 t402] 25 (0, 0)) (by (with_reducible repeat (first | refine blk_drewN ?_ _ | refine blk_drew ?_ | refine blk_alloc ?_ _)); exact BK404.out) hb); have n3_ := Aside0.mk (below_step (by repeat (first | (with_reducible first | exact HB.out | apply below_alloc | apply pw_below_drewN | apply below_drew1 | refine below_set ?_ GE397.out | refine below_set ?_ GE404.out) | exact HB.out)) hb); have n4_ := Aside0.mk (hbox); have n5_ := Aside0.mk ((by rw [hg]; exact (below_size (by repeat (first | (with_reducible first | exact HB.out | apply below_alloc | apply pw_below_drewN | apply below_drew1 | refine below_set ?_ GE397.out | refine below_set ?_ GE404.out) | exact HB.out))) : w.heap.size ≤ gb409)); have n6_ := Aside0.mk ((by rw [hg]; exact (below_size (by repeat (first | (with_reducible first | exact HB.out | apply below_alloc | apply pw_below_drewN | apply below_drew1 | refine below_set ?_ GE397.out | refine below_set ?_ GE404.out) | exact HB.out))) : w.heap.size ≤ gb409)); have n7_ := Aside0.mk ((by rw [hg]; exact Nat.ne_of_lt (blk_lt (g := gb397) (o := .cells #[.int .i64 ((rd_T40 t385 0).f0), .int .i64 ((rd_T40 t385 0).f1), .int .i64 ((rd_T40 t385 0).f2), .int .i64 ((rd_T40 t385 0).f3)] 40 (0, 0)) (by (with_reducible repeat (first | refine blk_drewN ?_ _ | refine blk_drew ?_ | refine blk_alloc ?_ _)); exact BK397.out)) : gb397 ≠ gb409)); have n8_ := Aside0.mk ((by rw [hg]; exact Nat.ne_of_gt (blk_lt (g := gb397) (o := .cells #[.int .i64 ((rd_T40 t385 0).f0), .int .i64 ((rd_T40 t385 0).f1), .int .i64 ((rd_T40 t385 0).f2), .int .i64 ((rd_T40 t385 0).f3)] 40 (0, 0)) (by (with_reducible repeat (first | refine blk_drewN ?_ _ | refine blk_drew ?_ | refine blk_alloc ?_ _)); exact BK397.out)) : gb409 ≠ gb397)); have n9_ := Aside0.mk ((by rw [hg]; exact Nat.ne_of_lt (blk_lt (g := gb404) (o := .cells #[.int .i64 t399, .int .i64 t400, .int .i64 t401, .int .i64 t402] 25 (0, 0)) (by (with_reducible repeat (first | refine blk_drewN ?_ _ | refine blk_drew ?_ | refine blk_alloc ?_ _)); exact BK404.out)) : gb404 ≠ gb409)); have n10_ := Aside0.mk ((by rw [hg]; exact Nat.ne_of_gt (blk_lt (g := gb404) (o := .cells #[.int .i64 t399, .int .i64 t400, .int .i64 t401, .int .i64 t402] 25 (0, 0)) (by (with_reducible repeat (first | refine blk_drewN ?_ _ | refine blk_drew ?_ | refine blk_alloc ?_ _)); exact BK404.out)) : gb409 ≠ gb404)); clear HO_4; clear BK397; clear BK404; clear HB; have HO_4 := n0_; have BK397 := n1_; have BK404 := n2_; have HB := n3_; have BK409 := n4_; have GW409 := n5_; have GE409 := n6_; have NB397_409 := n7_; have NB409_397 := n8_; have NB404_409 := n9_; have NB409_404 := n10_; clear n0_ n1_ n2_ n3_ n4_ n5_ n6_ n7_ n8_ n9_ n10_; clear hb hbox hg; have hnb97 := NB409_397.out; have hnc97 := NB397_409.out; have hnb98 := NB409_404.out; have hnc98 := NB404_409.out; have hcz99_0 : w96.cell? ⟨gb409, 0, none⟩ = some (.int .i64 0) := (blk_cell BK409.out 0).trans rfl; have hcz99_1 : w96.cell? ⟨gb409, 1, none⟩ = some (.int .i64 0) := (blk_cell BK409.out 1).trans rfl; have hcz99_2 : w96.cell? ⟨gb409, 2, none⟩ = some (.int .i64 0) := (blk_cell BK409.out 2).trans rfl; have hcz99_3 : w96.cell? ⟨gb409, 3, none⟩ = some (.int .i64 0) := (blk_cell BK409.out 3).trans rfl; have hfz99_0 := blk_frozen BK409.out 0; have hfz99_1 := blk_frozen BK409.out 1; have hfz99_2 := blk_frozen BK409.out 2; have hfz99_3 := blk_frozen BK409.out 3; have hcz100_0 : w96.cell? ⟨gb397, 0, none⟩ = some (.int .i64 ((rd_T40 t385 0).f0)) := (blk_cell BK397.out 0).trans rfl; have hcz100_1 : w96.cell? ⟨gb397, 1, none⟩ = some (.int .i64 ((rd_T40 t385 0).f1)) := (blk_cell BK397.out 1).trans rfl; have hcz100_2 : w96.cell? ⟨gb397, 2, none⟩ = some (.int .i64 ((rd_T40 t385 0).f2)) := (blk_cell BK397.out 2).trans rfl; have hcz100_3 : w96.cell? ⟨gb397, 3, none⟩ = some (.int .i64 ((rd_T40 t385 0).f3)) := (blk_cell BK397.out 3).trans rfl; have hfz100_0 := blk_frozen BK397.out 0; have hfz100_1 := blk_frozen BK397.out 1; have hfz100_2 := blk_frozen BK397.out 2; have hfz100_3 := blk_frozen BK397.out 3))
                      go_ret
                      exact ⟨by first | rfl | (simp [errW_none, errW_some] <;> rfl) | (simp [*, errW_none, errW_some] <;> rfl), by repeat (first | (with_reducible first | exact HB.out | apply below_alloc | apply pw_below_drewN | apply below_drew1 | refine below_set ?_ GE397.out | refine below_set ?_ GE404.out | refine below_set ?_ GE409.out) | exact HB.out)⟩
                    · rw [if_neg c93] at H
                      have c93b0 : (((rd_T40 t385 0).f1) == 0) = false := beq_eq_false_iff_ne.mpr c93
                      have c93b1 : (((rd_T40 t385 0).f1) != 0) = true := bne_iff_ne.mpr c93
                      replace H := Option.bind_eq_some_iff.mp H
                      obtain ⟨t410, A1010, H⟩ := H
                      replace H : (if t410 = true then ((impl_Proven.f kj80 t385 ((rd_T40 t385 0).f0) ((rd_T40 t385 0).f1) ((rd_T40 t385 0).f2) (Go.bits .or .i64 t398 64) 0).bind fun t411 => (some (t411 == ((t398 / 64) == 1)))) else (some false)) = some r := H
                      have A101 := Aside0.mk A1010
                      clear A1010
                      by_cases c102 : t410 = true
                      · subst c102
                        have H1 : ((impl_Proven.f kj80 t385 ((rd_T40 t385 0).f0) ((rd_T40 t385 0).f1) ((rd_T40 t385 0).f2) (Go.bits .or .i64 t398 64) 0).bind fun t411 => (some (t411 == ((t398 / 64) == 1)))) = some r := by rw [if_pos rfl] at H; exact H
                        clear H
                        have H := H1
                        clear H1
                        replace H := Option.bind_eq_some_iff.mp H
                        obtain ⟨t411, A1030, H⟩ := H
                        replace H : (some (t411 == ((t398 / 64) == 1))) = some r := H
                        have A103 := Aside0.mk A1030
                        clear A1030
                        obtain rfl := Option.some.inj H
                        have hnb104 := NB397_404.out
                        have hnc104 := NB404_397.out
                        have hcz105_0 : wc.cell? ⟨gb397, 0, none⟩ = some (.int .i64 ((rd_T40 t385 0).f0)) := (blk_cell BK397.out 0).trans rfl
                        have hcz105_1 : wc.cell? ⟨gb397, 1, none⟩ = some (.int .i64 ((rd_T40 t385 0).f1)) := (blk_cell BK397.out 1).trans rfl
                        have hcz105_2 : wc.cell? ⟨gb397, 2, none⟩ = some (.int .i64 ((rd_T40 t385 0).f2)) := (blk_cell BK397.out 2).trans rfl
                        have hcz105_3 : wc.cell? ⟨gb397, 3, none⟩ = some (.int .i64 ((rd_T40 t385 0).f3)) := (blk_cell BK397.out 3).trans rfl
                        have hfz105_0 := blk_frozen BK397.out 0
                        have hfz105_1 := blk_frozen BK397.out 1
                        have hfz105_2 := blk_frozen BK397.out 2
                        have hfz105_3 := blk_frozen BK397.out 3
                        go_wp2_with (first | ((with_reducible refine gate_dst (N := 15) rfl ?_); refine box_event ?hg (N := 15) ?hd (cs := #[.int .i64 0, .int .i64 0, .int .i64 0, .int .i64 0]) (t := 25) ?hr ?_; (case hd => rfl); (case hg => rfl); (case hr => first | (go_simp; done) | (go_simp; rfl)); intro gb409 hg w106 hbox hb; have n0_ := Aside0.mk (Kd.R_below (by (with_reducible repeat (first | apply Kd.R_alloc | apply Kd.R_drewN | apply Kd.R_drew)); exact HO_4.out) hb); have n1_ := Aside0.mk (blk_below (g := gb397) (o := .cells #[.int .i64 ((rd_T40 t385 0).f0), .int .i64 ((rd_T40 t385 0).f1), .int .i64 ((rd_T40 t385 0).f2), .int .i64 ((rd_T40 t385 0).f3)] 40 (0, 0)) (by (with_reducible repeat (first | refine blk_drewN ?_ _ | refine blk_drew ?_ | refine blk_alloc ?_ _)); exact BK397.out) hb); have n2_ := Aside0.mk (blk_below (g := gb404) (o := .cells #[.int .i64 t399, .int .i64 t400, .int .i64 t401, .int .i64 t402] 25 (0, 0)) (by (with_reducible repeat (first | refine blk_drewN ?_ _ | refine blk_drew ?_ | refine blk_alloc ?_ _)); exact BK404.out) hb); have n3_ := Aside0.mk (below_step (by repeat (first | (with_reducible first | exact HB.out | apply below_alloc | apply pw_below_drewN | apply below_drew1 | refine below_set ?_ GE397.out | refine below_set ?_ GE404.out) | exact HB.out)) hb); have n4_ := Aside0.mk (hbox); have n5_ := Aside0.mk ((by rw [hg]; exact (below_size (by repeat (first | (with_reducible first | exact HB.out | apply below_alloc | apply pw_below_drewN | apply below_drew1 | refine below_set ?_ GE397.out | refine below_set ?_ GE404.out) | exact HB.out))) : w.heap.size ≤ gb409)); have n6_ := Aside0.mk ((by rw [hg]; exact (below_size (by repeat (first | (with_reducible first | exact HB.out | apply below_alloc | apply pw_below_drewN | apply below_drew1 | refine below_set ?_ GE397.out | refine below_set ?_ GE404.out) | exact HB.out))) : w.heap.size ≤ gb409)); have n7_ := Aside0.mk ((by rw [hg]; exact Nat.ne_of_lt (blk_lt (g := gb397) (o := .cells #[.int .i64 ((rd_T40 t385 0).f0), .int .i64 ((rd_T40 t385 0).f1), .int .i64 ((rd_T40 t385 0).f2), .int .i64 ((rd_T40 t385 0).f3)] 40 (0, 0)) (by (with_reducible repeat (first | refine blk_drewN ?_ _ | refine blk_drew ?_ | refine blk_alloc ?_ _)); exact BK397.out)) : gb397 ≠ gb409)); have n8_ := Aside0.mk ((by rw [hg]; exact Nat.ne_of_gt (blk_lt (g := gb397) (o := .cells #[.int .i64 ((rd_T40 t385 0).f0), .int .i64 ((rd_T40 t385 0).f1), .int .i64 ((rd_T40 t385 0).f2), .int .i64 ((rd_T40 t385 0).f3)] 40 (0, 0)) (by (with_reducible repeat (first | refine blk_drewN ?_ _ | refine blk_drew ?_ | refine blk_alloc ?_ _)); exact BK397.out)) : gb409 ≠ gb397)); have n9_ := Aside0.mk ((by rw [hg]; exact Nat.ne_of_lt (blk_lt (g := gb404) (o := .cells #[.int .i64 t399, .int .i64 t400, .int .i64 t401, .int .i64 t402] 25 (0, 0)) (by (with_reducible repeat (first | refine blk_drewN ?_ _ | refine blk_drew ?_ | refine blk_alloc ?_ _)); exact BK404.out)) : gb404 ≠ gb409)); have n10_ := Aside0.mk ((by rw [hg]; exact Nat.ne_of_gt (blk_lt (g := gb404) (o := .cells #[.int .i64 t399, .int .i64 t400, .int .i64 t401, .int .i64 t402] 25 (0, 0)) (by (with_reducible repeat (first | refine blk_drewN ?_ _ | refine blk_drew ?_ | refine blk_alloc ?_ _)); exact BK404.out)) : gb409 ≠ gb404)); clear HO_4; clear BK397; clear BK404; clear HB; have HO_4 := n0_; have BK397 := n1_; have BK404 := n2_; have HB := n3_; have BK409 := n4_; have GW409 := n5_; have GE409 := n6_; have NB397_409 := n7_; have NB409_397 := n8_; have NB404_409 := n9_; have NB409_404 := n10_; clear n0_ n1_ n2_ n3_ n4_ n5_ n6_ n7_ n8_ n9_ n10_; clear hb hbox hg; have hnb107 := NB409_397.out; have hnc107 := NB397_409.out; have hnb108 := NB409_404.out; have hnc108 := NB404_409.out; have hcz109_0 : w106.cell? ⟨gb409, 0, none⟩ = some (.int .i64 0) := (blk_cell BK409.out 0).trans rfl; have hcz109_1 : w106.cell? ⟨gb409, 1, none⟩ = some (.int .i64 0) := (blk_cell BK409.out 1).trans rfl; have hcz109_2 : w106.cell? ⟨gb409, 2, none⟩ = some (.int .i64 0) := (blk_cell BK409.out 2).trans rfl; have hcz109_3 : w106.cell? ⟨gb409, 3, none⟩ = some (.int .i64 0) := (blk_cell BK409.out 3).trans rfl; have hfz109_0 := blk_frozen BK409.out 0; have hfz109_1 := blk_frozen BK409.out 1; have hfz109_2 := blk_frozen BK409.out 2; have hfz109_3 := blk_frozen BK409.out 3; have hcz110_0 : w106.cell? ⟨gb397, 0, none⟩ = some (.int .i64 ((rd_T40 t385 0).f0)) := (blk_cell BK397.out 0).trans rfl; have hcz110_1 : w106.cell? ⟨gb397, 1, none⟩ = some (.int .i64 ((rd_T40 t385 0).f1)) := (blk_cell BK397.out 1).trans rfl; have hcz110_2 : w106.cell? ⟨gb397, 2, none⟩ = some (.int .i64 ((rd_T40 t385 0).f2)) := (blk_cell BK397.out 2).trans rfl; have hcz110_3 : w106.cell? ⟨gb397, 3, none⟩ = some (.int .i64 ((rd_T40 t385 0).f3)) := (blk_cell BK397.out 3).trans rfl; have hfz110_0 := blk_frozen BK397.out 0; have hfz110_1 := blk_frozen BK397.out 1; have hfz110_2 := blk_frozen BK397.out 2; have hfz110_3 := blk_frozen BK397.out 3) | (go_at_call 32; (with_reducible refine (impl_Proven.calls kj80 _ _ t385 ((rd_T40 t385 0).f0) ((rd_T40 t385 0).f1) ((rd_T40 t385 0).f2) (Go.bits .or .i64 t398 64) 64 true _ ?side1 ?side2 A101.out).mono ?_); (case side1 => refine (Kd.R_reads' (e := 40) (base := w.heap.size) (ok := fun k_ => k_ ≠ gb397) (n := t385.length) (c := co35) ?_).2.2; exact (by (with_reducible repeat (first | apply Kd.R_alloc | apply Kd.R_drewN | apply Kd.R_drew)); exact (Kd.R_mono (Kd.R_far (p := ⟨gb409, 3, none⟩) (Kd.R_far (p := ⟨gb409, 2, none⟩) (Kd.R_far (p := ⟨gb409, 1, none⟩) (Kd.R_far (p := ⟨gb409, 0, none⟩) (Kd.R_types HO_4.out BK409.out (by decide)) (fun _ hk => hk.2) (.int .i64 ((rd_T40 t385 0).f0))) (fun _ hk => hk.2) (.int .i64 ((rd_T40 t385 0).f1))) (fun _ hk => hk.2) (.int .i64 ((rd_T40 t385 0).f2))) (fun _ hk => hk.2) (.int .i64 (Go.bits .or .i64 t398 64))) (fun _ h_ => h_.1)))); (case side2 => exact (Kd.R_reads' HO_4.out).2.1); rintro e w111 ⟨rfl, hb⟩; have n0_ := Aside0.mk (Kd.R_below (by (with_reducible repeat (first | apply Kd.R_alloc | apply Kd.R_drewN | apply Kd.R_drew)); exact (Kd.R_mono (Kd.R_far (p := ⟨gb409, 3, none⟩) (Kd.R_far (p := ⟨gb409, 2, none⟩) (Kd.R_far (p := ⟨gb409, 1, none⟩) (Kd.R_far (p := ⟨gb409, 0, none⟩) (Kd.R_types HO_4.out BK409.out (by decide)) (fun _ hk => hk.2) (.int .i64 ((rd_T40 t385 0).f0))) (fun _ hk => hk.2) (.int .i64 ((rd_T40 t385 0).f1))) (fun _ hk => hk.2) (.int .i64 ((rd_T40 t385 0).f2))) (fun _ hk => hk.2) (.int .i64 (Go.bits .or .i64 t398 64))) (fun _ h_ => h_.1))) hb); have n1_ := Aside0.mk (blk_below (g := gb397) (o := .cells #[.int .i64 ((rd_T40 t385 0).f0), .int .i64 ((rd_T40 t385 0).f1), .int .i64 ((rd_T40 t385 0).f2), .int .i64 ((rd_T40 t385 0).f3)] 40 (0, 0)) (by (with_reducible repeat (first | refine blk_drewN ?_ _ | refine blk_drew ?_ | refine blk_alloc ?_ _)); refine blk_far ?_ NB397_409.out _; (with_reducible repeat (first | refine blk_drewN ?_ _ | refine blk_drew ?_ | refine blk_alloc ?_ _)); refine blk_far ?_ NB397_409.out _; (with_reducible repeat (first | refine blk_drewN ?_ _ | refine blk_drew ?_ | refine blk_alloc ?_ _)); refine blk_far ?_ NB397_409.out _; (with_reducible repeat (first | refine blk_drewN ?_ _ | refine blk_drew ?_ | refine blk_alloc ?_ _)); refine blk_far ?_ NB397_409.out _; (with_reducible repeat (first | refine blk_drewN ?_ _ | refine blk_drew ?_ | refine blk_alloc ?_ _)); exact BK397.out) hb); have n2_ := Aside0.mk (blk_below (g := gb404) (o := .cells #[.int .i64 t399, .int .i64 t400, .int .i64 t401, .int .i64 t402] 25 (0, 0)) (by (with_reducible repeat (first | refine blk_drewN ?_ _ | refine blk_drew ?_ | refine blk_alloc ?_ _)); refine blk_far ?_ NB404_409.out _; (with_reducible repeat (first | refine blk_drewN ?_ _ | refine blk_drew ?_ | refine blk_alloc ?_ _)); refine blk_far ?_ NB404_409.out _; (with_reducible repeat (first | refine blk_drewN ?_ _ | refine blk_drew ?_ | refine blk_alloc ?_ _)); refine blk_far ?_ NB404_409.out _; (with_reducible repeat (first | refine blk_drewN ?_ _ | refine blk_drew ?_ | refine blk_alloc ?_ _)); refine blk_far ?_ NB404_409.out _; (with_reducible repeat (first | refine blk_drewN ?_ _ | refine blk_drew ?_ | refine blk_alloc ?_ _)); exact BK404.out) hb); have n3_ := Aside0.mk (blk_below (g := gb409) (o := .cells #[.int .i64 ((rd_T40 t385 0).f0), .int .i64 ((rd_T40 t385 0).f1), .int .i64 ((rd_T40 t385 0).f2), .int .i64 (Go.bits .or .i64 t398 64)] 25 (0, 0)) (by (with_reducible repeat (first | refine blk_drewN ?_ _ | refine blk_drew ?_ | refine blk_alloc ?_ _)); refine blk_put (cs := #[.int .i64 ((rd_T40 t385 0).f0), .int .i64 ((rd_T40 t385 0).f1), .int .i64 ((rd_T40 t385 0).f2), .int .i64 0]) ?_ 3 _ rfl; (with_reducible repeat (first | refine blk_drewN ?_ _ | refine blk_drew ?_ | refine blk_alloc ?_ _)); refine blk_put (cs := #[.int .i64 ((rd_T40 t385 0).f0), .int .i64 ((rd_T40 t385 0).f1), .int .i64 0, .int .i64 0]) ?_ 2 _ rfl; (with_reducible repeat (first | refine blk_drewN ?_ _ | refine blk_drew ?_ | refine blk_alloc ?_ _)); refine blk_put (cs := #[.int .i64 ((rd_T40 t385 0).f0), .int .i64 0, .int .i64 0, .int .i64 0]) ?_ 1 _ rfl; (with_reducible repeat (first | refine blk_drewN ?_ _ | refine blk_drew ?_ | refine blk_alloc ?_ _)); refine blk_put (cs := #[.int .i64 0, .int .i64 0, .int .i64 0, .int .i64 0]) ?_ 0 _ rfl; (with_reducible repeat (first | refine blk_drewN ?_ _ | refine blk_drew ?_ | refine blk_alloc ?_ _)); exact BK409.out) hb); have n4_ := Aside0.mk (below_step (by repeat (first | (with_reducible first | exact HB.out | apply below_alloc | apply pw_below_drewN | apply below_drew1 | refine below_set ?_ GE397.out | refine below_set ?_ GE404.out | refine below_set ?_ GE409.out) | exact HB.out)) hb); clear HO_4; clear BK397; clear BK404; clear BK409; clear HB; have HO_4 := n0_; have BK397 := n1_; have BK404 := n2_; have BK409 := n3_; have HB := n4_; clear n0_ n1_ n2_ n3_ n4_; (try clear hb); (try clear hb2); (try clear hk); (try clear hi); have hcz112_0 : w111.cell? ⟨gb409, 0, none⟩ = some (.int .i64 ((rd_T40 t385 0).f0)) := (blk_cell BK409.out 0).trans rfl; have hcz112_1 : w111.cell? ⟨gb409, 1, none⟩ = some (.int .i64 ((rd_T40 t385 0).f1)) := (blk_cell BK409.out 1).trans rfl; have hcz112_2 : w111.cell? ⟨gb409, 2, none⟩ = some (.int .i64 ((rd_T40 t385 0).f2)) := (blk_cell BK409.out 2).trans rfl; have hcz112_3 : w111.cell? ⟨gb409, 3, none⟩ = some (.int .i64 (Go.bits .or .i64 t398 64)) := (blk_cell BK409.out 3).trans rfl; have hfz112_0 := blk_frozen BK409.out 0; have hfz112_1 := blk_frozen BK409.out 1; have hfz112_2 := blk_frozen BK409.out 2; have hfz112_3 := blk_frozen BK409.out 3) | (go_at_call 32; (with_reducible refine (impl_Proven.calls kj80 _ _ t385 ((rd_T40 t385 0).f0) ((rd_T40 t385 0).f1) ((rd_T40 t385 0).f2) (Go.bits .or .i64 t398 64) 0 t411 _ ?side1 ?side2 A103.out).mono ?_); (case side1 => repeat (first | exact (Kd.R_reads' HO_4.out).2.2 | (with_reducible refine Kd.C_alloc ?_ _) | (with_reducible refine Kd.C_drewN ?_ _) | (with_reducible refine Kd.C_drew ?_))); (case side2 => exact (Kd.R_reads' HO_4.out).2.1); rintro e w113 ⟨rfl, hb⟩; have n0_ := Aside0.mk (Kd.R_below (by (with_reducible repeat (first | apply Kd.R_alloc | apply Kd.R_drewN | apply Kd.R_drew)); exact HO_4.out) hb); have n1_ := Aside0.mk (blk_below (g := gb397) (o := .cells #[.int .i64 ((rd_T40 t385 0).f0), .int .i64 ((rd_T40 t385 0).f1), .int .i64 ((rd_T40 t385 0).f2), .int .i64 ((rd_T40 t385 0).f3)] 40 (0, 0)) (by (with_reducible repeat (first | refine blk_drewN ?_ _ | refine blk_drew ?_ | refine blk_alloc ?_ _)); exact BK397.out) hb); have n2_ := Aside0.mk (blk_below (g := gb404) (o := .cells #[.int .i64 t399, .int .i64 t400, .int .i64 t401, .int .i64 t402] 25 (0, 0)) (by (with_reducible repeat (first | refine blk_drewN ?_ _ | refine blk_drew ?_ | refine blk_alloc ?_ _)); exact BK404.out) hb); have n3_ := Aside0.mk (blk_below (g := gb409) (o := .cells #[.int .i64 ((rd_T40 t385 0).f0), .int .i64 ((rd_T40 t385 0).f1), .int .i64 ((rd_T40 t385 0).f2), .int .i64 (Go.bits .or .i64 t398 64)] 25 (0, 0)) (by (with_reducible repeat (first | refine blk_drewN ?_ _ | refine blk_drew ?_ | refine blk_alloc ?_ _)); exact BK409.out) hb); have n4_ := Aside0.mk (below_step (by repeat (first | (with_reducible first | exact HB.out | apply below_alloc | apply pw_below_drewN | apply below_drew1 | refine below_set ?_ GE397.out | refine below_set ?_ GE404.out | refine below_set ?_ GE409.out) | exact HB.out)) hb); clear HO_4; clear BK397; clear BK404; clear BK409; clear HB; have HO_4 := n0_; have BK397 := n1_; have BK404 := n2_; have BK409 := n3_; have HB := n4_; clear n0_ n1_ n2_ n3_ n4_; (try clear hb); (try clear hb2); (try clear hk); (try clear hi)))
                        go_ret
                        exact ⟨by first | rfl | (simp [errW_none, errW_some] <;> rfl) | (simp [*, errW_none, errW_some] <;> rfl), by repeat (first | (with_reducible first | exact HB.out | apply below_alloc | apply pw_below_drewN | apply below_drew1 | refine below_set ?_ GE397.out | refine below_set ?_ GE404.out | refine below_set ?_ GE409.out) | exact HB.out)⟩
                      · replace c102 := Bool.eq_false_iff.mpr c102
                        subst c102
                        have H1 : (some false) = some r := by rw [if_neg (show ¬ (false = true) by decide)] at H; exact H
                        clear H
                        have H := H1
                        clear H1
                        obtain rfl := Option.some.inj H
                        have hnb114 := NB397_404.out
                        have hnc114 := NB404_397.out
                        have hcz115_0 : wc.cell? ⟨gb397, 0, none⟩ = some (.int .i64 ((rd_T40 t385 0).f0)) := (blk_cell BK397.out 0).trans rfl
                        have hcz115_1 : wc.cell? ⟨gb397, 1, none⟩ = some (.int .i64 ((rd_T40 t385 0).f1)) := (blk_cell BK397.out 1).trans rfl
                        have hcz115_2 : wc.cell? ⟨gb397, 2, none⟩ = some (.int .i64 ((rd_T40 t385 0).f2)) := (blk_cell BK397.out 2).trans rfl
                        have hcz115_3 : wc.cell? ⟨gb397, 3, none⟩ = some (.int .i64 ((rd_T40 t385 0).f3)) := (blk_cell BK397.out 3).trans rfl
                        have hfz115_0 := blk_frozen BK397.out 0
                        have hfz115_1 := blk_frozen BK397.out 1
                        have hfz115_2 := blk_frozen BK397.out 2
                        have hfz115_3 := blk_frozen BK397.out 3
                        go_wp2_with (first | ((with_reducible refine gate_dst (N := 15) rfl ?_); refine box_event ?hg (N := 15) ?hd (cs := #[.int .i64 0, .int .i64 0, .int .i64 0, .int .i64 0]) (t := 25) ?hr ?_; (case hd => rfl); (case hg => rfl); (case hr => first | (go_simp; done) | (go_simp; rfl)); intro gb409 hg w116 hbox hb; have n0_ := Aside0.mk (Kd.R_below (by (with_reducible repeat (first | apply Kd.R_alloc | apply Kd.R_drewN | apply Kd.R_drew)); exact HO_4.out) hb); have n1_ := Aside0.mk (blk_below (g := gb397) (o := .cells #[.int .i64 ((rd_T40 t385 0).f0), .int .i64 ((rd_T40 t385 0).f1), .int .i64 ((rd_T40 t385 0).f2), .int .i64 ((rd_T40 t385 0).f3)] 40 (0, 0)) (by (with_reducible repeat (first | refine blk_drewN ?_ _ | refine blk_drew ?_ | refine blk_alloc ?_ _)); exact BK397.out) hb); have n2_ := Aside0.mk (blk_below (g := gb404) (o := .cells #[.int .i64 t399, .int .i64 t400, .int .i64 t401, .int .i64 t402] 25 (0, 0)) (by (with_reducible repeat (first | refine blk_drewN ?_ _ | refine blk_drew ?_ | refine blk_alloc ?_ _)); exact BK404.out) hb); have n3_ := Aside0.mk (below_step (by repeat (first | (with_reducible first | exact HB.out | apply below_alloc | apply pw_below_drewN | apply below_drew1 | refine below_set ?_ GE397.out | refine below_set ?_ GE404.out) | exact HB.out)) hb); have n4_ := Aside0.mk (hbox); have n5_ := Aside0.mk ((by rw [hg]; exact (below_size (by repeat (first | (with_reducible first | exact HB.out | apply below_alloc | apply pw_below_drewN | apply below_drew1 | refine below_set ?_ GE397.out | refine below_set ?_ GE404.out) | exact HB.out))) : w.heap.size ≤ gb409)); have n6_ := Aside0.mk ((by rw [hg]; exact (below_size (by repeat (first | (with_reducible first | exact HB.out | apply below_alloc | apply pw_below_drewN | apply below_drew1 | refine below_set ?_ GE397.out | refine below_set ?_ GE404.out) | exact HB.out))) : w.heap.size ≤ gb409)); have n7_ := Aside0.mk ((by rw [hg]; exact Nat.ne_of_lt (blk_lt (g := gb397) (o := .cells #[.int .i64 ((rd_T40 t385 0).f0), .int .i64 ((rd_T40 t385 0).f1), .int .i64 ((rd_T40 t385 0).f2), .int .i64 ((rd_T40 t385 0).f3)] 40 (0, 0)) (by (with_reducible repeat (first | refine blk_drewN ?_ _ | refine blk_drew ?_ | refine blk_alloc ?_ _)); exact BK397.out)) : gb397 ≠ gb409)); have n8_ := Aside0.mk ((by rw [hg]; exact Nat.ne_of_gt (blk_lt (g := gb397) (o := .cells #[.int .i64 ((rd_T40 t385 0).f0), .int .i64 ((rd_T40 t385 0).f1), .int .i64 ((rd_T40 t385 0).f2), .int .i64 ((rd_T40 t385 0).f3)] 40 (0, 0)) (by (with_reducible repeat (first | refine blk_drewN ?_ _ | refine blk_drew ?_ | refine blk_alloc ?_ _)); exact BK397.out)) : gb409 ≠ gb397)); have n9_ := Aside0.mk ((by rw [hg]; exact Nat.ne_of_lt (blk_lt (g := gb404) (o := .cells #[.int .i64 t399, .int .i64 t400, .int .i64 t401, .int .i64 t402] 25 (0, 0)) (by (with_reducible repeat (first | refine blk_drewN ?_ _ | refine blk_drew ?_ | refine blk_alloc ?_ _)); exact BK404.out)) : gb404 ≠ gb409)); have n10_ := Aside0.mk ((by rw [hg]; exact Nat.ne_of_gt (blk_lt (g := gb404) (o := .cells #[.int .i64 t399, .int .i64 t400, .int .i64 t401, .int .i64 t402] 25 (0, 0)) (by (with_reducible repeat (first | refine blk_drewN ?_ _ | refine blk_drew ?_ | refine blk_alloc ?_ _)); exact BK404.out)) : gb409 ≠ gb404)); clear HO_4; clear BK397; clear BK404; clear HB; have HO_4 := n0_; have BK397 := n1_; have BK404 := n2_; have HB := n3_; have BK409 := n4_; have GW409 := n5_; have GE409 := n6_; have NB397_409 := n7_; have NB409_397 := n8_; have NB404_409 := n9_; have NB409_404 := n10_; clear n0_ n1_ n2_ n3_ n4_ n5_ n6_ n7_ n8_ n9_ n10_; clear hb hbox hg; have hnb117 := NB409_397.out; have hnc117 := NB397_409.out; have hnb118 := NB409_404.out; have hnc118 := NB404_409.out; have hcz119_0 : w116.cell? ⟨gb409, 0, none⟩ = some (.int .i64 0) := (blk_cell BK409.out 0).trans rfl; have hcz119_1 : w116.cell? ⟨gb409, 1, none⟩ = some (.int .i64 0) := (blk_cell BK409.out 1).trans rfl; have hcz119_2 : w116.cell? ⟨gb409, 2, none⟩ = some (.int .i64 0) := (blk_cell BK409.out 2).trans rfl; have hcz119_3 : w116.cell? ⟨gb409, 3, none⟩ = some (.int .i64 0) := (blk_cell BK409.out 3).trans rfl; have hfz119_0 := blk_frozen BK409.out 0; have hfz119_1 := blk_frozen BK409.out 1; have hfz119_2 := blk_frozen BK409.out 2; have hfz119_3 := blk_frozen BK409.out 3; have hcz120_0 : w116.cell? ⟨gb397, 0, none⟩ = some (.int .i64 ((rd_T40 t385 0).f0)) := (blk_cell BK397.out 0).trans rfl; have hcz120_1 : w116.cell? ⟨gb397, 1, none⟩ = some (.int .i64 ((rd_T40 t385 0).f1)) := (blk_cell BK397.out 1).trans rfl; have hcz120_2 : w116.cell? ⟨gb397, 2, none⟩ = some (.int .i64 ((rd_T40 t385 0).f2)) := (blk_cell BK397.out 2).trans rfl; have hcz120_3 : w116.cell? ⟨gb397, 3, none⟩ = some (.int .i64 ((rd_T40 t385 0).f3)) := (blk_cell BK397.out 3).trans rfl; have hfz120_0 := blk_frozen BK397.out 0; have hfz120_1 := blk_frozen BK397.out 1; have hfz120_2 := blk_frozen BK397.out 2; have hfz120_3 := blk_frozen BK397.out 3) | (go_at_call 32; (with_reducible refine (impl_Proven.calls kj80 _ _ t385 ((rd_T40 t385 0).f0) ((rd_T40 t385 0).f1) ((rd_T40 t385 0).f2) (Go.bits .or .i64 t398 64) 64 false _ ?side1 ?side2 A101.out).mono ?_); (case side1 => refine (Kd.R_reads' (e := 40) (base := w.heap.size) (ok := fun k_ => k_ ≠ gb397) (n := t385.length) (c := co35) ?_).2.2; exact (by (with_reducible repeat (first | apply Kd.R_alloc | apply Kd.R_drewN | apply Kd.R_drew)); exact (Kd.R_mono (Kd.R_far (p := ⟨gb409, 3, none⟩) (Kd.R_far (p := ⟨gb409, 2, none⟩) (Kd.R_far (p := ⟨gb409, 1, none⟩) (Kd.R_far (p := ⟨gb409, 0, none⟩) (Kd.R_types HO_4.out BK409.out (by decide)) (fun _ hk => hk.2) (.int .i64 ((rd_T40 t385 0).f0))) (fun _ hk => hk.2) (.int .i64 ((rd_T40 t385 0).f1))) (fun _ hk => hk.2) (.int .i64 ((rd_T40 t385 0).f2))) (fun _ hk => hk.2) (.int .i64 (Go.bits .or .i64 t398 64))) (fun _ h_ => h_.1)))); (case side2 => exact (Kd.R_reads' HO_4.out).2.1); rintro e w121 ⟨rfl, hb⟩; have n0_ := Aside0.mk (Kd.R_below (by (with_reducible repeat (first | apply Kd.R_alloc | apply Kd.R_drewN | apply Kd.R_drew)); exact (Kd.R_mono (Kd.R_far (p := ⟨gb409, 3, none⟩) (Kd.R_far (p := ⟨gb409, 2, none⟩) (Kd.R_far (p := ⟨gb409, 1, none⟩) (Kd.R_far (p := ⟨gb409, 0, none⟩) (Kd.R_types HO_4.out BK409.out (by decide)) (fun _ hk => hk.2) (.int .i64 ((rd_T40 t385 0).f0))) (fun _ hk => hk.2) (.int .i64 ((rd_T40 t385 0).f1))) (fun _ hk => hk.2) (.int .i64 ((rd_T40 t385 0).f2))) (fun _ hk => hk.2) (.int .i64 (Go.bits .or .i64 t398 64))) (fun _ h_ => h_.1))) hb); have n1_ := Aside0.mk (blk_below (g := gb397) (o := .cells #[.int .i64 ((rd_T40 t385 0).f0), .int .i64 ((rd_T40 t385 0).f1), .int .i64 ((rd_T40 t385 0).f2), .int .i64 ((rd_T40 t385 0).f3)] 40 (0, 0)) (by (with_reducible repeat (first | refine blk_drewN ?_ _ | refine blk_drew ?_ | refine blk_alloc ?_ _)); refine blk_far ?_ NB397_409.out _; (with_reducible repeat (first | refine blk_drewN ?_ _ | refine blk_drew ?_ | refine blk_alloc ?_ _)); refine blk_far ?_ NB397_409.out _; (with_reducible repeat (first | refine blk_drewN ?_ _ | refine blk_drew ?_ | refine blk_alloc ?_ _)); refine blk_far ?_ NB397_409.out _; (with_reducible repeat (first | refine blk_drewN ?_ _ | refine blk_drew ?_ | refine blk_alloc ?_ _)); refine blk_far ?_ NB397_409.out _; (with_reducible repeat (first | refine blk_drewN ?_ _ | refine blk_drew ?_ | refine blk_alloc ?_ _)); exact BK397.out) hb); have n2_ := Aside0.mk (blk_below (g := gb404) (o := .cells #[.int .i64 t399, .int .i64 t400, .int .i64 t401, .int .i64 t402] 25 (0, 0)) (by (with_reducible repeat (first | refine blk_drewN ?_ _ | refine blk_drew ?_ | refine blk_alloc ?_ _)); refine blk_far ?_ NB404_409.out _; (with_reducible repeat (first | refine blk_drewN ?_ _ | refine blk_drew ?_ | refine blk_alloc ?_ _)); refine blk_far ?_ NB404_409.out _; (with_reducible repeat (first | refine blk_drewN ?_ _ | refine blk_drew ?_ | refine blk_alloc ?_ _)); refine blk_far ?_ NB404_409.out _; (with_reducible repeat (first | refine blk_drewN ?_ _ | refine blk_drew ?_ | refine blk_alloc ?_ _)); refine blk_far ?_ NB404_409.out _; (with_reducible repeat (first | refine blk_drewN ?_ _ | refine blk_drew ?_ | refine blk_alloc ?_ _)); exact BK404.out) hb); have n3_ := Aside0.mk (blk_below (g := gb409) (o := .cells #[.int .i64 ((rd_T40 t385 0).f0), .int .i64 ((rd_T40 t385 0).f1), .int .i64 ((rd_T40 t385 0).f2), .int .i64 (Go.bits .or .i64 t398 64)] 25 (0, 0)) (by (with_reducible repeat (first | refine blk_drewN ?_ _ | refine blk_drew ?_ | refine blk_alloc ?_ _)); refine blk_put (cs := #[.int .i64 ((rd_T40 t385 0).f0), .int .i64 ((rd_T40 t385 0).f1), .int .i64 ((rd_T40 t385 0).f2), .int .i64 0]) ?_ 3 _ rfl; (with_reducible repeat (first | refine blk_drewN ?_ _ | refine blk_drew ?_ | refine blk_alloc ?_ _)); refine blk_put (cs := #[.int .i64 ((rd_T40 t385 0).f0), .int .i64 ((rd_T40 t385 0).f1), .int .i64 0, .int .i64 0]) ?_ 2 _ rfl; (with_reducible repeat (first | refine blk_drewN ?_ _ | refine blk_drew ?_ | refine blk_alloc ?_ _)); refine blk_put (cs := #[.int .i64 ((rd_T40 t385 0).f0), .int .i64 0, .int .i64 0, .int .i64 0]) ?_ 1 _ rfl; (with_reducible repeat (first | refine blk_drewN ?_ _ | refine blk_drew ?_ | refine blk_alloc ?_ _)); refine blk_put (cs := #[.int .i64 0, .int .i64 0, .int .i64 0, .int .i64 0]) ?_ 0 _ rfl; (with_reducible repeat (first | refine blk_drewN ?_ _ | refine blk_drew ?_ | refine blk_alloc ?_ _)); exact BK409.out) hb); have n4_ := Aside0.mk (below_step (by repeat (first | (with_reducible first | exact HB.out | apply below_alloc | apply pw_below_drewN | apply below_drew1 | refine below_set ?_ GE397.out | refine below_set ?_ GE404.out | refine below_set ?_ GE409.out) | exact HB.out)) hb); clear HO_4; clear BK397; clear BK404; clear BK409; clear HB; have HO_4 := n0_; have BK397 := n1_; have BK404 := n2_; have BK409 := n3_; have HB := n4_; clear n0_ n1_ n2_ n3_ n4_; (try clear hb); (try clear hb2); (try clear hk); (try clear hi)))
                        go_ret
                        exact ⟨by first | rfl | (simp [errW_none, errW_some] <;> rfl) | (simp [*, errW_none, errW_some] <;> rfl), by repeat (first | (with_reducible first | exact HB.out | apply below_alloc | apply pw_below_drewN | apply below_drew1 | refine below_set ?_ GE397.out | refine below_set ?_ GE404.out | refine below_set ?_ GE409.out) | exact HB.out)⟩
      · rw [if_neg c31] at H
        exact absurd H (by simp)

/-- THE ONE PURE STATEMENT of laws_FnCerts: yours. -/
def laws_FnCerts.Pure : Prop := ∀ (l0 : List Int), l0.length ≤ maxLen → l0.length * 1 ≤ 140737488351232 → (∀ x ∈ l0, (Lit.int .u8 x).wf = true) → ∃ k, laws_FnCerts.f k l0 = some true
theorem laws_FnCerts.walk (P : laws_FnCerts.Pure) (a0 : Option Addr) (len0 cap0 : Nat) (z0 : List Int) (w : World) (w0 : (a0 = none ∧ len0 = 0 ∧ cap0 = 0 ∧ z0 = []) ∨ ∃ x, a0 = some x ∧ len0 ≤ cap0 ∧ cap0 ≤ maxLen ∧ z0.length = cap0 ∧ (∀ i, i < z0.length → w.cell? (x.add i) = some (.int .u8 (z0.getD i 0))) ∧ ∀ n ∈ z0, (Lit.int .u8 n).wf = true) (y0 : len0 * 1 ≤ 140737488351232) :
    Calls Try.prog 6 #[.slice a0 len0 cap0] w fun e w' => e = .returned (.bool true) ∧ Below w.heap.size w w' := by
  obtain ⟨l0, rfl, hr0, hm0, hw0, hc0⟩ := ReadsInt.ofRowC w0
  obtain ⟨k, h⟩ := P l0 hm0 y0 hw0
  refine (laws_FnCerts.calls k _ _ l0 true w (Kd.C_of_reads (d := (0 : Int)) (h1 := fun _ => rfl) hr0) hc0 h).mono ?_
  rintro e w' ⟨rfl, hd⟩
  exact ⟨rfl, hd⟩

end Go.Proofs.Ytmcopcpeacikmaa.QFnCerts
