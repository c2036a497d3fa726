-- Written by a program of this session, for this claim.
import Derived.Test.YtmcopcpeacikmaaQFnExactTreeOkx0
import Derived.Test.YtmcopcpeacikmaaQFnExactTreeOkx10
import Derived.Test.YtmcopcpeacikmaaQFnExactTreeOkx11
import Derived.Test.YtmcopcpeacikmaaQFnExactTreeOkx12
namespace Go.Proofs.Ytmcopcpeacikmaa.QFnExactTreeOk
open Go.RowKit Go.Proofs.YtmcopcpeacikmaaW.PrintWords Go.Proofs.YtmcopcpeacikmaaW.PrintLast Go.Proofs.YtmcopcpeacikmaaW.PrintMore
attribute [local go_sem] max2_int min2_int max_two min_two max_three min_three max_four min_four   -- for this text's walks alone
set_option linter.unusedVariables false
set_option linter.unusedSimpArgs false

/-! ### impl_TreeOk: function 57 -/
mutual
def impl_TreeOk.j0 : Nat → List (S63) → Bool → Option (Bool)
  | 0, _, _ => none
  | k + 1, x0, x16 => if x16 = true then (some false) else (impl_TreeOk.l0 k x0 x0 (x0.length : Int) 0)
def impl_TreeOk.l0 : Nat → List (S63) → List (S63) → Int → Int → Option (Bool)
  | 0, _, _, _, _ => none
  | k + 1, x0, x17, x18, x19 => if x19 < x18 then (if 0 ≤ x19 then (if x19 < (x17.length : Int) then (if x19 > 0 then (if x19 ≤ (x0.length : Int) then ((impl_BlockOk.f k (x0.take (x19 : Int).toNat) ((rd_T63 x17 x19).f0) ((rd_T63 x17 x19).f1) ((rd_T63 x17 x19).f2) ((rd_T63 x17 x19).f3.f0) ((rd_T63 x17 x19).f3.f1) ((rd_T63 x17 x19).f3.f2) ((rd_T63 x17 x19).f3.f3)).bind fun t234 => (if t234 = true then ((impl_BlockAt.f k x0 ((rd_T63 x17 x19).f0) ((rd_T63 x17 x19).f1) ((rd_T63 x17 x19).f2) ((rd_T63 x17 x19).f3.f0) ((rd_T63 x17 x19).f3.f1) ((rd_T63 x17 x19).f3.f2) ((rd_T63 x17 x19).f3.f3)).bind fun t235 => (if t235 = x19 then (impl_TreeOk.l0 k x0 x17 x18 (wrap64 (x19 + 1))) else (some false))) else (some false))) else (none)) else ((impl_BlockAt.f k x0 ((rd_T63 x17 x19).f0) ((rd_T63 x17 x19).f1) ((rd_T63 x17 x19).f2) ((rd_T63 x17 x19).f3.f0) ((rd_T63 x17 x19).f3.f1) ((rd_T63 x17 x19).f3.f2) ((rd_T63 x17 x19).f3.f3)).bind fun t236 => (if t236 = x19 then (impl_TreeOk.l0 k x0 x17 x18 (wrap64 (x19 + 1))) else (some false)))) else (none)) else (none)) else (some true)
end
def impl_TreeOk.f (k : Nat) (l0 : List (S63)) : Option (Bool) := (impl_in.f (l0.length : Int) 1 60).bind fun t216 => (if t216 = true then (if 0 < (l0.length : Int) then ((impl_FirstBlock.f).bind fun bt218 => ((impl_SameBlock.f k ((rd_T63 l0 0).f0) ((rd_T63 l0 0).f1) ((rd_T63 l0 0).f2) ((rd_T63 l0 0).f3.f0) ((rd_T63 l0 0).f3.f1) ((rd_T63 l0 0).f3.f2) ((rd_T63 l0 0).f3.f3) bt218.1 bt218.2.1 bt218.2.2.1 bt218.2.2.2.1 bt218.2.2.2.2.1 bt218.2.2.2.2.2.1 bt218.2.2.2.2.2.2).bind fun t227 => (impl_TreeOk.j0 k l0 (!t227)))) else (none)) else (impl_TreeOk.j0 k l0 true))
theorem impl_TreeOk.mono_l : ∀ k, (∀ y0 y1, LeO (impl_TreeOk.j0 k y0 y1) (impl_TreeOk.j0 (k + 1) y0 y1)) ∧ (∀ y0 y1 y2 y3, LeO (impl_TreeOk.l0 k y0 y1 y2 y3) (impl_TreeOk.l0 (k + 1) y0 y1 y2 y3))
  | 0 => ⟨fun _ _ r h => by simp [impl_TreeOk.j0] at h, fun _ _ _ _ r h => by simp [impl_TreeOk.l0] at h⟩
  | k + 1 => by
    obtain ⟨ih0, ih1⟩ := impl_TreeOk.mono_l k
    refine ⟨?_, ?_⟩
    · intro y0 y1
      unfold impl_TreeOk.j0
      repeat' first
      | (with_reducible exact ih0 _ _)
      | (with_reducible exact ih1 _ _ _ _)
      | (with_reducible exact impl_BlockAt.mono _ _ _ _ _ _ _ _ _)
      | (with_reducible exact impl_BlockOk.mono _ _ _ _ _ _ _ _ _)
      | (with_reducible exact impl_SameBlock.mono _ _ _ _ _ _ _ _ _ _ _ _ _ _ _)
      | (with_reducible exact LeO.refl _)
      | (with_reducible exact LeO.none _)
      | (with_reducible refine LeO.ite ?_ ?_)
      | (with_reducible refine LeO.bind ?_ (fun _ => ?_))
      | exact ih0 _ _
      | exact ih1 _ _ _ _
      | exact impl_BlockAt.mono _ _ _ _ _ _ _ _ _
      | exact impl_BlockOk.mono _ _ _ _ _ _ _ _ _
      | exact impl_SameBlock.mono _ _ _ _ _ _ _ _ _ _ _ _ _ _ _
      | exact LeO.none _
      | refine LeO.ite ?_ ?_
      | refine LeO.bind ?_ (fun _ => ?_)
    · intro y0 y1 y2 y3
      unfold impl_TreeOk.l0
      repeat' first
      | (with_reducible exact ih0 _ _)
      | (with_reducible exact ih1 _ _ _ _)
      | (with_reducible exact impl_BlockAt.mono _ _ _ _ _ _ _ _ _)
      | (with_reducible exact impl_BlockOk.mono _ _ _ _ _ _ _ _ _)
      | (with_reducible exact impl_SameBlock.mono _ _ _ _ _ _ _ _ _ _ _ _ _ _ _)
      | (with_reducible exact LeO.refl _)
      | (with_reducible exact LeO.none _)
      | (with_reducible refine LeO.ite ?_ ?_)
      | (with_reducible refine LeO.bind ?_ (fun _ => ?_))
      | exact ih0 _ _
      | exact ih1 _ _ _ _
      | exact impl_BlockAt.mono _ _ _ _ _ _ _ _ _
      | exact impl_BlockOk.mono _ _ _ _ _ _ _ _ _
      | exact impl_SameBlock.mono _ _ _ _ _ _ _ _ _ _ _ _ _ _ _
      | exact LeO.none _
      | refine LeO.ite ?_ ?_
      | refine LeO.bind ?_ (fun _ => ?_)
theorem impl_TreeOk.mono : ∀ a0 k, LeO (impl_TreeOk.f k a0) (impl_TreeOk.f (k + 1) a0) := by
  intro a0 k
  obtain ⟨ih0, ih1⟩ := impl_TreeOk.mono_l k
  unfold impl_TreeOk.f
  repeat' first
      | (with_reducible exact ih0 _ _)
      | (with_reducible exact ih1 _ _ _ _)
      | (with_reducible exact impl_BlockAt.mono _ _ _ _ _ _ _ _ _)
      | (with_reducible exact impl_BlockOk.mono _ _ _ _ _ _ _ _ _)
      | (with_reducible exact impl_SameBlock.mono _ _ _ _ _ _ _ _ _ _ _ _ _ _ _)
      | (with_reducible exact LeO.refl _)
      | (with_reducible exact LeO.none _)
      | (with_reducible refine LeO.ite ?_ ?_)
      | (with_reducible refine LeO.bind ?_ (fun _ => ?_))
      | exact ih0 _ _
      | exact ih1 _ _ _ _
      | exact impl_BlockAt.mono _ _ _ _ _ _ _ _ _
      | exact impl_BlockOk.mono _ _ _ _ _ _ _ _ _
      | exact impl_SameBlock.mono _ _ _ _ _ _ _ _ _ _ _ _ _ _ _
      | exact LeO.none _
      | refine LeO.ite ?_ ?_
      | refine LeO.bind ?_ (fun _ => ?_)
def impl_TreeOk.T1 : Bool × List (List Nat × List Nat) := (true, [([], []), ([0], [0]), ([1], [1]), ([2], [2]), ([3, 2], [3]), ([4], [4]), ([5, 4], [4, 5]), ([6, 4], [4, 6]), ([4, 4], [4]), ([7, 8, 8, 4], [4, 7, 8]), ([9, 4], [4, 9]), ([4, 10], [4, 10])])
def impl_TreeOk.B1 : List Nat := [0, 1, 3, 7, 15, 31, 63, 127, 31, 511, 1023, 2047]
theorem impl_TreeOk.tab1 : rtab .any (opsOf Try.f57 1) = impl_TreeOk.T1 := by kernel_rfl
theorem impl_TreeOk.bits1 : waitsOk impl_TreeOk.T1.2 impl_TreeOk.B1 = true := by kernel_rfl
def impl_TreeOk.T6 : Bool × List (List Nat × List Nat) := (true, [([], []), ([0], [0]), ([1], [1]), ([2], [2]), ([2], [2]), ([3, 4, 2], [2, 3, 4]), ([2], [2]), ([5, 6, 2, 2], [2, 5, 6]), ([7, 2], [2, 7]), ([2, 8], [2, 8]), ([9, 7], [9]), ([10], [10]), ([10], [10]), ([11, 12, 10, 10], [10, 11, 12]), ([10], [10]), ([13, 14, 10], [10, 13, 14]), ([10, 15], [10, 15])])
def impl_TreeOk.B6 : List Nat := [0, 1, 3, 7, 7, 31, 7, 127, 255, 511, 1023, 2047, 2047, 8191, 2047, 32767, 65535]
theorem impl_TreeOk.tab6 : rtab .any (opsOf Try.f57 6) = impl_TreeOk.T6 := by kernel_rfl
theorem impl_TreeOk.bits6 : waitsOk impl_TreeOk.T6.2 impl_TreeOk.B6 = true := by kernel_rfl
set_option maxHeartbeats 8000000 in
set_option maxRecDepth 100000 in
theorem impl_TreeOk.calls (k : Nat) (A0 : Option Addr) (c0 : Nat) (l0 : List (S63)) (r : Bool) (w : World) (hr0 : Kd.C k63 w A0 l0.length l0) (hc0 : l0.length ≤ c0) (h : impl_TreeOk.f k l0 = some r) :
    Calls Try.prog 57 #[.slice A0 l0.length c0] w fun e w' => e = .returned (.bool r) ∧ Below w.heap.size w w' := by
  have hu63 := Try.underlying63
  have HR0 := Aside0.mk hr0
  have HC0 := Aside0.mk hc0
  clear hr0 hc0
  have HB := Aside0.mk (Below.refl w.heap.size w)
  have H : ((impl_in.f (l0.length : Int) 1 60).bind fun t216 => (if t216 = true then (if 0 < (l0.length : Int) then ((impl_FirstBlock.f).bind fun bt218 => ((impl_SameBlock.f k ((rd_T63 l0 0).f0) ((rd_T63 l0 0).f1) ((rd_T63 l0 0).f2) ((rd_T63 l0 0).f3.f0) ((rd_T63 l0 0).f3.f1) ((rd_T63 l0 0).f3.f2) ((rd_T63 l0 0).f3.f3) bt218.1 bt218.2.1 bt218.2.2.1 bt218.2.2.2.1 bt218.2.2.2.2.1 bt218.2.2.2.2.2.1 bt218.2.2.2.2.2.2).bind fun t227 => (impl_TreeOk.j0 k l0 (!t227)))) else (none)) else (impl_TreeOk.j0 k l0 true))) = some r := h
  clear h
  have HC2 := Aside0.mk H
  clear H
  go_enter Try.func57, Try.ntmps57
  go_upto_region 1 with (fail)
  go_cut [16] (fun v16 wc => ∃ (kq : Nat) (x16_1 : Bool), v16 = .bool x16_1 ∧ Aside0 (impl_TreeOk.j0 kq l0 x16_1 = some r) ∧ Aside0 (kq ≤ k) ∧ Aside0 (Below w.heap.size w wc))
  case first =>
    have H := HC2.out
    clear HC2
    replace H := Option.bind_eq_some_iff.mp H
    obtain ⟨t216, A30, H⟩ := H
    replace H : (if t216 = true then (if 0 < (l0.length : Int) then ((impl_FirstBlock.f).bind fun bt218 => ((impl_SameBlock.f k ((rd_T63 l0 0).f0) ((rd_T63 l0 0).f1) ((rd_T63 l0 0).f2) ((rd_T63 l0 0).f3.f0) ((rd_T63 l0 0).f3.f1) ((rd_T63 l0 0).f3.f2) ((rd_T63 l0 0).f3.f3) bt218.1 bt218.2.1 bt218.2.2.1 bt218.2.2.2.1 bt218.2.2.2.2.1 bt218.2.2.2.2.2.1 bt218.2.2.2.2.2.2).bind fun t227 => (impl_TreeOk.j0 k l0 (!t227)))) else (none)) else (impl_TreeOk.j0 k l0 true)) = some r := H
    have A3 := Aside0.mk A30
    clear A30
    by_cases c4 : t216 = true
    · subst c4
      have H1 : (if 0 < (l0.length : Int) then ((impl_FirstBlock.f).bind fun bt218 => ((impl_SameBlock.f k ((rd_T63 l0 0).f0) ((rd_T63 l0 0).f1) ((rd_T63 l0 0).f2) ((rd_T63 l0 0).f3.f0) ((rd_T63 l0 0).f3.f1) ((rd_T63 l0 0).f3.f2) ((rd_T63 l0 0).f3.f3) bt218.1 bt218.2.1 bt218.2.2.1 bt218.2.2.2.1 bt218.2.2.2.2.1 bt218.2.2.2.2.2.1 bt218.2.2.2.2.2.2).bind fun t227 => (impl_TreeOk.j0 k l0 (!t227)))) else (none)) = some r := by rw [if_pos rfl] at H; exact H
      clear H
      have H := H1
      clear H1
      by_cases c5 : 0 < (l0.length : Int)
      · rw [if_pos c5] at H
        have c5b0 : decide (0 < (l0.length : Int)) = true := decide_eq_true c5
        have c5b1 : decide (0 < l0.length) = true := decide_eq_true (by omega)
        clear c5
        (first | rw [c5b0] | (simp only [i64_w, i32_w]; rw [c5b0]) | skip)
        replace H := Option.bind_eq_some_iff.mp H
        obtain ⟨⟨t218, t219, t220, t223, t224, t225, t226⟩, A60, H⟩ := H
        replace H : ((impl_SameBlock.f k ((rd_T63 l0 0).f0) ((rd_T63 l0 0).f1) ((rd_T63 l0 0).f2) ((rd_T63 l0 0).f3.f0) ((rd_T63 l0 0).f3.f1) ((rd_T63 l0 0).f3.f2) ((rd_T63 l0 0).f3.f3) t218 t219 t220 t223 t224 t225 t226).bind fun t227 => (impl_TreeOk.j0 k l0 (!t227))) = some r := H
        have A6 := Aside0.mk A60
        clear A60
        replace H := Option.bind_eq_some_iff.mp H
        obtain ⟨t227, A70, H⟩ := H
        replace H : (impl_TreeOk.j0 k l0 (!t227)) = some r := H
        have A7 := Aside0.mk A70
        clear A70
        have H' := Aside0.mk H
        clear H
        try go_wp2
        have n0_ := Aside0.mk (below_drew1 HB.out)
        clear HB
        have HB := n0_
        clear n0_
        have p217 : 0 ≤ (0 : Int) := (by omega)
        have q217 : 0 < (l0.length : Int) := of_decide_eq_true (by first | (with_reducible assumption) | assumption)
        obtain ⟨ad217, A217_2, c217_2, e217, hx217_0, hx217_1, hx217_2, hx217_3, hx217_4, hx217_5, hx217_6, hl217_2, hi217_2⟩ := at_T63 HR0.out 0 p217 q217
        have hw217_6 := hx217_6
        (try rw [show ((0 : Int)).toNat = 0 from rfl] at hw217_6)
        (try rw [show 0 * 7 = 0 from rfl] at hw217_6)
        (try rw [Addr.add_zero'] at hw217_6)
        have hw217_5 := hx217_5
        (try rw [show ((0 : Int)).toNat = 0 from rfl] at hw217_5)
        (try rw [show 0 * 7 = 0 from rfl] at hw217_5)
        (try rw [Addr.add_zero'] at hw217_5)
        have hw217_4 := hx217_4
        (try rw [show ((0 : Int)).toNat = 0 from rfl] at hw217_4)
        (try rw [show 0 * 7 = 0 from rfl] at hw217_4)
        (try rw [Addr.add_zero'] at hw217_4)
        have hw217_3 := hx217_3
        (try rw [show ((0 : Int)).toNat = 0 from rfl] at hw217_3)
        (try rw [show 0 * 7 = 0 from rfl] at hw217_3)
        (try rw [Addr.add_zero'] at hw217_3)
        have hw217_2 := hx217_2
        (try rw [show ((0 : Int)).toNat = 0 from rfl] at hw217_2)
        (try rw [show 0 * 7 = 0 from rfl] at hw217_2)
        (try rw [Addr.add_zero'] at hw217_2)
        have hw217_1 := hx217_1
        (try rw [show ((0 : Int)).toNat = 0 from rfl] at hw217_1)
        (try rw [show 0 * 7 = 0 from rfl] at hw217_1)
        (try rw [Addr.add_zero'] at hw217_1)
        have hw217_0 := hx217_0
        (try rw [show ((0 : Int)).toNat = 0 from rfl] at hw217_0)
        (try rw [show 0 * 7 = 0 from rfl] at hw217_0)
        (try rw [Addr.add_zero'] at hw217_0)
        cases e217
        have qi217 : (0 < l0.length) = True := eq_true (by omega)
        (try rw [show ((0 : Int)).toNat = 0 from rfl] at hx217_0)
        (try rw [show 0 * 7 = 0 from rfl] at hx217_0)
        (try rw [Addr.add_zero'] at hx217_0)
        (try rw [show ((0 : Int)).toNat = 0 from rfl] at hx217_1)
        (try rw [show 0 * 7 = 0 from rfl] at hx217_1)
        (try rw [Addr.add_zero'] at hx217_1)
        (try rw [show ((0 : Int)).toNat = 0 from rfl] at hx217_2)
        (try rw [show 0 * 7 = 0 from rfl] at hx217_2)
        (try rw [Addr.add_zero'] at hx217_2)
        (try rw [show ((0 : Int)).toNat = 0 from rfl] at hx217_3)
        (try rw [show 0 * 7 = 0 from rfl] at hx217_3)
        (try rw [Addr.add_zero'] at hx217_3)
        (try rw [show ((0 : Int)).toNat = 0 from rfl] at hx217_4)
        (try rw [show 0 * 7 = 0 from rfl] at hx217_4)
        (try rw [Addr.add_zero'] at hx217_4)
        (try rw [show ((0 : Int)).toNat = 0 from rfl] at hx217_5)
        (try rw [show 0 * 7 = 0 from rfl] at hx217_5)
        (try rw [Addr.add_zero'] at hx217_5)
        (try rw [show ((0 : Int)).toNat = 0 from rfl] at hx217_6)
        (try rw [show 0 * 7 = 0 from rfl] at hx217_6)
        (try rw [Addr.add_zero'] at hx217_6)
        replace hx217_0 := (HB.out.cell (World.block_lt_of_cell? w _ hx217_0)).trans hx217_0
        replace hx217_1 := (HB.out.cell (World.block_lt_of_cell? w _ hx217_1)).trans hx217_1
        replace hx217_2 := (HB.out.cell (World.block_lt_of_cell? w _ hx217_2)).trans hx217_2
        replace hx217_3 := (HB.out.cell (World.block_lt_of_cell? w _ hx217_3)).trans hx217_3
        replace hx217_4 := (HB.out.cell (World.block_lt_of_cell? w _ hx217_4)).trans hx217_4
        replace hx217_5 := (HB.out.cell (World.block_lt_of_cell? w _ hx217_5)).trans hx217_5
        replace hx217_6 := (HB.out.cell (World.block_lt_of_cell? w _ hx217_6)).trans hx217_6
        have HR217_2 := Aside0.mk hi217_2
        have HC217_2 := Aside0.mk hl217_2
        clear hi217_2 hl217_2
        replace p217 := eq_true p217
        replace q217 := eq_true q217
        refine start_ (n := 12) (S := fun w' => w'.cell? ad217 = some (.int .i64 ((rd_T63 l0 0).f0)) ∧ w'.cell? ⟨ad217.block, ad217.off + 1, none⟩ = some (.int .i64 ((rd_T63 l0 0).f1)) ∧ w'.cell? ⟨ad217.block, ad217.off + 2, none⟩ = some (.slice A217_2 ((rd_T63 l0 0).f2).length c217_2) ∧ w'.cell? ⟨ad217.block, ad217.off + 3, none⟩ = some (.int .i64 ((rd_T63 l0 0).f3.f0)) ∧ w'.cell? ⟨ad217.block, ad217.off + 4, none⟩ = some (.int .i64 ((rd_T63 l0 0).f3.f1)) ∧ w'.cell? ⟨ad217.block, ad217.off + 5, none⟩ = some (.int .i64 ((rd_T63 l0 0).f3.f2)) ∧ w'.cell? ⟨ad217.block, ad217.off + 6, none⟩ = some (.int .i64 ((rd_T63 l0 0).f3.f3))) (ds := []) #[false, false, false, false, false, false, false, false, false, false, false, false] (by kernel_rfl) rfl rfl ⟨((HB.out.cell (World.block_lt_of_cell? w _ hw217_0)).trans hw217_0), ((HB.out.cell (World.block_lt_of_cell? w _ hw217_1)).trans hw217_1), ((HB.out.cell (World.block_lt_of_cell? w _ hw217_2)).trans hw217_2), ((HB.out.cell (World.block_lt_of_cell? w _ hw217_3)).trans hw217_3), ((HB.out.cell (World.block_lt_of_cell? w _ hw217_4)).trans hw217_4), ((HB.out.cell (World.block_lt_of_cell? w _ hw217_5)).trans hw217_5), ((HB.out.cell (World.block_lt_of_cell? w _ hw217_6)).trans hw217_6)⟩ (fun hHeld => ?_); refine with_tabW impl_TreeOk.tab1 impl_TreeOk.bits1 (fun HT_ HW_ => ?_)
        generalize w.drew = w8 at HB HR217_2 hx217_0 hx217_1 hx217_2 hx217_3 hx217_4 hx217_5 hx217_6 hHeld ⊢
        refine pure_ (i := 0) (N := some 5) (v := ?_) (a' := ?_) #[true, false, false, false, false, false, false, false, false, false, false, false] rfl rfl (any_of HT_.out (by kernel_rfl)) (fun _ _ _ h => h) (Or.inl ⟨by rfl, ?_⟩) ?_ ?_
        rotate_left
        · intro w'
          go_simp
          with_reducible rfl
        rotate_left
        · simp only [Act.put, List.setIfInBounds_toArray, List.set_cons_zero, List.set_cons_succ, i64_w, i32_w]
          rfl
        refine pure_ (i := 1) (N := some 6) (v := ?_) (a' := ?_) #[true, true, false, false, false, false, false, false, false, false, false, false] rfl rfl (any_of HT_.out (by kernel_rfl)) (fun _ _ _ h => h) (Or.inl ⟨by rfl, ?_⟩) ?_ ?_
        rotate_left
        · intro w'
          go_simp
          with_reducible rfl
        rotate_left
        · simp only [Act.put, List.setIfInBounds_toArray, List.set_cons_zero, List.set_cons_succ, i64_w, i32_w]
          rfl
        refine one_ (i := 2) (N := some 7) #[true, true, true, false, false, false, false, false, false, false, false, false] rfl rfl (one_of HT_.out (by kernel_rfl)) (by decide) (fun K hK => ?_)
        refine goes_ Try.func64 (by kernel_rfl) rfl #[.int .i64 (l0.length : Int), .int .i64 1, .int .i64 60] (by rfl) rfl rfl (by (try simp only [List.map_toArray, List.map_cons, List.map_nil]); first | done | rfl | (simp only [List.length_drop, List.length_take]; rfl)) ?_
        with_reducible refine (impl_in.calls (l0.length : Int) 1 60 true _ A3.out).mono ?_
        rintro e w' ⟨rfl, ⟨nd, rfl⟩⟩
        refine ⟨_, rfl, ?_⟩
        refine hK.out _ _ ⟨((HB.out.cell (World.block_lt_of_cell? w _ hw217_0)).trans hw217_0), ((HB.out.cell (World.block_lt_of_cell? w _ hw217_1)).trans hw217_1), ((HB.out.cell (World.block_lt_of_cell? w _ hw217_2)).trans hw217_2), ((HB.out.cell (World.block_lt_of_cell? w _ hw217_3)).trans hw217_3), ((HB.out.cell (World.block_lt_of_cell? w _ hw217_4)).trans hw217_4), ((HB.out.cell (World.block_lt_of_cell? w _ hw217_5)).trans hw217_5), ((HB.out.cell (World.block_lt_of_cell? w _ hw217_6)).trans hw217_6)⟩ (fun hHeld => ?_)
        clear hK K
        refine norm_ (a' := ?_) ?_ ?_
        rotate_left
        · show Act.put _ (some 7) _ = _
          simp only [Act.put, List.setIfInBounds_toArray, List.set_cons_zero, List.set_cons_succ, i64_w, i32_w]
          rfl
        refine pure_ (i := 3) (N := some 8) (v := ?_) (a' := ?_) #[true, true, true, true, false, false, false, false, false, false, false, false] rfl rfl (any_of HT_.out (by kernel_rfl)) (fun _ _ _ h => h) (Or.inl ⟨by rfl, ?_⟩) ?_ ?_
        rotate_left
        · intro w'
          go_simp
          with_reducible rfl
        rotate_left
        · simp only [Act.put, List.setIfInBounds_toArray, List.set_cons_zero, List.set_cons_succ, i64_w, i32_w]
          rfl
        refine pure_ (i := 4) (N := some 9) (v := ?_) (a' := ?_) #[true, true, true, true, true, false, false, false, false, false, false, false] rfl rfl (any_of HT_.out (by kernel_rfl)) (fun _ _ _ h => h) (Or.inl ⟨by rfl, ?_⟩) ?_ ?_
        rotate_left
        · intro w'
          go_simp
          with_reducible rfl
        rotate_left
        · simp only [Act.put, List.setIfInBounds_toArray, List.set_cons_zero, List.set_cons_succ, i64_w, i32_w]
          rfl
        refine pure_ (i := 5) (N := some 10) (v := ?_) (a' := ?_) #[true, true, true, true, true, true, false, false, false, false, false, false] rfl rfl (any_of HT_.out (by kernel_rfl)) (fun _ _ _ h => h) (Or.inl ⟨by rfl, ?_⟩) ?_ ?_
        rotate_left
        · intro w'
          go_simp
          with_reducible rfl
        rotate_left
        · simp only [Act.put, List.setIfInBounds_toArray, List.set_cons_zero, List.set_cons_succ, i64_w, i32_w]
          rfl
        refine pure_ (i := 6) (N := some 11) (v := ?_) (a' := ?_) #[true, true, true, true, true, true, true, false, false, false, false, false] rfl rfl (any_of HT_.out (by kernel_rfl)) (fun _ _ _ h => h) (Or.inl ⟨by rfl, ?_⟩) ?_ ?_
        rotate_left
        · intro w'
          go_simp
          with_reducible rfl
        rotate_left
        · simp only [Act.put, List.setIfInBounds_toArray, List.set_cons_zero, List.set_cons_succ, i64_w, i32_w]
          rfl
        refine take_ (i := 7) (N := some 12) (v := ?_) (a' := ?_) #[true, true, true, true, true, true, true, true, false, false, false, false] rfl rfl (take_ofW HT_.out HW_.out (by kernel_rfl)) (fun _ _ _ h => h) (Or.inl ⟨by rfl, ?_⟩) hHeld ?_ ?_
        rotate_left
        · rintro w' ⟨s0, s1, s2, s3, s4, s5, s6⟩
          go_simp
          with_reducible rfl
        rotate_left
        · simp only [Act.put, List.setIfInBounds_toArray, List.set_cons_zero, List.set_cons_succ, i64_w, i32_w]
          rfl
        refine one_ (i := 8) (N := some 13) #[true, true, true, true, true, true, true, true, true, false, false, false] rfl rfl (one_of HT_.out (by kernel_rfl)) (by decide) (fun K hK => ?_)
        refine goes_ Try.func88 (by kernel_rfl) rfl #[] (by rfl) rfl rfl (by (try simp only [List.map_toArray, List.map_cons, List.map_nil]); first | done | rfl | (simp only [List.length_drop, List.length_take]; rfl)) ?_
        with_reducible refine (impl_FirstBlock.calls  t218 t219 t220 t223 t224 t225 t226 _ A6.out).mono ?_
        rintro e w9 ⟨v221, rfl, ho0, hb⟩
        refine ⟨_, rfl, ?_⟩
        have n0_ := Aside0.mk (Kd.R_lower ho0 (below_size (by repeat (first | (with_reducible first | exact HB.out | apply below_alloc | apply pw_below_drewN | apply below_drew1) | exact HB.out))))
        have n1_ := Aside0.mk (below_step (by repeat (first | (with_reducible first | exact HB.out | apply below_alloc | apply pw_below_drewN | apply below_drew1) | exact HB.out)) hb)
        clear HB
        have HO222 := n0_
        have HB := n1_
        clear n0_ n1_
        (try clear hb)
        (try clear hb2)
        (try clear hk)
        (try clear hi)
        (try clear ho0)
        obtain ⟨Ao10, co10, eo10⟩ := Kd.R_slice HO222.out
        (first | subst eo10 | (injection eo10 with f1_ f2_ f3_; have f4_ := f1_.symm; have f5_ := f3_.symm; clear f1_ f2_ f3_; subst f4_; subst f5_))
        refine hK.out _ _ ⟨((HB.out.cell (World.block_lt_of_cell? w _ hw217_0)).trans hw217_0), ((HB.out.cell (World.block_lt_of_cell? w _ hw217_1)).trans hw217_1), ((HB.out.cell (World.block_lt_of_cell? w _ hw217_2)).trans hw217_2), ((HB.out.cell (World.block_lt_of_cell? w _ hw217_3)).trans hw217_3), ((HB.out.cell (World.block_lt_of_cell? w _ hw217_4)).trans hw217_4), ((HB.out.cell (World.block_lt_of_cell? w _ hw217_5)).trans hw217_5), ((HB.out.cell (World.block_lt_of_cell? w _ hw217_6)).trans hw217_6)⟩ (fun hHeld => ?_)
        clear hK K
        refine norm_ (a' := ?_) ?_ ?_
        rotate_left
        · show Act.put _ (some 13) _ = _
          simp only [Act.put, List.setIfInBounds_toArray, List.set_cons_zero, List.set_cons_succ, i64_w, i32_w]
          rfl
        refine one_ (i := 9) (N := some 14) #[true, true, true, true, true, true, true, true, true, true, false, false] rfl rfl (one_of HT_.out (by kernel_rfl)) (by decide) (fun K hK => ?_)
        refine goes_ Try.func76 (by kernel_rfl) rfl #[.agg #[.int .i64 ((rd_T63 l0 0).f0), .int .i64 ((rd_T63 l0 0).f1), .slice A217_2 ((rd_T63 l0 0).f2).length c217_2, .int .i64 ((rd_T63 l0 0).f3.f0), .int .i64 ((rd_T63 l0 0).f3.f1), .int .i64 ((rd_T63 l0 0).f3.f2), .int .i64 ((rd_T63 l0 0).f3.f3)], .agg #[.int .i64 t218, .int .i64 t219, .slice Ao10 t220.length co10, .int .i64 t223, .int .i64 t224, .int .i64 t225, .int .i64 t226]] (by rfl) rfl rfl (by (try simp only [List.map_toArray, List.map_cons, List.map_nil]); first | done | rfl | (simp only [List.length_drop, List.length_take]; rfl)) ?_
        with_reducible refine (impl_SameBlock.calls k ((rd_T63 l0 0).f0) ((rd_T63 l0 0).f1) _ _ ((rd_T63 l0 0).f2) ((rd_T63 l0 0).f3.f0) ((rd_T63 l0 0).f3.f1) ((rd_T63 l0 0).f3.f2) ((rd_T63 l0 0).f3.f3) t218 t219 _ _ t220 t223 t224 t225 t226 t227 _ ?side1 ?side2 ?side3 ?side4 A7.out).mono ?_
        (case side1 => repeat (first | exact (Kd.C_below HR217_2.out HB.out) | (with_reducible refine Kd.C_alloc ?_ _) | (with_reducible refine Kd.C_drewN ?_ _) | (with_reducible refine Kd.C_drew ?_)))
        (case side2 => exact HC217_2.out)
        (case side3 => repeat (first | exact (Kd.R_reads' HO222.out).2.2 | (with_reducible refine Kd.C_alloc ?_ _) | (with_reducible refine Kd.C_drewN ?_ _) | (with_reducible refine Kd.C_drew ?_)))
        (case side4 => exact (Kd.R_reads' HO222.out).2.1)
        rintro e w11 ⟨rfl, hb⟩
        refine ⟨_, rfl, ?_⟩
        have n0_ := Aside0.mk (Kd.R_below (by (with_reducible repeat (first | apply Kd.R_alloc | apply Kd.R_drewN | apply Kd.R_drew)); exact HO222.out) hb)
        have n1_ := Aside0.mk (below_step (by repeat (first | (with_reducible first | exact HB.out | apply below_alloc | apply pw_below_drewN | apply below_drew1) | exact HB.out)) hb)
        clear HO222
        clear HB
        have HO222 := n0_
        have HB := n1_
        clear n0_ n1_
        (try clear hb)
        (try clear hb2)
        (try clear hk)
        (try clear hi)
        refine hK.out _ _ ⟨((HB.out.cell (World.block_lt_of_cell? w _ hw217_0)).trans hw217_0), ((HB.out.cell (World.block_lt_of_cell? w _ hw217_1)).trans hw217_1), ((HB.out.cell (World.block_lt_of_cell? w _ hw217_2)).trans hw217_2), ((HB.out.cell (World.block_lt_of_cell? w _ hw217_3)).trans hw217_3), ((HB.out.cell (World.block_lt_of_cell? w _ hw217_4)).trans hw217_4), ((HB.out.cell (World.block_lt_of_cell? w _ hw217_5)).trans hw217_5), ((HB.out.cell (World.block_lt_of_cell? w _ hw217_6)).trans hw217_6)⟩ (fun hHeld => ?_)
        clear hK K
        refine norm_ (a' := ?_) ?_ ?_
        rotate_left
        · show Act.put _ (some 14) _ = _
          simp only [Act.put, List.setIfInBounds_toArray, List.set_cons_zero, List.set_cons_succ, i64_w, i32_w]
          rfl
        refine pure_ (i := 10) (N := some 15) (v := ?_) (a' := ?_) #[true, true, true, true, true, true, true, true, true, true, true, false] rfl rfl (any_of HT_.out (by kernel_rfl)) (fun _ _ _ h => h) (Or.inl ⟨by rfl, ?_⟩) ?_ ?_
        rotate_left
        · intro w'
          go_simp
          with_reducible rfl
        rotate_left
        · simp only [Act.put, List.setIfInBounds_toArray, List.set_cons_zero, List.set_cons_succ, i64_w, i32_w]
          rfl
        refine pure_ (i := 11) (N := some 16) (v := ?_) (a' := ?_) #[true, true, true, true, true, true, true, true, true, true, true, true] rfl rfl (any_of HT_.out (by kernel_rfl)) (fun _ _ _ h => h) (Or.inl ⟨by rfl, ?_⟩) ?_ ?_
        rotate_left
        · intro w'
          go_simp
          with_reducible rfl
        rotate_left
        · simp only [Act.put, List.setIfInBounds_toArray, List.set_cons_zero, List.set_cons_succ, i64_w, i32_w]
          rfl
        refine done_ (done_of HT_.out (by kernel_rfl)) ?_
        try go_wp2
        go_meet
        case rel => exact ⟨_, (!t227), (by first | rfl | (simp; done) | (simp [*]; done)), H', ⟨by first | omega | exact Nat.le_refl _⟩, ⟨by repeat (first | (with_reducible first | exact HB.out | apply below_alloc | apply pw_below_drewN | apply below_drew1) | exact HB.out)⟩⟩
      · rw [if_neg c5] at H
        exact absurd H (by simp)
    · replace c4 := Bool.eq_false_iff.mpr c4
      subst c4
      have H1 : (impl_TreeOk.j0 k l0 true) = some r := by rw [if_neg (show ¬ (false = true) by decide)] at H; exact H
      clear H
      have H := H1
      clear H1
      have H' := Aside0.mk H
      clear H
      try go_wp2
      have n0_ := Aside0.mk (below_drew1 HB.out)
      clear HB
      have HB := n0_
      clear n0_
      refine start_ (n := 12) (S := fun w' => True) (ds := []) #[false, false, false, false, false, false, false, false, false, false, false, false] (by kernel_rfl) rfl rfl trivial (fun hHeld => ?_); refine with_tabW impl_TreeOk.tab1 impl_TreeOk.bits1 (fun HT_ HW_ => ?_)
      generalize w.drew = w12 at HB hHeld ⊢
      refine pure_ (i := 0) (N := some 5) (v := ?_) (a' := ?_) #[true, false, false, false, false, false, false, false, false, false, false, false] rfl rfl (any_of HT_.out (by kernel_rfl)) (fun _ _ _ h => h) (Or.inl ⟨by rfl, ?_⟩) ?_ ?_
      rotate_left
      · intro w'
        go_simp
        with_reducible rfl
      rotate_left
      · simp only [Act.put, List.setIfInBounds_toArray, List.set_cons_zero, List.set_cons_succ, i64_w, i32_w]
        rfl
      refine pure_ (i := 1) (N := some 6) (v := ?_) (a' := ?_) #[true, true, false, false, false, false, false, false, false, false, false, false] rfl rfl (any_of HT_.out (by kernel_rfl)) (fun _ _ _ h => h) (Or.inl ⟨by rfl, ?_⟩) ?_ ?_
      rotate_left
      · intro w'
        go_simp
        with_reducible rfl
      rotate_left
      · simp only [Act.put, List.setIfInBounds_toArray, List.set_cons_zero, List.set_cons_succ, i64_w, i32_w]
        rfl
      refine one_ (i := 2) (N := some 7) #[true, true, true, false, false, false, false, false, false, false, false, false] rfl rfl (one_of HT_.out (by kernel_rfl)) (by decide) (fun K hK => ?_)
      refine goes_ Try.func64 (by kernel_rfl) rfl #[.int .i64 (l0.length : Int), .int .i64 1, .int .i64 60] (by rfl) rfl rfl (by (try simp only [List.map_toArray, List.map_cons, List.map_nil]); first | done | rfl | (simp only [List.length_drop, List.length_take]; rfl)) ?_
      with_reducible refine (impl_in.calls (l0.length : Int) 1 60 false _ A3.out).mono ?_
      rintro e w' ⟨rfl, ⟨nd, rfl⟩⟩
      refine ⟨_, rfl, ?_⟩
      refine hK.out _ _ trivial (fun hHeld => ?_)
      clear hK K
      refine norm_ (a' := ?_) ?_ ?_
      rotate_left
      · show Act.put _ (some 7) _ = _
        simp only [Act.put, List.setIfInBounds_toArray, List.set_cons_zero, List.set_cons_succ, i64_w, i32_w]
        rfl
      refine pure_ (i := 3) (N := some 8) (v := ?_) (a' := ?_) #[true, true, true, true, false, false, false, false, false, false, false, false] rfl rfl (any_of HT_.out (by kernel_rfl)) (fun _ _ _ h => h) (Or.inl ⟨by rfl, ?_⟩) ?_ ?_
      rotate_left
      · intro w'
        go_simp
        with_reducible rfl
      rotate_left
      · simp only [Act.put, List.setIfInBounds_toArray, List.set_cons_zero, List.set_cons_succ, i64_w, i32_w]
        rfl
      refine pure_ (i := 4) (N := some 9) (v := ?_) (a' := ?_) #[true, true, true, true, true, false, false, false, false, false, false, false] rfl rfl (any_of HT_.out (by kernel_rfl)) (fun _ _ _ h => h) (Or.inl ⟨by rfl, ?_⟩) ?_ ?_
      rotate_left
      · intro w'
        go_simp
        with_reducible rfl
      rotate_left
      · simp only [Act.put, List.setIfInBounds_toArray, List.set_cons_zero, List.set_cons_succ, i64_w, i32_w]
        rfl
      refine pure_ (i := 5) (N := some 10) (v := undef) (a' := ?_) #[true, true, true, true, true, true, false, false, false, false, false, false] rfl rfl (any_of HT_.out (by kernel_rfl)) (fun _ _ _ h => h) (Or.inr ⟨by rfl, rfl⟩) ?_ ?_
      rotate_left
      · simp only [Act.put, List.setIfInBounds_toArray, List.set_cons_zero, List.set_cons_succ, i64_w, i32_w]
        rfl
      refine pure_ (i := 6) (N := some 11) (v := undef) (a' := ?_) #[true, true, true, true, true, true, true, false, false, false, false, false] rfl rfl (any_of HT_.out (by kernel_rfl)) (fun _ _ _ h => h) (Or.inr ⟨by rfl, rfl⟩) ?_ ?_
      rotate_left
      · simp only [Act.put, List.setIfInBounds_toArray, List.set_cons_zero, List.set_cons_succ, i64_w, i32_w]
        rfl
      refine pure_ (i := 7) (N := some 12) (v := undef) (a' := ?_) #[true, true, true, true, true, true, true, true, false, false, false, false] rfl rfl (any_of HT_.out (by kernel_rfl)) (fun _ _ _ h => h) (Or.inr ⟨by rfl, rfl⟩) ?_ ?_
      rotate_left
      · simp only [Act.put, List.setIfInBounds_toArray, List.set_cons_zero, List.set_cons_succ, i64_w, i32_w]
        rfl
      refine pure_ (i := 8) (N := some 13) (v := undef) (a' := ?_) #[true, true, true, true, true, true, true, true, true, false, false, false] rfl rfl (any_of HT_.out (by kernel_rfl)) (fun _ _ _ h => h) (Or.inr ⟨by rfl, rfl⟩) ?_ ?_
      rotate_left
      · simp only [Act.put, List.setIfInBounds_toArray, List.set_cons_zero, List.set_cons_succ, i64_w, i32_w]
        rfl
      refine pure_ (i := 9) (N := some 14) (v := undef) (a' := ?_) #[true, true, true, true, true, true, true, true, true, true, false, false] rfl rfl (any_of HT_.out (by kernel_rfl)) (fun _ _ _ h => h) (Or.inr ⟨by rfl, rfl⟩) ?_ ?_
      rotate_left
      · simp only [Act.put, List.setIfInBounds_toArray, List.set_cons_zero, List.set_cons_succ, i64_w, i32_w]
        rfl
      refine pure_ (i := 10) (N := some 15) (v := undef) (a' := ?_) #[true, true, true, true, true, true, true, true, true, true, true, false] rfl rfl (any_of HT_.out (by kernel_rfl)) (fun _ _ _ h => h) (Or.inr ⟨by rfl, rfl⟩) ?_ ?_
      rotate_left
      · simp only [Act.put, List.setIfInBounds_toArray, List.set_cons_zero, List.set_cons_succ, i64_w, i32_w]
        rfl
      refine pure_ (i := 11) (N := some 16) (v := ?_) (a' := ?_) #[true, true, true, true, true, true, true, true, true, true, true, true] rfl rfl (any_of HT_.out (by kernel_rfl)) (fun _ _ _ h => h) (Or.inl ⟨by rfl, ?_⟩) ?_ ?_
      rotate_left
      · intro w'
        go_simp
        with_reducible rfl
      rotate_left
      · simp only [Act.put, List.setIfInBounds_toArray, List.set_cons_zero, List.set_cons_succ, i64_w, i32_w]
        rfl
      refine done_ (done_of HT_.out (by kernel_rfl)) ?_
      try go_wp2
      go_meet
      case rel => exact ⟨_, (true), (by first | rfl | (simp; done) | (simp [*]; done)), H', ⟨by first | omega | exact Nat.le_refl _⟩, ⟨by repeat (first | (with_reducible first | exact HB.out | apply below_alloc | apply pw_below_drewN | apply below_drew1) | exact HB.out)⟩⟩
  case rest =>
    clear HC2
    try clear c2
    try clear p2
    try clear q2
    try clear hx2
    try clear qi2
    try clear c4
    try clear c5
    try clear c5b0
    try clear c5b1
    try clear c6
    try clear c7
    try clear c8
    try clear hx217_0
    try clear hx217_1
    try clear hx217_2
    try clear hx217_3
    try clear hx217_4
    try clear hx217_5
    try clear hx217_6
    try clear p217
    try clear q217
    obtain ⟨kq, x16_1, rfl, HA, HJ1, HB⟩ := hcut
    cases kq with
    | zero => exact absurd HA.out (by simp [impl_TreeOk.j0])
    | succ kj1 =>
      have H := HA.out
      clear HA
      simp only [impl_TreeOk.j0] at H
      by_cases c13 : x16_1 = true
      · subst c13
        have H1 : (some false) = some r := by rw [if_pos rfl] at H; exact H
        clear H
        have H := H1
        clear H1
        obtain rfl := Option.some.inj H
        go_wp2
        go_ret
        exact ⟨by first | rfl | (simp [errW_none, errW_some] <;> rfl) | (simp [*, errW_none, errW_some] <;> rfl), by repeat (first | (with_reducible first | exact HB.out | apply below_alloc | apply pw_below_drewN | apply below_drew1) | exact HB.out)⟩
      · replace c13 := Bool.eq_false_iff.mpr c13
        subst c13
        have H1 : (impl_TreeOk.l0 kj1 l0 l0 (l0.length : Int) 0) = some r := by rw [if_neg (show ¬ (false = true) by decide)] at H; exact H
        clear H
        have H := H1
        clear H1
        have H' := Aside0.mk H
        clear H
        go_wp2
        go_loopg [19] kj1 (fun kq v19 w' => ∃ (x19_2 : Int), v19 = .int .i64 x19_2 ∧ Aside0 (impl_TreeOk.l0 kq l0 l0 (l0.length : Int) x19_2 = some r) ∧ Aside0 (kq ≤ kj1) ∧ Aside0 (Below w.heap.size w w'))
        case atStart => exact ⟨(0), (by first | rfl | (simp; done) | (simp [*]; done)), H', ⟨Nat.le_refl _⟩, ⟨by repeat (first | (with_reducible first | exact HB.out | apply below_alloc | apply pw_below_drewN | apply below_drew1) | exact HB.out)⟩⟩
        case round =>
          clear H'
          try clear c1
          try clear c2
          try clear p2
          try clear q2
          try clear hx2
          try clear qi2
          try clear c4
          try clear c5
          try clear c5b0
          try clear c5b1
          try clear c6
          try clear c7
          try clear c8
          try clear c13
          try clear hx217_0
          try clear hx217_1
          try clear hx217_2
          try clear hx217_3
          try clear hx217_4
          try clear hx217_5
          try clear hx217_6
          try clear p2
          try clear p217
          try clear q2
          try clear q217
          obtain ⟨x19_2, rfl, HA, HK2, HB⟩ := hrel
          cases gk with
          | zero => exact absurd HA.out (by simp [impl_TreeOk.l0])
          | succ k2 =>
            have H := HA.out
            clear HA
            simp only [impl_TreeOk.l0] at H
            by_cases c14 : x19_2 < (l0.length : Int)
            · rw [if_pos c14] at H
              have c14b0 : decide (x19_2 < (l0.length : Int)) = true := decide_eq_true c14
              clear c14
              by_cases c15 : 0 ≤ x19_2
              · rw [if_pos c15] at H
                have c15b0 : decide (0 ≤ x19_2) = true := decide_eq_true c15
                clear c15
                by_cases c16 : x19_2 < (l0.length : Int)
                · rw [if_pos c16] at H
                  have c16b0 : decide (x19_2 < (l0.length : Int)) = true := decide_eq_true c16
                  clear c16
                  by_cases c17 : x19_2 > 0
                  · rw [if_pos c17] at H
                    have c17b0 : decide (0 < x19_2) = true := decide_eq_true c17
                    clear c17
                    have c18b0 := eq_true (of_decide_eq_true (by first | (with_reducible assumption) | assumption) : 0 ≤ x19_2)
                    by_cases c19 : x19_2 ≤ (l0.length : Int)
                    · rw [if_pos c19] at H
                      have c19b0 := eq_true c19
                      have c19b1 : decide (x19_2 ≤ (l0.length : Int)) = true := decide_eq_true c19
                      clear c19
                      obtain ⟨y230, hy230⟩ : ∃ y_ : List (S63), y_ = (l0.take (x19_2 : Int).toNat) := ⟨_, rfl⟩
                      replace H : ((impl_BlockOk.f k2 y230 ((rd_T63 l0 x19_2).f0) ((rd_T63 l0 x19_2).f1) ((rd_T63 l0 x19_2).f2) ((rd_T63 l0 x19_2).f3.f0) ((rd_T63 l0 x19_2).f3.f1) ((rd_T63 l0 x19_2).f3.f2) ((rd_T63 l0 x19_2).f3.f3)).bind fun t234 => (if t234 = true then ((impl_BlockAt.f k2 l0 ((rd_T63 l0 x19_2).f0) ((rd_T63 l0 x19_2).f1) ((rd_T63 l0 x19_2).f2) ((rd_T63 l0 x19_2).f3.f0) ((rd_T63 l0 x19_2).f3.f1) ((rd_T63 l0 x19_2).f3.f2) ((rd_T63 l0 x19_2).f3.f3)).bind fun t235 => (if t235 = x19_2 then (impl_TreeOk.l0 k2 l0 l0 (l0.length : Int) (wrap64 (x19_2 + 1))) else (some false))) else (some false))) = some r := by first | (rw [hy230]; with_reducible exact H) | (have H2_ := (Option.bind_some _ _).symm.trans H; rw [hy230]; with_reducible exact H2_) | (have H2_ := (Option.bind_some _ _).symm.trans H; with_reducible exact H2_) | with_reducible exact H | (rw [hy230]; exact H) | exact H
                      have Ny230 := Aside0.mk hy230
                      clear hy230
                      replace H := Option.bind_eq_some_iff.mp H
                      obtain ⟨t234, A200, H⟩ := H
                      replace H : (if t234 = true then ((impl_BlockAt.f k2 l0 ((rd_T63 l0 x19_2).f0) ((rd_T63 l0 x19_2).f1) ((rd_T63 l0 x19_2).f2) ((rd_T63 l0 x19_2).f3.f0) ((rd_T63 l0 x19_2).f3.f1) ((rd_T63 l0 x19_2).f3.f2) ((rd_T63 l0 x19_2).f3.f3)).bind fun t235 => (if t235 = x19_2 then (impl_TreeOk.l0 k2 l0 l0 (l0.length : Int) (wrap64 (x19_2 + 1))) else (some false))) else (some false)) = some r := H
                      have A20 := Aside0.mk A200
                      clear A200
                      by_cases c21 : t234 = true
                      · subst c21
                        have H1 : ((impl_BlockAt.f k2 l0 ((rd_T63 l0 x19_2).f0) ((rd_T63 l0 x19_2).f1) ((rd_T63 l0 x19_2).f2) ((rd_T63 l0 x19_2).f3.f0) ((rd_T63 l0 x19_2).f3.f1) ((rd_T63 l0 x19_2).f3.f2) ((rd_T63 l0 x19_2).f3.f3)).bind fun t235 => (if t235 = x19_2 then (impl_TreeOk.l0 k2 l0 l0 (l0.length : Int) (wrap64 (x19_2 + 1))) else (some false))) = some r := by rw [if_pos rfl] at H; exact H
                        clear H
                        have H := H1
                        clear H1
                        replace H := Option.bind_eq_some_iff.mp H
                        obtain ⟨t235, A220, H⟩ := H
                        replace H : (if t235 = x19_2 then (impl_TreeOk.l0 k2 l0 l0 (l0.length : Int) (wrap64 (x19_2 + 1))) else (some false)) = some r := H
                        have A22 := Aside0.mk A220
                        clear A220
                        by_cases c23 : t235 = x19_2
                        · rw [if_pos c23] at H
                          have c23b0 : (t235 == x19_2) = true := beq_iff_eq.mpr c23
                          have c23b1 : (t235 != x19_2) = false := bne_eq_false_iff_eq.mpr c23
                          clear c23
                          have H' := Aside0.mk H
                          clear H
                          have p228 : 0 ≤ (x19_2 : Int) := of_decide_eq_true (by first | (with_reducible assumption) | assumption)
                          have q228 : x19_2 < (l0.length : Int) := of_decide_eq_true (by first | (with_reducible assumption) | assumption)
                          obtain ⟨ad228, A228_2, c228_2, e228, hx228_0, hx228_1, hx228_2, hx228_3, hx228_4, hx228_5, hx228_6, hl228_2, hi228_2⟩ := at_T63 HR0.out x19_2 p228 q228
                          cases e228
                          replace hx228_0 := (HB.out.cell (World.block_lt_of_cell? w _ hx228_0)).trans hx228_0
                          replace hx228_1 := (HB.out.cell (World.block_lt_of_cell? w _ hx228_1)).trans hx228_1
                          replace hx228_2 := (HB.out.cell (World.block_lt_of_cell? w _ hx228_2)).trans hx228_2
                          replace hx228_3 := (HB.out.cell (World.block_lt_of_cell? w _ hx228_3)).trans hx228_3
                          replace hx228_4 := (HB.out.cell (World.block_lt_of_cell? w _ hx228_4)).trans hx228_4
                          replace hx228_5 := (HB.out.cell (World.block_lt_of_cell? w _ hx228_5)).trans hx228_5
                          replace hx228_6 := (HB.out.cell (World.block_lt_of_cell? w _ hx228_6)).trans hx228_6
                          have HR228_2 := Aside0.mk hi228_2
                          have HC228_2 := Aside0.mk hl228_2
                          clear hi228_2 hl228_2
                          replace p228 := eq_true p228
                          replace q228 := eq_true q228
                          try go_wp2_with (first | ((with_reducible refine gate_dst (N := 4) rfl ?_); refine box_event ?hg (N := 4) ?hd (cs := #[.int .i64 0, .int .i64 0, .slice none 0 0, .int .i64 0, .int .i64 0, .int .i64 0, .int .i64 0]) (t := 63) ?hr ?_; (case hd => rfl); (case hg => rfl); (case hr => first | (go_simp; done) | (go_simp; rfl)); intro gb229 hg w24 hbox hb; have n0_ := Aside0.mk (below_step (by repeat (first | (with_reducible first | exact HB.out | apply below_alloc | apply pw_below_drewN | apply below_drew1) | exact HB.out)) hb); have n1_ := Aside0.mk (hbox); have n2_ := Aside0.mk ((by rw [hg]; exact (below_size (by repeat (first | (with_reducible first | exact HB.out | apply below_alloc | apply pw_below_drewN | apply below_drew1) | exact HB.out))) : w.heap.size ≤ gb229)); have n3_ := Aside0.mk ((by rw [hg]; exact (below_size (by repeat (first | (with_reducible first | exact HB.out | apply below_alloc | apply pw_below_drewN | apply below_drew1) | exact HB.out))) : w.heap.size ≤ gb229)); clear HB; have HB := n0_; have BK229 := n1_; have GW229 := n2_; have GE229 := n3_; clear n0_ n1_ n2_ n3_; clear hb hbox hg; have hcz25_0 : w24.cell? ⟨gb229, 0, none⟩ = some (.int .i64 0) := (blk_cell BK229.out 0).trans rfl; have hcz25_1 : w24.cell? ⟨gb229, 1, none⟩ = some (.int .i64 0) := (blk_cell BK229.out 1).trans rfl; have hcz25_2 : w24.cell? ⟨gb229, 2, none⟩ = some (.slice none 0 0) := (blk_cell BK229.out 2).trans rfl; have hcz25_3 : w24.cell? ⟨gb229, 3, none⟩ = some (.int .i64 0) := (blk_cell BK229.out 3).trans rfl; have hcz25_4 : w24.cell? ⟨gb229, 4, none⟩ = some (.int .i64 0) := (blk_cell BK229.out 4).trans rfl; have hcz25_5 : w24.cell? ⟨gb229, 5, none⟩ = some (.int .i64 0) := (blk_cell BK229.out 5).trans rfl; have hcz25_6 : w24.cell? ⟨gb229, 6, none⟩ = some (.int .i64 0) := (blk_cell BK229.out 6).trans rfl; have hfz25_0 := blk_frozen BK229.out 0; have hfz25_1 := blk_frozen BK229.out 1; have hfz25_2 := blk_frozen BK229.out 2; have hfz25_3 := blk_frozen BK229.out 3; have hfz25_4 := blk_frozen BK229.out 4; have hfz25_5 := blk_frozen BK229.out 5; have hfz25_6 := blk_frozen BK229.out 6))
                          have n0_ : Aside0 ((((((((w24.setCell ⟨gb229, 0, none⟩ (.int .i64 ((rd_T63 l0 x19_2).f0))).setCell ⟨gb229, 1, none⟩ (.int .i64 ((rd_T63 l0 x19_2).f1))).setCell ⟨gb229, 2, none⟩ (.slice A228_2 ((rd_T63 l0 x19_2).f2).length c228_2)).setCell ⟨gb229, 3, none⟩ (.int .i64 ((rd_T63 l0 x19_2).f3.f0))).setCell ⟨gb229, 4, none⟩ (.int .i64 ((rd_T63 l0 x19_2).f3.f1))).setCell ⟨gb229, 5, none⟩ (.int .i64 ((rd_T63 l0 x19_2).f3.f2))).setCell ⟨gb229, 6, none⟩ (.int .i64 ((rd_T63 l0 x19_2).f3.f3))).heap[gb229]? = some (.cells #[.int .i64 ((rd_T63 l0 x19_2).f0), .int .i64 ((rd_T63 l0 x19_2).f1), .slice A228_2 ((rd_T63 l0 x19_2).f2).length c228_2, .int .i64 ((rd_T63 l0 x19_2).f3.f0), .int .i64 ((rd_T63 l0 x19_2).f3.f1), .int .i64 ((rd_T63 l0 x19_2).f3.f2), .int .i64 ((rd_T63 l0 x19_2).f3.f3)] 63 (0, 0))) := ⟨by (with_reducible repeat (first | refine blk_drewN ?_ _ | refine blk_drew ?_ | refine blk_alloc ?_ _)); refine blk_put (cs := #[.int .i64 ((rd_T63 l0 x19_2).f0), .int .i64 ((rd_T63 l0 x19_2).f1), .slice A228_2 ((rd_T63 l0 x19_2).f2).length c228_2, .int .i64 ((rd_T63 l0 x19_2).f3.f0), .int .i64 ((rd_T63 l0 x19_2).f3.f1), .int .i64 ((rd_T63 l0 x19_2).f3.f2), .int .i64 0]) ?_ 6 _ rfl; (with_reducible repeat (first | refine blk_drewN ?_ _ | refine blk_drew ?_ | refine blk_alloc ?_ _)); refine blk_put (cs := #[.int .i64 ((rd_T63 l0 x19_2).f0), .int .i64 ((rd_T63 l0 x19_2).f1), .slice A228_2 ((rd_T63 l0 x19_2).f2).length c228_2, .int .i64 ((rd_T63 l0 x19_2).f3.f0), .int .i64 ((rd_T63 l0 x19_2).f3.f1), .int .i64 0, .int .i64 0]) ?_ 5 _ rfl; (with_reducible repeat (first | refine blk_drewN ?_ _ | refine blk_drew ?_ | refine blk_alloc ?_ _)); refine blk_put (cs := #[.int .i64 ((rd_T63 l0 x19_2).f0), .int .i64 ((rd_T63 l0 x19_2).f1), .slice A228_2 ((rd_T63 l0 x19_2).f2).length c228_2, .int .i64 ((rd_T63 l0 x19_2).f3.f0), .int .i64 0, .int .i64 0, .int .i64 0]) ?_ 4 _ rfl; (with_reducible repeat (first | refine blk_drewN ?_ _ | refine blk_drew ?_ | refine blk_alloc ?_ _)); refine blk_put (cs := #[.int .i64 ((rd_T63 l0 x19_2).f0), .int .i64 ((rd_T63 l0 x19_2).f1), .slice A228_2 ((rd_T63 l0 x19_2).f2).length c228_2, .int .i64 0, .int .i64 0, .int .i64 0, .int .i64 0]) ?_ 3 _ rfl; (with_reducible repeat (first | refine blk_drewN ?_ _ | refine blk_drew ?_ | refine blk_alloc ?_ _)); refine blk_put (cs := #[.int .i64 ((rd_T63 l0 x19_2).f0), .int .i64 ((rd_T63 l0 x19_2).f1), .slice none 0 0, .int .i64 0, .int .i64 0, .int .i64 0, .int .i64 0]) ?_ 2 _ rfl; (with_reducible repeat (first | refine blk_drewN ?_ _ | refine blk_drew ?_ | refine blk_alloc ?_ _)); refine blk_put (cs := #[.int .i64 ((rd_T63 l0 x19_2).f0), .int .i64 0, .slice none 0 0, .int .i64 0, .int .i64 0, .int .i64 0, .int .i64 0]) ?_ 1 _ rfl; (with_reducible repeat (first | refine blk_drewN ?_ _ | refine blk_drew ?_ | refine blk_alloc ?_ _)); refine blk_put (cs := #[.int .i64 0, .int .i64 0, .slice none 0 0, .int .i64 0, .int .i64 0, .int .i64 0, .int .i64 0]) ?_ 0 _ rfl; (with_reducible repeat (first | refine blk_drewN ?_ _ | refine blk_drew ?_ | refine blk_alloc ?_ _)); exact BK229.out⟩
                          have n1_ : Aside0 (Below w.heap.size w (((((((w24.setCell ⟨gb229, 0, none⟩ (.int .i64 ((rd_T63 l0 x19_2).f0))).setCell ⟨gb229, 1, none⟩ (.int .i64 ((rd_T63 l0 x19_2).f1))).setCell ⟨gb229, 2, none⟩ (.slice A228_2 ((rd_T63 l0 x19_2).f2).length c228_2)).setCell ⟨gb229, 3, none⟩ (.int .i64 ((rd_T63 l0 x19_2).f3.f0))).setCell ⟨gb229, 4, none⟩ (.int .i64 ((rd_T63 l0 x19_2).f3.f1))).setCell ⟨gb229, 5, none⟩ (.int .i64 ((rd_T63 l0 x19_2).f3.f2))).setCell ⟨gb229, 6, none⟩ (.int .i64 ((rd_T63 l0 x19_2).f3.f3)))) := ⟨by repeat (first | (with_reducible first | exact HB.out | apply below_alloc | apply pw_below_drewN | apply below_drew1 | refine below_set ?_ GE229.out) | exact HB.out)⟩
                          (try clear BK229)
                          (try clear HB)
                          generalize (((((((w24.setCell ⟨gb229, 0, none⟩ (.int .i64 ((rd_T63 l0 x19_2).f0))).setCell ⟨gb229, 1, none⟩ (.int .i64 ((rd_T63 l0 x19_2).f1))).setCell ⟨gb229, 2, none⟩ (.slice A228_2 ((rd_T63 l0 x19_2).f2).length c228_2)).setCell ⟨gb229, 3, none⟩ (.int .i64 ((rd_T63 l0 x19_2).f3.f0))).setCell ⟨gb229, 4, none⟩ (.int .i64 ((rd_T63 l0 x19_2).f3.f1))).setCell ⟨gb229, 5, none⟩ (.int .i64 ((rd_T63 l0 x19_2).f3.f2))).setCell ⟨gb229, 6, none⟩ (.int .i64 ((rd_T63 l0 x19_2).f3.f3))) = w26 at n0_ n1_ ⊢
                          have BK229 := n0_
                          have HB := n1_
                          clear n0_ n1_
                          have n0_ := Aside0.mk (blk_drew BK229.out)
                          have n1_ := Aside0.mk (below_drew1 HB.out)
                          clear BK229
                          clear HB
                          have BK229 := n0_
                          have HB := n1_
                          clear n0_ n1_
                          have q28 : (x19_2 : Int) ≤ ((l0.length : Int) : Int) := of_decide_eq_true (by first | (with_reducible assumption) | assumption)
                          obtain ⟨i028, hi028, _, hsz28, _⟩ := info_parts info63
                          have hroom28 : l0.length ≤ c0 := HC0.out
                          have hC28 : Kd.C k63 _ (some ad228) l0.length l0 := HR0.out
                          have hcut28 := cut_to (P := Try.prog) 38 63 .i64 Try.underlying38 hi028 (some ad228) l0.length c0 x19_2 (of_decide_eq_true (by first | (with_reducible assumption) | assumption)) q28 hroom28
                          have hr28 := Kd.C_take (m := (x19_2 : Int).toNat) hC28 (by omega)
                          have hy28 : y230.length = (x19_2 : Int).toNat := (by rw [Ny230.out, List.length_take]; omega)
                          rw [← Ny230.out] at hr28
                          rw [← hy28] at hcut28
                          have HR233 := Aside0.mk hr28
                          have HC233 := Aside0.mk (show y230.length ≤ c0 from by omega)
                          clear hr28 hC28 hroom28 hi028 hsz28
                          have KY28 := Aside0.mk hy28
                          clear hy28
                          replace q28 := eq_true q28
                          refine start_ (n := 17) (S := fun w' => w'.cell? ⟨gb229, 0, none⟩ = some (.int .i64 ((rd_T63 l0 x19_2).f0)) ∧ w'.cell? ⟨gb229, 1, none⟩ = some (.int .i64 ((rd_T63 l0 x19_2).f1)) ∧ w'.cell? ⟨gb229, 2, none⟩ = some (.slice A228_2 ((rd_T63 l0 x19_2).f2).length c228_2) ∧ w'.cell? ⟨gb229, 3, none⟩ = some (.int .i64 ((rd_T63 l0 x19_2).f3.f0)) ∧ w'.cell? ⟨gb229, 4, none⟩ = some (.int .i64 ((rd_T63 l0 x19_2).f3.f1)) ∧ w'.cell? ⟨gb229, 5, none⟩ = some (.int .i64 ((rd_T63 l0 x19_2).f3.f2)) ∧ w'.cell? ⟨gb229, 6, none⟩ = some (.int .i64 ((rd_T63 l0 x19_2).f3.f3))) (ds := []) #[false, false, false, false, false, false, false, false, false, false, false, false, false, false, false, false, false] (by kernel_rfl) rfl rfl ⟨(blk_cell BK229.out 0).trans rfl, (blk_cell BK229.out 1).trans rfl, (blk_cell BK229.out 2).trans rfl, (blk_cell BK229.out 3).trans rfl, (blk_cell BK229.out 4).trans rfl, (blk_cell BK229.out 5).trans rfl, (blk_cell BK229.out 6).trans rfl⟩ (fun hHeld => ?_); refine with_tabW impl_TreeOk.tab6 impl_TreeOk.bits6 (fun HT_ HW_ => ?_)
                          generalize w26.drew = w27 at BK229 HB HR233 hHeld ⊢
                          refine pure_ (i := 0) (N := some 24) (v := ?_) (a' := ?_) #[true, false, false, false, false, false, false, false, false, false, false, false, false, false, false, false, false] rfl rfl (any_of HT_.out (by kernel_rfl)) (fun _ _ _ h => h) (Or.inl ⟨by rfl, ?_⟩) ?_ ?_
                          rotate_left
                          · intro w'
                            go_simp
                            with_reducible rfl
                          rotate_left
                          · simp only [Act.put, List.setIfInBounds_toArray, List.set_cons_zero, List.set_cons_succ, i64_w, i32_w]
                            rfl
                          refine pure_ (i := 1) (N := some 25) (v := ?_) (a' := ?_) #[true, true, false, false, false, false, false, false, false, false, false, false, false, false, false, false, false] rfl rfl (any_of HT_.out (by kernel_rfl)) (fun _ _ _ h => h) (Or.inl ⟨by rfl, ?_⟩) ?_ ?_
                          rotate_left
                          · intro w'
                            go_simp
                            with_reducible rfl
                          rotate_left
                          · simp only [Act.put, List.setIfInBounds_toArray, List.set_cons_zero, List.set_cons_succ, i64_w, i32_w]
                            rfl
                          refine pure_ (i := 2) (N := some 26) (v := ?_) (a' := ?_) #[true, true, true, false, false, false, false, false, false, false, false, false, false, false, false, false, false] rfl rfl (any_of HT_.out (by kernel_rfl)) (fun _ _ _ h => h) (Or.inl ⟨by rfl, ?_⟩) ?_ ?_
                          rotate_left
                          · intro w'
                            go_simp
                            with_reducible rfl
                          rotate_left
                          · simp only [Act.put, List.setIfInBounds_toArray, List.set_cons_zero, List.set_cons_succ, i64_w, i32_w]
                            rfl
                          refine pure_ (i := 3) (N := some 27) (v := ?_) (a' := ?_) #[true, true, true, true, false, false, false, false, false, false, false, false, false, false, false, false, false] rfl rfl (any_of HT_.out (by kernel_rfl)) (fun _ _ _ h => h) (Or.inl ⟨by rfl, ?_⟩) ?_ ?_
                          rotate_left
                          · intro w'
                            go_simp
                            with_reducible rfl
                          rotate_left
                          · simp only [Act.put, List.setIfInBounds_toArray, List.set_cons_zero, List.set_cons_succ, i64_w, i32_w]
                            rfl
                          refine pure_ (i := 4) (N := some 28) (v := ?_) (a' := ?_) #[true, true, true, true, true, false, false, false, false, false, false, false, false, false, false, false, false] rfl rfl (any_of HT_.out (by kernel_rfl)) (fun _ _ _ h => h) (Or.inl ⟨by rfl, ?_⟩) ?_ ?_
                          rotate_left
                          · intro w'
                            go_simp
                            with_reducible rfl
                          rotate_left
                          · simp only [Act.put, List.setIfInBounds_toArray, List.set_cons_zero, List.set_cons_succ, i64_w, i32_w]
                            rfl
                          refine pure_ (i := 5) (N := some 29) (v := ?_) (a' := ?_) #[true, true, true, true, true, true, false, false, false, false, false, false, false, false, false, false, false] rfl rfl (any_of HT_.out (by kernel_rfl)) (fun _ _ _ h => h) (Or.inl ⟨by rfl, ?_⟩) ?_ ?_
                          rotate_left
                          · intro w'
                            go_simp
                            with_reducible rfl
                          rotate_left
                          · simp only [Act.put, List.setIfInBounds_toArray, List.set_cons_zero, List.set_cons_succ, i64_w, i32_w]
                            rfl
                          refine take_ (i := 6) (N := some 30) (v := ?_) (a' := ?_) #[true, true, true, true, true, true, true, false, false, false, false, false, false, false, false, false, false] rfl rfl (take_ofW HT_.out HW_.out (by kernel_rfl)) (fun _ _ _ h => h) (Or.inl ⟨by rfl, ?_⟩) hHeld ?_ ?_
                          rotate_left
                          · rintro w' ⟨s0, s1, s2, s3, s4, s5, s6⟩
                            go_simp
                            with_reducible rfl
                          rotate_left
                          · simp only [Act.put, List.setIfInBounds_toArray, List.set_cons_zero, List.set_cons_succ, i64_w, i32_w]
                            rfl
                          refine one_ (i := 7) (N := some 31) #[true, true, true, true, true, true, true, true, false, false, false, false, false, false, false, false, false] rfl rfl (one_of HT_.out (by kernel_rfl)) (by decide) (fun K hK => ?_)
                          refine goes_ Try.func41 (by kernel_rfl) rfl #[.slice (some ad228) y230.length c0, .agg #[.int .i64 ((rd_T63 l0 x19_2).f0), .int .i64 ((rd_T63 l0 x19_2).f1), .slice A228_2 ((rd_T63 l0 x19_2).f2).length c228_2, .int .i64 ((rd_T63 l0 x19_2).f3.f0), .int .i64 ((rd_T63 l0 x19_2).f3.f1), .int .i64 ((rd_T63 l0 x19_2).f3.f2), .int .i64 ((rd_T63 l0 x19_2).f3.f3)]] (by rfl) rfl rfl (by (try simp only [List.map_toArray, List.map_cons, List.map_nil]); first | done | rfl | (simp only [List.length_drop, List.length_take]; rfl)) ?_
                          with_reducible refine (impl_BlockOk.calls k2 _ _ y230 ((rd_T63 l0 x19_2).f0) ((rd_T63 l0 x19_2).f1) _ _ ((rd_T63 l0 x19_2).f2) ((rd_T63 l0 x19_2).f3.f0) ((rd_T63 l0 x19_2).f3.f1) ((rd_T63 l0 x19_2).f3.f2) ((rd_T63 l0 x19_2).f3.f3) true _ ?side1 ?side2 ?side3 ?side4 A20.out).mono ?_
                          (case side1 => repeat (first | exact (Kd.C_below HR233.out HB.out) | (with_reducible refine Kd.C_alloc ?_ _) | (with_reducible refine Kd.C_drewN ?_ _) | (with_reducible refine Kd.C_drew ?_)))
                          (case side2 => exact HC233.out)
                          (case side3 => repeat (first | exact (Kd.C_below HR228_2.out HB.out) | (with_reducible refine Kd.C_alloc ?_ _) | (with_reducible refine Kd.C_drewN ?_ _) | (with_reducible refine Kd.C_drew ?_)))
                          (case side4 => exact HC228_2.out)
                          rintro e w29 ⟨rfl, hb⟩
                          refine ⟨_, rfl, ?_⟩
                          have n0_ := Aside0.mk (blk_below (g := gb229) (o := .cells #[.int .i64 ((rd_T63 l0 x19_2).f0), .int .i64 ((rd_T63 l0 x19_2).f1), .slice A228_2 ((rd_T63 l0 x19_2).f2).length c228_2, .int .i64 ((rd_T63 l0 x19_2).f3.f0), .int .i64 ((rd_T63 l0 x19_2).f3.f1), .int .i64 ((rd_T63 l0 x19_2).f3.f2), .int .i64 ((rd_T63 l0 x19_2).f3.f3)] 63 (0, 0)) (by (with_reducible repeat (first | refine blk_drewN ?_ _ | refine blk_drew ?_ | refine blk_alloc ?_ _)); exact BK229.out) hb)
                          have n1_ := Aside0.mk (below_step (by repeat (first | (with_reducible first | exact HB.out | apply below_alloc | apply pw_below_drewN | apply below_drew1 | refine below_set ?_ GE229.out) | exact HB.out)) hb)
                          clear BK229
                          clear HB
                          have BK229 := n0_
                          have HB := n1_
                          clear n0_ n1_
                          (try clear hb)
                          (try clear hb2)
                          (try clear hk)
                          (try clear hi)
                          refine hK.out _ _ ⟨(blk_cell BK229.out 0).trans rfl, (blk_cell BK229.out 1).trans rfl, (blk_cell BK229.out 2).trans rfl, (blk_cell BK229.out 3).trans rfl, (blk_cell BK229.out 4).trans rfl, (blk_cell BK229.out 5).trans rfl, (blk_cell BK229.out 6).trans rfl⟩ (fun hHeld => ?_)
                          clear hK K
                          refine norm_ (a' := ?_) ?_ ?_
                          rotate_left
                          · show Act.put _ (some 31) _ = _
                            simp only [Act.put, List.setIfInBounds_toArray, List.set_cons_zero, List.set_cons_succ, i64_w, i32_w]
                            rfl
                          refine pure_ (i := 8) (N := some 32) (v := ?_) (a' := ?_) #[true, true, true, true, true, true, true, true, true, false, false, false, false, false, false, false, false] rfl rfl (any_of HT_.out (by kernel_rfl)) (fun _ _ _ h => h) (Or.inl ⟨by rfl, ?_⟩) ?_ ?_
                          rotate_left
                          · intro w'
                            go_simp
                            with_reducible rfl
                          rotate_left
                          · simp only [Act.put, List.setIfInBounds_toArray, List.set_cons_zero, List.set_cons_succ, i64_w, i32_w]
                            rfl
                          refine pure_ (i := 9) (N := some 33) (v := ?_) (a' := ?_) #[true, true, true, true, true, true, true, true, true, true, false, false, false, false, false, false, false] rfl rfl (any_of HT_.out (by kernel_rfl)) (fun _ _ _ h => h) (Or.inl ⟨by rfl, ?_⟩) ?_ ?_
                          rotate_left
                          · intro w'
                            go_simp
                            with_reducible rfl
                          rotate_left
                          · simp only [Act.put, List.setIfInBounds_toArray, List.set_cons_zero, List.set_cons_succ, i64_w, i32_w]
                            rfl
                          refine pure_ (i := 10) (N := some 34) (v := ?_) (a' := ?_) #[true, true, true, true, true, true, true, true, true, true, true, false, false, false, false, false, false] rfl rfl (any_of HT_.out (by kernel_rfl)) (fun _ _ _ h => h) (Or.inl ⟨by rfl, ?_⟩) ?_ ?_
                          rotate_left
                          · intro w'
                            go_simp
                            with_reducible rfl
                          rotate_left
                          · simp only [Act.put, List.setIfInBounds_toArray, List.set_cons_zero, List.set_cons_succ, i64_w, i32_w]
                            rfl
                          refine pure_ (i := 11) (N := some 35) (v := ?_) (a' := ?_) #[true, true, true, true, true, true, true, true, true, true, true, true, false, false, false, false, false] rfl rfl (any_of HT_.out (by kernel_rfl)) (fun _ _ _ h => h) (Or.inl ⟨by rfl, ?_⟩) ?_ ?_
                          rotate_left
                          · intro w'
                            go_simp
                            with_reducible rfl
                          rotate_left
                          · simp only [Act.put, List.setIfInBounds_toArray, List.set_cons_zero, List.set_cons_succ, i64_w, i32_w]
                            rfl
                          refine pure_ (i := 14) (N := some 38) (v := ?_) (a' := ?_) #[true, true, true, true, true, true, true, true, true, true, true, true, false, false, true, false, false] rfl rfl (any_of HT_.out (by kernel_rfl)) (fun _ _ _ h => h) (Or.inl ⟨by rfl, ?_⟩) ?_ ?_
                          rotate_left
                          · intro w'
                            go_simp
                            with_reducible rfl
                          rotate_left
                          · simp only [Act.put, List.setIfInBounds_toArray, List.set_cons_zero, List.set_cons_succ, i64_w, i32_w]
                            rfl
                          refine take_ (i := 12) (N := some 36) (v := ?_) (a' := ?_) #[true, true, true, true, true, true, true, true, true, true, true, true, true, false, true, false, false] rfl rfl (take_ofW HT_.out HW_.out (by kernel_rfl)) (fun _ _ _ h => h) (Or.inl ⟨by rfl, ?_⟩) hHeld ?_ ?_
                          rotate_left
                          · rintro w' ⟨s0, s1, s2, s3, s4, s5, s6⟩
                            go_simp
                            with_reducible rfl
                          rotate_left
                          · simp only [Act.put, List.setIfInBounds_toArray, List.set_cons_zero, List.set_cons_succ, i64_w, i32_w]
                            rfl
                          refine one_ (i := 13) (N := some 37) #[true, true, true, true, true, true, true, true, true, true, true, true, true, true, true, false, false] rfl rfl (one_of HT_.out (by kernel_rfl)) (by decide) (fun K hK => ?_)
                          refine goes_ Try.func38 (by kernel_rfl) rfl #[.slice (some ad228) l0.length c0, .agg #[.int .i64 ((rd_T63 l0 x19_2).f0), .int .i64 ((rd_T63 l0 x19_2).f1), .slice A228_2 ((rd_T63 l0 x19_2).f2).length c228_2, .int .i64 ((rd_T63 l0 x19_2).f3.f0), .int .i64 ((rd_T63 l0 x19_2).f3.f1), .int .i64 ((rd_T63 l0 x19_2).f3.f2), .int .i64 ((rd_T63 l0 x19_2).f3.f3)]] (by rfl) rfl rfl (by (try simp only [List.map_toArray, List.map_cons, List.map_nil]); first | done | rfl | (simp only [List.length_drop, List.length_take]; rfl)) ?_
                          with_reducible refine (impl_BlockAt.calls k2 _ _ l0 ((rd_T63 l0 x19_2).f0) ((rd_T63 l0 x19_2).f1) _ _ ((rd_T63 l0 x19_2).f2) ((rd_T63 l0 x19_2).f3.f0) ((rd_T63 l0 x19_2).f3.f1) ((rd_T63 l0 x19_2).f3.f2) ((rd_T63 l0 x19_2).f3.f3) t235 _ ?side1 ?side2 ?side3 ?side4 A22.out).mono ?_
                          (case side1 => repeat (first | exact (Kd.C_below HR0.out HB.out) | (with_reducible refine Kd.C_alloc ?_ _) | (with_reducible refine Kd.C_drewN ?_ _) | (with_reducible refine Kd.C_drew ?_)))
                          (case side2 => exact HC0.out)
                          (case side3 => repeat (first | exact (Kd.C_below HR228_2.out HB.out) | (with_reducible refine Kd.C_alloc ?_ _) | (with_reducible refine Kd.C_drewN ?_ _) | (with_reducible refine Kd.C_drew ?_)))
                          (case side4 => exact HC228_2.out)
                          rintro e w30 ⟨rfl, hb⟩
                          refine ⟨_, rfl, ?_⟩
                          have n0_ := Aside0.mk (blk_below (g := gb229) (o := .cells #[.int .i64 ((rd_T63 l0 x19_2).f0), .int .i64 ((rd_T63 l0 x19_2).f1), .slice A228_2 ((rd_T63 l0 x19_2).f2).length c228_2, .int .i64 ((rd_T63 l0 x19_2).f3.f0), .int .i64 ((rd_T63 l0 x19_2).f3.f1), .int .i64 ((rd_T63 l0 x19_2).f3.f2), .int .i64 ((rd_T63 l0 x19_2).f3.f3)] 63 (0, 0)) (by (with_reducible repeat (first | refine blk_drewN ?_ _ | refine blk_drew ?_ | refine blk_alloc ?_ _)); exact BK229.out) hb)
                          have n1_ := Aside0.mk (below_step (by repeat (first | (with_reducible first | exact HB.out | apply below_alloc | apply pw_below_drewN | apply below_drew1 | refine below_set ?_ GE229.out) | exact HB.out)) hb)
                          clear BK229
                          clear HB
                          have BK229 := n0_
                          have HB := n1_
                          clear n0_ n1_
                          (try clear hb)
                          (try clear hb2)
                          (try clear hk)
                          (try clear hi)
                          refine hK.out _ _ ⟨(blk_cell BK229.out 0).trans rfl, (blk_cell BK229.out 1).trans rfl, (blk_cell BK229.out 2).trans rfl, (blk_cell BK229.out 3).trans rfl, (blk_cell BK229.out 4).trans rfl, (blk_cell BK229.out 5).trans rfl, (blk_cell BK229.out 6).trans rfl⟩ (fun hHeld => ?_)
                          clear hK K
                          refine norm_ (a' := ?_) ?_ ?_
                          rotate_left
                          · show Act.put _ (some 37) _ = _
                            simp only [Act.put, List.setIfInBounds_toArray, List.set_cons_zero, List.set_cons_succ, i64_w, i32_w]
                            rfl
                          refine pure_ (i := 15) (N := some 39) (v := ?_) (a' := ?_) #[true, true, true, true, true, true, true, true, true, true, true, true, true, true, true, true, false] rfl rfl (any_of HT_.out (by kernel_rfl)) (fun _ _ _ h => h) (Or.inl ⟨by rfl, ?_⟩) ?_ ?_
                          rotate_left
                          · intro w'
                            go_simp
                            with_reducible rfl
                          rotate_left
                          · simp only [Act.put, List.setIfInBounds_toArray, List.set_cons_zero, List.set_cons_succ, i64_w, i32_w]
                            rfl
                          refine pure_ (i := 16) (N := some 40) (v := ?_) (a' := ?_) #[true, true, true, true, true, true, true, true, true, true, true, true, true, true, true, true, true] rfl rfl (any_of HT_.out (by kernel_rfl)) (fun _ _ _ h => h) (Or.inl ⟨by rfl, ?_⟩) ?_ ?_
                          rotate_left
                          · intro w'
                            go_simp
                            with_reducible rfl
                          rotate_left
                          · simp only [Act.put, List.setIfInBounds_toArray, List.set_cons_zero, List.set_cons_succ, i64_w, i32_w]
                            rfl
                          refine done_ (done_of HT_.out (by kernel_rfl)) ?_
                          try go_wp2
                          go_roundg k2
                          case measure => have := HJ1.out; have := HK2.out; omega
                          case rel => exact ⟨(wrap64 (x19_2 + 1)), (by first | rfl | (simp; done) | (simp [*]; done)), H', ⟨by have := HJ1.out; have := HK2.out; omega⟩, ⟨by repeat (first | (with_reducible first | exact HB.out | apply below_alloc | apply pw_below_drewN | apply below_drew1 | refine below_set ?_ GE229.out) | exact HB.out)⟩⟩
                        · rw [if_neg c23] at H
                          have c23b0 : (t235 == x19_2) = false := beq_eq_false_iff_ne.mpr c23
                          have c23b1 : (t235 != x19_2) = true := bne_iff_ne.mpr c23
                          obtain rfl := Option.some.inj H
                          have p228 : 0 ≤ (x19_2 : Int) := of_decide_eq_true (by first | (with_reducible assumption) | assumption)
                          have q228 : x19_2 < (l0.length : Int) := of_decide_eq_true (by first | (with_reducible assumption) | assumption)
                          obtain ⟨ad228, A228_2, c228_2, e228, hx228_0, hx228_1, hx228_2, hx228_3, hx228_4, hx228_5, hx228_6, hl228_2, hi228_2⟩ := at_T63 HR0.out x19_2 p228 q228
                          cases e228
                          replace hx228_0 := (HB.out.cell (World.block_lt_of_cell? w _ hx228_0)).trans hx228_0
                          replace hx228_1 := (HB.out.cell (World.block_lt_of_cell? w _ hx228_1)).trans hx228_1
                          replace hx228_2 := (HB.out.cell (World.block_lt_of_cell? w _ hx228_2)).trans hx228_2
                          replace hx228_3 := (HB.out.cell (World.block_lt_of_cell? w _ hx228_3)).trans hx228_3
                          replace hx228_4 := (HB.out.cell (World.block_lt_of_cell? w _ hx228_4)).trans hx228_4
                          replace hx228_5 := (HB.out.cell (World.block_lt_of_cell? w _ hx228_5)).trans hx228_5
                          replace hx228_6 := (HB.out.cell (World.block_lt_of_cell? w _ hx228_6)).trans hx228_6
                          have HR228_2 := Aside0.mk hi228_2
                          have HC228_2 := Aside0.mk hl228_2
                          clear hi228_2 hl228_2
                          replace p228 := eq_true p228
                          replace q228 := eq_true q228
                          try go_wp2_with (first | ((with_reducible refine gate_dst (N := 4) rfl ?_); refine box_event ?hg (N := 4) ?hd (cs := #[.int .i64 0, .int .i64 0, .slice none 0 0, .int .i64 0, .int .i64 0, .int .i64 0, .int .i64 0]) (t := 63) ?hr ?_; (case hd => rfl); (case hg => rfl); (case hr => first | (go_simp; done) | (go_simp; rfl)); intro gb229 hg w31 hbox hb; have n0_ := Aside0.mk (below_step (by repeat (first | (with_reducible first | exact HB.out | apply below_alloc | apply pw_below_drewN | apply below_drew1) | exact HB.out)) hb); have n1_ := Aside0.mk (hbox); have n2_ := Aside0.mk ((by rw [hg]; exact (below_size (by repeat (first | (with_reducible first | exact HB.out | apply below_alloc | apply pw_below_drewN | apply below_drew1) | exact HB.out))) : w.heap.size ≤ gb229)); have n3_ := Aside0.mk ((by rw [hg]; exact (below_size (by repeat (first | (with_reducible first | exact HB.out | apply below_alloc | apply pw_below_drewN | apply below_drew1) | exact HB.out))) : w.heap.size ≤ gb229)); clear HB; have HB := n0_; have BK229 := n1_; have GW229 := n2_; have GE229 := n3_; clear n0_ n1_ n2_ n3_; clear hb hbox hg; have hcz32_0 : w31.cell? ⟨gb229, 0, none⟩ = some (.int .i64 0) := (blk_cell BK229.out 0).trans rfl; have hcz32_1 : w31.cell? ⟨gb229, 1, none⟩ = some (.int .i64 0) := (blk_cell BK229.out 1).trans rfl; have hcz32_2 : w31.cell? ⟨gb229, 2, none⟩ = some (.slice none 0 0) := (blk_cell BK229.out 2).trans rfl; have hcz32_3 : w31.cell? ⟨gb229, 3, none⟩ = some (.int .i64 0) := (blk_cell BK229.out 3).trans rfl; have hcz32_4 : w31.cell? ⟨gb229, 4, none⟩ = some (.int .i64 0) := (blk_cell BK229.out 4).trans rfl; have hcz32_5 : w31.cell? ⟨gb229, 5, none⟩ = some (.int .i64 0) := (blk_cell BK229.out 5).trans rfl; have hcz32_6 : w31.cell? ⟨gb229, 6, none⟩ = some (.int .i64 0) := (blk_cell BK229.out 6).trans rfl; have hfz32_0 := blk_frozen BK229.out 0; have hfz32_1 := blk_frozen BK229.out 1; have hfz32_2 := blk_frozen BK229.out 2; have hfz32_3 := blk_frozen BK229.out 3; have hfz32_4 := blk_frozen BK229.out 4; have hfz32_5 := blk_frozen BK229.out 5; have hfz32_6 := blk_frozen BK229.out 6))
                          have n0_ : Aside0 ((((((((w31.setCell ⟨gb229, 0, none⟩ (.int .i64 ((rd_T63 l0 x19_2).f0))).setCell ⟨gb229, 1, none⟩ (.int .i64 ((rd_T63 l0 x19_2).f1))).setCell ⟨gb229, 2, none⟩ (.slice A228_2 ((rd_T63 l0 x19_2).f2).length c228_2)).setCell ⟨gb229, 3, none⟩ (.int .i64 ((rd_T63 l0 x19_2).f3.f0))).setCell ⟨gb229, 4, none⟩ (.int .i64 ((rd_T63 l0 x19_2).f3.f1))).setCell ⟨gb229, 5, none⟩ (.int .i64 ((rd_T63 l0 x19_2).f3.f2))).setCell ⟨gb229, 6, none⟩ (.int .i64 ((rd_T63 l0 x19_2).f3.f3))).heap[gb229]? = some (.cells #[.int .i64 ((rd_T63 l0 x19_2).f0), .int .i64 ((rd_T63 l0 x19_2).f1), .slice A228_2 ((rd_T63 l0 x19_2).f2).length c228_2, .int .i64 ((rd_T63 l0 x19_2).f3.f0), .int .i64 ((rd_T63 l0 x19_2).f3.f1), .int .i64 ((rd_T63 l0 x19_2).f3.f2), .int .i64 ((rd_T63 l0 x19_2).f3.f3)] 63 (0, 0))) := ⟨by (with_reducible repeat (first | refine blk_drewN ?_ _ | refine blk_drew ?_ | refine blk_alloc ?_ _)); refine blk_put (cs := #[.int .i64 ((rd_T63 l0 x19_2).f0), .int .i64 ((rd_T63 l0 x19_2).f1), .slice A228_2 ((rd_T63 l0 x19_2).f2).length c228_2, .int .i64 ((rd_T63 l0 x19_2).f3.f0), .int .i64 ((rd_T63 l0 x19_2).f3.f1), .int .i64 ((rd_T63 l0 x19_2).f3.f2), .int .i64 0]) ?_ 6 _ rfl; (with_reducible repeat (first | refine blk_drewN ?_ _ | refine blk_drew ?_ | refine blk_alloc ?_ _)); refine blk_put (cs := #[.int .i64 ((rd_T63 l0 x19_2).f0), .int .i64 ((rd_T63 l0 x19_2).f1), .slice A228_2 ((rd_T63 l0 x19_2).f2).length c228_2, .int .i64 ((rd_T63 l0 x19_2).f3.f0), .int .i64 ((rd_T63 l0 x19_2).f3.f1), .int .i64 0, .int .i64 0]) ?_ 5 _ rfl; (with_reducible repeat (first | refine blk_drewN ?_ _ | refine blk_drew ?_ | refine blk_alloc ?_ _)); refine blk_put (cs := #[.int .i64 ((rd_T63 l0 x19_2).f0), .int .i64 ((rd_T63 l0 x19_2).f1), .slice A228_2 ((rd_T63 l0 x19_2).f2).length c228_2, .int .i64 ((rd_T63 l0 x19_2).f3.f0), .int .i64 0, .int .i64 0, .int .i64 0]) ?_ 4 _ rfl; (with_reducible repeat (first | refine blk_drewN ?_ _ | refine blk_drew ?_ | refine blk_alloc ?_ _)); refine blk_put (cs := #[.int .i64 ((rd_T63 l0 x19_2).f0), .int .i64 ((rd_T63 l0 x19_2).f1), .slice A228_2 ((rd_T63 l0 x19_2).f2).length c228_2, .int .i64 0, .int .i64 0, .int .i64 0, .int .i64 0]) ?_ 3 _ rfl; (with_reducible repeat (first | refine blk_drewN ?_ _ | refine blk_drew ?_ | refine blk_alloc ?_ _)); refine blk_put (cs := #[.int .i64 ((rd_T63 l0 x19_2).f0), .int .i64 ((rd_T63 l0 x19_2).f1), .slice none 0 0, .int .i64 0, .int .i64 0, .int .i64 0, .int .i64 0]) ?_ 2 _ rfl; (with_reducible repeat (first | refine blk_drewN ?_ _ | refine blk_drew ?_ | refine blk_alloc ?_ _)); refine blk_put (cs := #[.int .i64 ((rd_T63 l0 x19_2).f0), .int .i64 0, .slice none 0 0, .int .i64 0, .int .i64 0, .int .i64 0, .int .i64 0]) ?_ 1 _ rfl; (with_reducible repeat (first | refine blk_drewN ?_ _ | refine blk_drew ?_ | refine blk_alloc ?_ _)); refine blk_put (cs := #[.int .i64 0, .int .i64 0, .slice none 0 0, .int .i64 0, .int .i64 0, .int .i64 0, .int .i64 0]) ?_ 0 _ rfl; (with_reducible repeat (first | refine blk_drewN ?_ _ | refine blk_drew ?_ | refine blk_alloc ?_ _)); exact BK229.out⟩
                          have n1_ : Aside0 (Below w.heap.size w (((((((w31.setCell ⟨gb229, 0, none⟩ (.int .i64 ((rd_T63 l0 x19_2).f0))).setCell ⟨gb229, 1, none⟩ (.int .i64 ((rd_T63 l0 x19_2).f1))).setCell ⟨gb229, 2, none⟩ (.slice A228_2 ((rd_T63 l0 x19_2).f2).length c228_2)).setCell ⟨gb229, 3, none⟩ (.int .i64 ((rd_T63 l0 x19_2).f3.f0))).setCell ⟨gb229, 4, none⟩ (.int .i64 ((rd_T63 l0 x19_2).f3.f1))).setCell ⟨gb229, 5, none⟩ (.int .i64 ((rd_T63 l0 x19_2).f3.f2))).setCell ⟨gb229, 6, none⟩ (.int .i64 ((rd_T63 l0 x19_2).f3.f3)))) := ⟨by repeat (first | (with_reducible first | exact HB.out | apply below_alloc | apply pw_below_drewN | apply below_drew1 | refine below_set ?_ GE229.out) | exact HB.out)⟩
                          (try clear BK229)
                          (try clear HB)
                          generalize (((((((w31.setCell ⟨gb229, 0, none⟩ (.int .i64 ((rd_T63 l0 x19_2).f0))).setCell ⟨gb229, 1, none⟩ (.int .i64 ((rd_T63 l0 x19_2).f1))).setCell ⟨gb229, 2, none⟩ (.slice A228_2 ((rd_T63 l0 x19_2).f2).length c228_2)).setCell ⟨gb229, 3, none⟩ (.int .i64 ((rd_T63 l0 x19_2).f3.f0))).setCell ⟨gb229, 4, none⟩ (.int .i64 ((rd_T63 l0 x19_2).f3.f1))).setCell ⟨gb229, 5, none⟩ (.int .i64 ((rd_T63 l0 x19_2).f3.f2))).setCell ⟨gb229, 6, none⟩ (.int .i64 ((rd_T63 l0 x19_2).f3.f3))) = w33 at n0_ n1_ ⊢
                          have BK229 := n0_
                          have HB := n1_
                          clear n0_ n1_
                          have n0_ := Aside0.mk (blk_drew BK229.out)
                          have n1_ := Aside0.mk (below_drew1 HB.out)
                          clear BK229
                          clear HB
                          have BK229 := n0_
                          have HB := n1_
                          clear n0_ n1_
                          have q35 : (x19_2 : Int) ≤ ((l0.length : Int) : Int) := of_decide_eq_true (by first | (with_reducible assumption) | assumption)
                          obtain ⟨i035, hi035, _, hsz35, _⟩ := info_parts info63
                          have hroom35 : l0.length ≤ c0 := HC0.out
                          have hC35 : Kd.C k63 _ (some ad228) l0.length l0 := HR0.out
                          have hcut35 := cut_to (P := Try.prog) 38 63 .i64 Try.underlying38 hi035 (some ad228) l0.length c0 x19_2 (of_decide_eq_true (by first | (with_reducible assumption) | assumption)) q35 hroom35
                          have hr35 := Kd.C_take (m := (x19_2 : Int).toNat) hC35 (by omega)
                          have hy35 : y230.length = (x19_2 : Int).toNat := (by rw [Ny230.out, List.length_take]; omega)
                          rw [← Ny230.out] at hr35
                          rw [← hy35] at hcut35
                          have HR233 := Aside0.mk hr35
                          have HC233 := Aside0.mk (show y230.length ≤ c0 from by omega)
                          clear hr35 hC35 hroom35 hi035 hsz35
                          have KY35 := Aside0.mk hy35
                          clear hy35
                          replace q35 := eq_true q35
                          refine start_ (n := 17) (S := fun w' => w'.cell? ⟨gb229, 0, none⟩ = some (.int .i64 ((rd_T63 l0 x19_2).f0)) ∧ w'.cell? ⟨gb229, 1, none⟩ = some (.int .i64 ((rd_T63 l0 x19_2).f1)) ∧ w'.cell? ⟨gb229, 2, none⟩ = some (.slice A228_2 ((rd_T63 l0 x19_2).f2).length c228_2) ∧ w'.cell? ⟨gb229, 3, none⟩ = some (.int .i64 ((rd_T63 l0 x19_2).f3.f0)) ∧ w'.cell? ⟨gb229, 4, none⟩ = some (.int .i64 ((rd_T63 l0 x19_2).f3.f1)) ∧ w'.cell? ⟨gb229, 5, none⟩ = some (.int .i64 ((rd_T63 l0 x19_2).f3.f2)) ∧ w'.cell? ⟨gb229, 6, none⟩ = some (.int .i64 ((rd_T63 l0 x19_2).f3.f3))) (ds := []) #[false, false, false, false, false, false, false, false, false, false, false, false, false, false, false, false, false] (by kernel_rfl) rfl rfl ⟨(blk_cell BK229.out 0).trans rfl, (blk_cell BK229.out 1).trans rfl, (blk_cell BK229.out 2).trans rfl, (blk_cell BK229.out 3).trans rfl, (blk_cell BK229.out 4).trans rfl, (blk_cell BK229.out 5).trans rfl, (blk_cell BK229.out 6).trans rfl⟩ (fun hHeld => ?_); refine with_tabW impl_TreeOk.tab6 impl_TreeOk.bits6 (fun HT_ HW_ => ?_)
                          generalize w33.drew = w34 at BK229 HB HR233 hHeld ⊢
                          refine pure_ (i := 0) (N := some 24) (v := ?_) (a' := ?_) #[true, false, false, false, false, false, false, false, false, false, false, false, false, false, false, false, false] rfl rfl (any_of HT_.out (by kernel_rfl)) (fun _ _ _ h => h) (Or.inl ⟨by rfl, ?_⟩) ?_ ?_
                          rotate_left
                          · intro w'
                            go_simp
                            with_reducible rfl
                          rotate_left
                          · simp only [Act.put, List.setIfInBounds_toArray, List.set_cons_zero, List.set_cons_succ, i64_w, i32_w]
                            rfl
                          refine pure_ (i := 1) (N := some 25) (v := ?_) (a' := ?_) #[true, true, false, false, false, false, false, false, false, false, false, false, false, false, false, false, false] rfl rfl (any_of HT_.out (by kernel_rfl)) (fun _ _ _ h => h) (Or.inl ⟨by rfl, ?_⟩) ?_ ?_
                          rotate_left
                          · intro w'
                            go_simp
                            with_reducible rfl
                          rotate_left
                          · simp only [Act.put, List.setIfInBounds_toArray, List.set_cons_zero, List.set_cons_succ, i64_w, i32_w]
                            rfl
                          refine pure_ (i := 2) (N := some 26) (v := ?_) (a' := ?_) #[true, true, true, false, false, false, false, false, false, false, false, false, false, false, false, false, false] rfl rfl (any_of HT_.out (by kernel_rfl)) (fun _ _ _ h => h) (Or.inl ⟨by rfl, ?_⟩) ?_ ?_
                          rotate_left
                          · intro w'
                            go_simp
                            with_reducible rfl
                          rotate_left
                          · simp only [Act.put, List.setIfInBounds_toArray, List.set_cons_zero, List.set_cons_succ, i64_w, i32_w]
                            rfl
                          refine pure_ (i := 3) (N := some 27) (v := ?_) (a' := ?_) #[true, true, true, true, false, false, false, false, false, false, false, false, false, false, false, false, false] rfl rfl (any_of HT_.out (by kernel_rfl)) (fun _ _ _ h => h) (Or.inl ⟨by rfl, ?_⟩) ?_ ?_
                          rotate_left
                          · intro w'
                            go_simp
                            with_reducible rfl
                          rotate_left
                          · simp only [Act.put, List.setIfInBounds_toArray, List.set_cons_zero, List.set_cons_succ, i64_w, i32_w]
                            rfl
                          refine pure_ (i := 4) (N := some 28) (v := ?_) (a' := ?_) #[true, true, true, true, true, false, false, false, false, false, false, false, false, false, false, false, false] rfl rfl (any_of HT_.out (by kernel_rfl)) (fun _ _ _ h => h) (Or.inl ⟨by rfl, ?_⟩) ?_ ?_
                          rotate_left
                          · intro w'
                            go_simp
                            with_reducible rfl
                          rotate_left
                          · simp only [Act.put, List.setIfInBounds_toArray, List.set_cons_zero, List.set_cons_succ, i64_w, i32_w]
                            rfl
                          refine pure_ (i := 5) (N := some 29) (v := ?_) (a' := ?_) #[true, true, true, true, true, true, false, false, false, false, false, false, false, false, false, false, false] rfl rfl (any_of HT_.out (by kernel_rfl)) (fun _ _ _ h => h) (Or.inl ⟨by rfl, ?_⟩) ?_ ?_
                          rotate_left
                          · intro w'
                            go_simp
                            with_reducible rfl
                          rotate_left
                          · simp only [Act.put, List.setIfInBounds_toArray, List.set_cons_zero, List.set_cons_succ, i64_w, i32_w]
                            rfl
                          refine take_ (i := 6) (N := some 30) (v := ?_) (a' := ?_) #[true, true, true, true, true, true, true, false, false, false, false, false, false, false, false, false, false] rfl rfl (take_ofW HT_.out HW_.out (by kernel_rfl)) (fun _ _ _ h => h) (Or.inl ⟨by rfl, ?_⟩) hHeld ?_ ?_
                          rotate_left
                          · rintro w' ⟨s0, s1, s2, s3, s4, s5, s6⟩
                            go_simp
                            with_reducible rfl
                          rotate_left
                          · simp only [Act.put, List.setIfInBounds_toArray, List.set_cons_zero, List.set_cons_succ, i64_w, i32_w]
                            rfl
                          refine one_ (i := 7) (N := some 31) #[true, true, true, true, true, true, true, true, false, false, false, false, false, false, false, false, false] rfl rfl (one_of HT_.out (by kernel_rfl)) (by decide) (fun K hK => ?_)
                          refine goes_ Try.func41 (by kernel_rfl) rfl #[.slice (some ad228) y230.length c0, .agg #[.int .i64 ((rd_T63 l0 x19_2).f0), .int .i64 ((rd_T63 l0 x19_2).f1), .slice A228_2 ((rd_T63 l0 x19_2).f2).length c228_2, .int .i64 ((rd_T63 l0 x19_2).f3.f0), .int .i64 ((rd_T63 l0 x19_2).f3.f1), .int .i64 ((rd_T63 l0 x19_2).f3.f2), .int .i64 ((rd_T63 l0 x19_2).f3.f3)]] (by rfl) rfl rfl (by (try simp only [List.map_toArray, List.map_cons, List.map_nil]); first | done | rfl | (simp only [List.length_drop, List.length_take]; rfl)) ?_
                          with_reducible refine (impl_BlockOk.calls k2 _ _ y230 ((rd_T63 l0 x19_2).f0) ((rd_T63 l0 x19_2).f1) _ _ ((rd_T63 l0 x19_2).f2) ((rd_T63 l0 x19_2).f3.f0) ((rd_T63 l0 x19_2).f3.f1) ((rd_T63 l0 x19_2).f3.f2) ((rd_T63 l0 x19_2).f3.f3) true _ ?side1 ?side2 ?side3 ?side4 A20.out).mono ?_
                          (case side1 => repeat (first | exact (Kd.C_below HR233.out HB.out) | (with_reducible refine Kd.C_alloc ?_ _) | (with_reducible refine Kd.C_drewN ?_ _) | (with_reducible refine Kd.C_drew ?_)))
                          (case side2 => exact HC233.out)
                          (case side3 => repeat (first | exact (Kd.C_below HR228_2.out HB.out) | (with_reducible refine Kd.C_alloc ?_ _) | (with_reducible refine Kd.C_drewN ?_ _) | (with_reducible refine Kd.C_drew ?_)))
                          (case side4 => exact HC228_2.out)
                          rintro e w36 ⟨rfl, hb⟩
                          refine ⟨_, rfl, ?_⟩
                          have n0_ := Aside0.mk (blk_below (g := gb229) (o := .cells #[.int .i64 ((rd_T63 l0 x19_2).f0), .int .i64 ((rd_T63 l0 x19_2).f1), .slice A228_2 ((rd_T63 l0 x19_2).f2).length c228_2, .int .i64 ((rd_T63 l0 x19_2).f3.f0), .int .i64 ((rd_T63 l0 x19_2).f3.f1), .int .i64 ((rd_T63 l0 x19_2).f3.f2), .int .i64 ((rd_T63 l0 x19_2).f3.f3)] 63 (0, 0)) (by (with_reducible repeat (first | refine blk_drewN ?_ _ | refine blk_drew ?_ | refine blk_alloc ?_ _)); exact BK229.out) hb)
                          have n1_ := Aside0.mk (below_step (by repeat (first | (with_reducible first | exact HB.out | apply below_alloc | apply pw_below_drewN | apply below_drew1 | refine below_set ?_ GE229.out) | exact HB.out)) hb)
                          clear BK229
                          clear HB
                          have BK229 := n0_
                          have HB := n1_
                          clear n0_ n1_
                          (try clear hb)
                          (try clear hb2)
                          (try clear hk)
                          (try clear hi)
                          refine hK.out _ _ ⟨(blk_cell BK229.out 0).trans rfl, (blk_cell BK229.out 1).trans rfl, (blk_cell BK229.out 2).trans rfl, (blk_cell BK229.out 3).trans rfl, (blk_cell BK229.out 4).trans rfl, (blk_cell BK229.out 5).trans rfl, (blk_cell BK229.out 6).trans rfl⟩ (fun hHeld => ?_)
                          clear hK K
                          refine norm_ (a' := ?_) ?_ ?_
                          rotate_left
                          · show Act.put _ (some 31) _ = _
                            simp only [Act.put, List.setIfInBounds_toArray, List.set_cons_zero, List.set_cons_succ, i64_w, i32_w]
                            rfl
                          refine pure_ (i := 8) (N := some 32) (v := ?_) (a' := ?_) #[true, true, true, true, true, true, true, true, true, false, false, false, false, false, false, false, false] rfl rfl (any_of HT_.out (by kernel_rfl)) (fun _ _ _ h => h) (Or.inl ⟨by rfl, ?_⟩) ?_ ?_
                          rotate_left
                          · intro w'
                            go_simp
                            with_reducible rfl
                          rotate_left
                          · simp only [Act.put, List.setIfInBounds_toArray, List.set_cons_zero, List.set_cons_succ, i64_w, i32_w]
                            rfl
                          refine pure_ (i := 9) (N := some 33) (v := ?_) (a' := ?_) #[true, true, true, true, true, true, true, true, true, true, false, false, false, false, false, false, false] rfl rfl (any_of HT_.out (by kernel_rfl)) (fun _ _ _ h => h) (Or.inl ⟨by rfl, ?_⟩) ?_ ?_
                          rotate_left
                          · intro w'
                            go_simp
                            with_reducible rfl
                          rotate_left
                          · simp only [Act.put, List.setIfInBounds_toArray, List.set_cons_zero, List.set_cons_succ, i64_w, i32_w]
                            rfl
                          refine pure_ (i := 10) (N := some 34) (v := ?_) (a' := ?_) #[true, true, true, true, true, true, true, true, true, true, true, false, false, false, false, false, false] rfl rfl (any_of HT_.out (by kernel_rfl)) (fun _ _ _ h => h) (Or.inl ⟨by rfl, ?_⟩) ?_ ?_
                          rotate_left
                          · intro w'
                            go_simp
                            with_reducible rfl
                          rotate_left
                          · simp only [Act.put, List.setIfInBounds_toArray, List.set_cons_zero, List.set_cons_succ, i64_w, i32_w]
                            rfl
                          refine pure_ (i := 11) (N := some 35) (v := ?_) (a' := ?_) #[true, true, true, true, true, true, true, true, true, true, true, true, false, false, false, false, false] rfl rfl (any_of HT_.out (by kernel_rfl)) (fun _ _ _ h => h) (Or.inl ⟨by rfl, ?_⟩) ?_ ?_
                          rotate_left
                          · intro w'
                            go_simp
                            with_reducible rfl
                          rotate_left
                          · simp only [Act.put, List.setIfInBounds_toArray, List.set_cons_zero, List.set_cons_succ, i64_w, i32_w]
                            rfl
                          refine pure_ (i := 14) (N := some 38) (v := ?_) (a' := ?_) #[true, true, true, true, true, true, true, true, true, true, true, true, false, false, true, false, false] rfl rfl (any_of HT_.out (by kernel_rfl)) (fun _ _ _ h => h) (Or.inl ⟨by rfl, ?_⟩) ?_ ?_
                          rotate_left
                          · intro w'
                            go_simp
                            with_reducible rfl
                          rotate_left
                          · simp only [Act.put, List.setIfInBounds_toArray, List.set_cons_zero, List.set_cons_succ, i64_w, i32_w]
                            rfl
                          refine take_ (i := 12) (N := some 36) (v := ?_) (a' := ?_) #[true, true, true, true, true, true, true, true, true, true, true, true, true, false, true, false, false] rfl rfl (take_ofW HT_.out HW_.out (by kernel_rfl)) (fun _ _ _ h => h) (Or.inl ⟨by rfl, ?_⟩) hHeld ?_ ?_
                          rotate_left
                          · rintro w' ⟨s0, s1, s2, s3, s4, s5, s6⟩
                            go_simp
                            with_reducible rfl
                          rotate_left
                          · simp only [Act.put, List.setIfInBounds_toArray, List.set_cons_zero, List.set_cons_succ, i64_w, i32_w]
                            rfl
                          refine one_ (i := 13) (N := some 37) #[true, true, true, true, true, true, true, true, true, true, true, true, true, true, true, false, false] rfl rfl (one_of HT_.out (by kernel_rfl)) (by decide) (fun K hK => ?_)
                          refine goes_ Try.func38 (by kernel_rfl) rfl #[.slice (some ad228) l0.length c0, .agg #[.int .i64 ((rd_T63 l0 x19_2).f0), .int .i64 ((rd_T63 l0 x19_2).f1), .slice A228_2 ((rd_T63 l0 x19_2).f2).length c228_2, .int .i64 ((rd_T63 l0 x19_2).f3.f0), .int .i64 ((rd_T63 l0 x19_2).f3.f1), .int .i64 ((rd_T63 l0 x19_2).f3.f2), .int .i64 ((rd_T63 l0 x19_2).f3.f3)]] (by rfl) rfl rfl (by (try simp only [List.map_toArray, List.map_cons, List.map_nil]); first | done | rfl | (simp only [List.length_drop, List.length_take]; rfl)) ?_
                          with_reducible refine (impl_BlockAt.calls k2 _ _ l0 ((rd_T63 l0 x19_2).f0) ((rd_T63 l0 x19_2).f1) _ _ ((rd_T63 l0 x19_2).f2) ((rd_T63 l0 x19_2).f3.f0) ((rd_T63 l0 x19_2).f3.f1) ((rd_T63 l0 x19_2).f3.f2) ((rd_T63 l0 x19_2).f3.f3) t235 _ ?side1 ?side2 ?side3 ?side4 A22.out).mono ?_
                          (case side1 => repeat (first | exact (Kd.C_below HR0.out HB.out) | (with_reducible refine Kd.C_alloc ?_ _) | (with_reducible refine Kd.C_drewN ?_ _) | (with_reducible refine Kd.C_drew ?_)))
                          (case side2 => exact HC0.out)
                          (case side3 => repeat (first | exact (Kd.C_below HR228_2.out HB.out) | (with_reducible refine Kd.C_alloc ?_ _) | (with_reducible refine Kd.C_drewN ?_ _) | (with_reducible refine Kd.C_drew ?_)))
                          (case side4 => exact HC228_2.out)
                          rintro e w37 ⟨rfl, hb⟩
                          refine ⟨_, rfl, ?_⟩
                          have n0_ := Aside0.mk (blk_below (g := gb229) (o := .cells #[.int .i64 ((rd_T63 l0 x19_2).f0), .int .i64 ((rd_T63 l0 x19_2).f1), .slice A228_2 ((rd_T63 l0 x19_2).f2).length c228_2, .int .i64 ((rd_T63 l0 x19_2).f3.f0), .int .i64 ((rd_T63 l0 x19_2).f3.f1), .int .i64 ((rd_T63 l0 x19_2).f3.f2), .int .i64 ((rd_T63 l0 x19_2).f3.f3)] 63 (0, 0)) (by (with_reducible repeat (first | refine blk_drewN ?_ _ | refine blk_drew ?_ | refine blk_alloc ?_ _)); exact BK229.out) hb)
                          have n1_ := Aside0.mk (below_step (by repeat (first | (with_reducible first | exact HB.out | apply below_alloc | apply pw_below_drewN | apply below_drew1 | refine below_set ?_ GE229.out) | exact HB.out)) hb)
                          clear BK229
                          clear HB
                          have BK229 := n0_
                          have HB := n1_
                          clear n0_ n1_
                          (try clear hb)
                          (try clear hb2)
                          (try clear hk)
                          (try clear hi)
                          refine hK.out _ _ ⟨(blk_cell BK229.out 0).trans rfl, (blk_cell BK229.out 1).trans rfl, (blk_cell BK229.out 2).trans rfl, (blk_cell BK229.out 3).trans rfl, (blk_cell BK229.out 4).trans rfl, (blk_cell BK229.out 5).trans rfl, (blk_cell BK229.out 6).trans rfl⟩ (fun hHeld => ?_)
                          clear hK K
                          refine norm_ (a' := ?_) ?_ ?_
                          rotate_left
                          · show Act.put _ (some 37) _ = _
                            simp only [Act.put, List.setIfInBounds_toArray, List.set_cons_zero, List.set_cons_succ, i64_w, i32_w]
                            rfl
                          refine pure_ (i := 15) (N := some 39) (v := ?_) (a' := ?_) #[true, true, true, true, true, true, true, true, true, true, true, true, true, true, true, true, false] rfl rfl (any_of HT_.out (by kernel_rfl)) (fun _ _ _ h => h) (Or.inl ⟨by rfl, ?_⟩) ?_ ?_
                          rotate_left
                          · intro w'
                            go_simp
                            with_reducible rfl
                          rotate_left
                          · simp only [Act.put, List.setIfInBounds_toArray, List.set_cons_zero, List.set_cons_succ, i64_w, i32_w]
                            rfl
                          refine pure_ (i := 16) (N := some 40) (v := ?_) (a' := ?_) #[true, true, true, true, true, true, true, true, true, true, true, true, true, true, true, true, true] rfl rfl (any_of HT_.out (by kernel_rfl)) (fun _ _ _ h => h) (Or.inl ⟨by rfl, ?_⟩) ?_ ?_
                          rotate_left
                          · intro w'
                            go_simp
                            with_reducible rfl
                          rotate_left
                          · simp only [Act.put, List.setIfInBounds_toArray, List.set_cons_zero, List.set_cons_succ, i64_w, i32_w]
                            rfl
                          refine done_ (done_of HT_.out (by kernel_rfl)) ?_
                          try go_wp2
                          go_ret
                          exact ⟨by first | rfl | (simp [errW_none, errW_some] <;> rfl) | (simp [*, errW_none, errW_some] <;> rfl), by repeat (first | (with_reducible first | exact HB.out | apply below_alloc | apply pw_below_drewN | apply below_drew1 | refine below_set ?_ GE229.out) | exact HB.out)⟩
                      · replace c21 := Bool.eq_false_iff.mpr c21
                        subst c21
                        have H1 : (some false) = some r := by rw [if_neg (show ¬ (false = true) by decide)] at H; exact H
                        clear H
                        have H := H1
                        clear H1
                        obtain rfl := Option.some.inj H
                        have p228 : 0 ≤ (x19_2 : Int) := of_decide_eq_true (by first | (with_reducible assumption) | assumption)
                        have q228 : x19_2 < (l0.length : Int) := of_decide_eq_true (by first | (with_reducible assumption) | assumption)
                        obtain ⟨ad228, A228_2, c228_2, e228, hx228_0, hx228_1, hx228_2, hx228_3, hx228_4, hx228_5, hx228_6, hl228_2, hi228_2⟩ := at_T63 HR0.out x19_2 p228 q228
                        cases e228
                        replace hx228_0 := (HB.out.cell (World.block_lt_of_cell? w _ hx228_0)).trans hx228_0
                        replace hx228_1 := (HB.out.cell (World.block_lt_of_cell? w _ hx228_1)).trans hx228_1
                        replace hx228_2 := (HB.out.cell (World.block_lt_of_cell? w _ hx228_2)).trans hx228_2
                        replace hx228_3 := (HB.out.cell (World.block_lt_of_cell? w _ hx228_3)).trans hx228_3
                        replace hx228_4 := (HB.out.cell (World.block_lt_of_cell? w _ hx228_4)).trans hx228_4
                        replace hx228_5 := (HB.out.cell (World.block_lt_of_cell? w _ hx228_5)).trans hx228_5
                        replace hx228_6 := (HB.out.cell (World.block_lt_of_cell? w _ hx228_6)).trans hx228_6
                        have HR228_2 := Aside0.mk hi228_2
                        have HC228_2 := Aside0.mk hl228_2
                        clear hi228_2 hl228_2
                        replace p228 := eq_true p228
                        replace q228 := eq_true q228
                        try go_wp2_with (first | ((with_reducible refine gate_dst (N := 4) rfl ?_); refine box_event ?hg (N := 4) ?hd (cs := #[.int .i64 0, .int .i64 0, .slice none 0 0, .int .i64 0, .int .i64 0, .int .i64 0, .int .i64 0]) (t := 63) ?hr ?_; (case hd => rfl); (case hg => rfl); (case hr => first | (go_simp; done) | (go_simp; rfl)); intro gb229 hg w38 hbox hb; have n0_ := Aside0.mk (below_step (by repeat (first | (with_reducible first | exact HB.out | apply below_alloc | apply pw_below_drewN | apply below_drew1) | exact HB.out)) hb); have n1_ := Aside0.mk (hbox); have n2_ := Aside0.mk ((by rw [hg]; exact (below_size (by repeat (first | (with_reducible first | exact HB.out | apply below_alloc | apply pw_below_drewN | apply below_drew1) | exact HB.out))) : w.heap.size ≤ gb229)); have n3_ := Aside0.mk ((by rw [hg]; exact (below_size (by repeat (first | (with_reducible first | exact HB.out | apply below_alloc | apply pw_below_drewN | apply below_drew1) | exact HB.out))) : w.heap.size ≤ gb229)); clear HB; have HB := n0_; have BK229 := n1_; have GW229 := n2_; have GE229 := n3_; clear n0_ n1_ n2_ n3_; clear hb hbox hg; have hcz39_0 : w38.cell? ⟨gb229, 0, none⟩ = some (.int .i64 0) := (blk_cell BK229.out 0).trans rfl; have hcz39_1 : w38.cell? ⟨gb229, 1, none⟩ = some (.int .i64 0) := (blk_cell BK229.out 1).trans rfl; have hcz39_2 : w38.cell? ⟨gb229, 2, none⟩ = some (.slice none 0 0) := (blk_cell BK229.out 2).trans rfl; have hcz39_3 : w38.cell? ⟨gb229, 3, none⟩ = some (.int .i64 0) := (blk_cell BK229.out 3).trans rfl; have hcz39_4 : w38.cell? ⟨gb229, 4, none⟩ = some (.int .i64 0) := (blk_cell BK229.out 4).trans rfl; have hcz39_5 : w38.cell? ⟨gb229, 5, none⟩ = some (.int .i64 0) := (blk_cell BK229.out 5).trans rfl; have hcz39_6 : w38.cell? ⟨gb229, 6, none⟩ = some (.int .i64 0) := (blk_cell BK229.out 6).trans rfl; have hfz39_0 := blk_frozen BK229.out 0; have hfz39_1 := blk_frozen BK229.out 1; have hfz39_2 := blk_frozen BK229.out 2; have hfz39_3 := blk_frozen BK229.out 3; have hfz39_4 := blk_frozen BK229.out 4; have hfz39_5 := blk_frozen BK229.out 5; have hfz39_6 := blk_frozen BK229.out 6))
                        have n0_ : Aside0 ((((((((w38.setCell ⟨gb229, 0, none⟩ (.int .i64 ((rd_T63 l0 x19_2).f0))).setCell ⟨gb229, 1, none⟩ (.int .i64 ((rd_T63 l0 x19_2).f1))).setCell ⟨gb229, 2, none⟩ (.slice A228_2 ((rd_T63 l0 x19_2).f2).length c228_2)).setCell ⟨gb229, 3, none⟩ (.int .i64 ((rd_T63 l0 x19_2).f3.f0))).setCell ⟨gb229, 4, none⟩ (.int .i64 ((rd_T63 l0 x19_2).f3.f1))).setCell ⟨gb229, 5, none⟩ (.int .i64 ((rd_T63 l0 x19_2).f3.f2))).setCell ⟨gb229, 6, none⟩ (.int .i64 ((rd_T63 l0 x19_2).f3.f3))).heap[gb229]? = some (.cells #[.int .i64 ((rd_T63 l0 x19_2).f0), .int .i64 ((rd_T63 l0 x19_2).f1), .slice A228_2 ((rd_T63 l0 x19_2).f2).length c228_2, .int .i64 ((rd_T63 l0 x19_2).f3.f0), .int .i64 ((rd_T63 l0 x19_2).f3.f1), .int .i64 ((rd_T63 l0 x19_2).f3.f2), .int .i64 ((rd_T63 l0 x19_2).f3.f3)] 63 (0, 0))) := ⟨by (with_reducible repeat (first | refine blk_drewN ?_ _ | refine blk_drew ?_ | refine blk_alloc ?_ _)); refine blk_put (cs := #[.int .i64 ((rd_T63 l0 x19_2).f0), .int .i64 ((rd_T63 l0 x19_2).f1), .slice A228_2 ((rd_T63 l0 x19_2).f2).length c228_2, .int .i64 ((rd_T63 l0 x19_2).f3.f0), .int .i64 ((rd_T63 l0 x19_2).f3.f1), .int .i64 ((rd_T63 l0 x19_2).f3.f2), .int .i64 0]) ?_ 6 _ rfl; (with_reducible repeat (first | refine blk_drewN ?_ _ | refine blk_drew ?_ | refine blk_alloc ?_ _)); refine blk_put (cs := #[.int .i64 ((rd_T63 l0 x19_2).f0), .int .i64 ((rd_T63 l0 x19_2).f1), .slice A228_2 ((rd_T63 l0 x19_2).f2).length c228_2, .int .i64 ((rd_T63 l0 x19_2).f3.f0), .int .i64 ((rd_T63 l0 x19_2).f3.f1), .int .i64 0, .int .i64 0]) ?_ 5 _ rfl; (with_reducible repeat (first | refine blk_drewN ?_ _ | refine blk_drew ?_ | refine blk_alloc ?_ _)); refine blk_put (cs := #[.int .i64 ((rd_T63 l0 x19_2).f0), .int .i64 ((rd_T63 l0 x19_2).f1), .slice A228_2 ((rd_T63 l0 x19_2).f2).length c228_2, .int .i64 ((rd_T63 l0 x19_2).f3.f0), .int .i64 0, .int .i64 0, .int .i64 0]) ?_ 4 _ rfl; (with_reducible repeat (first | refine blk_drewN ?_ _ | refine blk_drew ?_ | refine blk_alloc ?_ _)); refine blk_put (cs := #[.int .i64 ((rd_T63 l0 x19_2).f0), .int .i64 ((rd_T63 l0 x19_2).f1), .slice A228_2 ((rd_T63 l0 x19_2).f2).length c228_2, .int .i64 0, .int .i64 0, .int .i64 0, .int .i64 0]) ?_ 3 _ rfl; (with_reducible repeat (first | refine blk_drewN ?_ _ | refine blk_drew ?_ | refine blk_alloc ?_ _)); refine blk_put (cs := #[.int .i64 ((rd_T63 l0 x19_2).f0), .int .i64 ((rd_T63 l0 x19_2).f1), .slice none 0 0, .int .i64 0, .int .i64 0, .int .i64 0, .int .i64 0]) ?_ 2 _ rfl; (with_reducible repeat (first | refine blk_drewN ?_ _ | refine blk_drew ?_ | refine blk_alloc ?_ _)); refine blk_put (cs := #[.int .i64 ((rd_T63 l0 x19_2).f0), .int .i64 0, .slice none 0 0, .int .i64 0, .int .i64 0, .int .i64 0, .int .i64 0]) ?_ 1 _ rfl; (with_reducible repeat (first | refine blk_drewN ?_ _ | refine blk_drew ?_ | refine blk_alloc ?_ _)); refine blk_put (cs := #[.int .i64 0, .int .i64 0, .slice none 0 0, .int .i64 0, .int .i64 0, .int .i64 0, .int .i64 0]) ?_ 0 _ rfl; (with_reducible repeat (first | refine blk_drewN ?_ _ | refine blk_drew ?_ | refine blk_alloc ?_ _)); exact BK229.out⟩
                        have n1_ : Aside0 (Below w.heap.size w (((((((w38.setCell ⟨gb229, 0, none⟩ (.int .i64 ((rd_T63 l0 x19_2).f0))).setCell ⟨gb229, 1, none⟩ (.int .i64 ((rd_T63 l0 x19_2).f1))).setCell ⟨gb229, 2, none⟩ (.slice A228_2 ((rd_T63 l0 x19_2).f2).length c228_2)).setCell ⟨gb229, 3, none⟩ (.int .i64 ((rd_T63 l0 x19_2).f3.f0))).setCell ⟨gb229, 4, none⟩ (.int .i64 ((rd_T63 l0 x19_2).f3.f1))).setCell ⟨gb229, 5, none⟩ (.int .i64 ((rd_T63 l0 x19_2).f3.f2))).setCell ⟨gb229, 6, none⟩ (.int .i64 ((rd_T63 l0 x19_2).f3.f3)))) := ⟨by repeat (first | (with_reducible first | exact HB.out | apply below_alloc | apply pw_below_drewN | apply below_drew1 | refine below_set ?_ GE229.out) | exact HB.out)⟩
                        (try clear BK229)
                        (try clear HB)
                        generalize (((((((w38.setCell ⟨gb229, 0, none⟩ (.int .i64 ((rd_T63 l0 x19_2).f0))).setCell ⟨gb229, 1, none⟩ (.int .i64 ((rd_T63 l0 x19_2).f1))).setCell ⟨gb229, 2, none⟩ (.slice A228_2 ((rd_T63 l0 x19_2).f2).length c228_2)).setCell ⟨gb229, 3, none⟩ (.int .i64 ((rd_T63 l0 x19_2).f3.f0))).setCell ⟨gb229, 4, none⟩ (.int .i64 ((rd_T63 l0 x19_2).f3.f1))).setCell ⟨gb229, 5, none⟩ (.int .i64 ((rd_T63 l0 x19_2).f3.f2))).setCell ⟨gb229, 6, none⟩ (.int .i64 ((rd_T63 l0 x19_2).f3.f3))) = w40 at n0_ n1_ ⊢
                        have BK229 := n0_
                        have HB := n1_
                        clear n0_ n1_
                        have n0_ := Aside0.mk (blk_drew BK229.out)
                        have n1_ := Aside0.mk (below_drew1 HB.out)
                        clear BK229
                        clear HB
                        have BK229 := n0_
                        have HB := n1_
                        clear n0_ n1_
                        have q42 : (x19_2 : Int) ≤ ((l0.length : Int) : Int) := of_decide_eq_true (by first | (with_reducible assumption) | assumption)
                        obtain ⟨i042, hi042, _, hsz42, _⟩ := info_parts info63
                        have hroom42 : l0.length ≤ c0 := HC0.out
                        have hC42 : Kd.C k63 _ (some ad228) l0.length l0 := HR0.out
                        have hcut42 := cut_to (P := Try.prog) 38 63 .i64 Try.underlying38 hi042 (some ad228) l0.length c0 x19_2 (of_decide_eq_true (by first | (with_reducible assumption) | assumption)) q42 hroom42
                        have hr42 := Kd.C_take (m := (x19_2 : Int).toNat) hC42 (by omega)
                        have hy42 : y230.length = (x19_2 : Int).toNat := (by rw [Ny230.out, List.length_take]; omega)
                        rw [← Ny230.out] at hr42
                        rw [← hy42] at hcut42
                        have HR233 := Aside0.mk hr42
                        have HC233 := Aside0.mk (show y230.length ≤ c0 from by omega)
                        clear hr42 hC42 hroom42 hi042 hsz42
                        have KY42 := Aside0.mk hy42
                        clear hy42
                        replace q42 := eq_true q42
                        refine start_ (n := 17) (S := fun w' => w'.cell? ⟨gb229, 0, none⟩ = some (.int .i64 ((rd_T63 l0 x19_2).f0)) ∧ w'.cell? ⟨gb229, 1, none⟩ = some (.int .i64 ((rd_T63 l0 x19_2).f1)) ∧ w'.cell? ⟨gb229, 2, none⟩ = some (.slice A228_2 ((rd_T63 l0 x19_2).f2).length c228_2) ∧ w'.cell? ⟨gb229, 3, none⟩ = some (.int .i64 ((rd_T63 l0 x19_2).f3.f0)) ∧ w'.cell? ⟨gb229, 4, none⟩ = some (.int .i64 ((rd_T63 l0 x19_2).f3.f1)) ∧ w'.cell? ⟨gb229, 5, none⟩ = some (.int .i64 ((rd_T63 l0 x19_2).f3.f2)) ∧ w'.cell? ⟨gb229, 6, none⟩ = some (.int .i64 ((rd_T63 l0 x19_2).f3.f3))) (ds := []) #[false, false, false, false, false, false, false, false, false, false, false, false, false, false, false, false, false] (by kernel_rfl) rfl rfl ⟨(blk_cell BK229.out 0).trans rfl, (blk_cell BK229.out 1).trans rfl, (blk_cell BK229.out 2).trans rfl, (blk_cell BK229.out 3).trans rfl, (blk_cell BK229.out 4).trans rfl, (blk_cell BK229.out 5).trans rfl, (blk_cell BK229.out 6).trans rfl⟩ (fun hHeld => ?_); refine with_tabW impl_TreeOk.tab6 impl_TreeOk.bits6 (fun HT_ HW_ => ?_)
                        generalize w40.drew = w41 at BK229 HB HR233 hHeld ⊢
                        refine pure_ (i := 0) (N := some 24) (v := ?_) (a' := ?_) #[true, false, false, false, false, false, false, false, false, false, false, false, false, false, false, false, false] rfl rfl (any_of HT_.out (by kernel_rfl)) (fun _ _ _ h => h) (Or.inl ⟨by rfl, ?_⟩) ?_ ?_
                        rotate_left
                        · intro w'
                          go_simp
                          with_reducible rfl
                        rotate_left
                        · simp only [Act.put, List.setIfInBounds_toArray, List.set_cons_zero, List.set_cons_succ, i64_w, i32_w]
                          rfl
                        refine pure_ (i := 1) (N := some 25) (v := ?_) (a' := ?_) #[true, true, false, false, false, false, false, false, false, false, false, false, false, false, false, false, false] rfl rfl (any_of HT_.out (by kernel_rfl)) (fun _ _ _ h => h) (Or.inl ⟨by rfl, ?_⟩) ?_ ?_
                        rotate_left
                        · intro w'
                          go_simp
                          with_reducible rfl
                        rotate_left
                        · simp only [Act.put, List.setIfInBounds_toArray, List.set_cons_zero, List.set_cons_succ, i64_w, i32_w]
                          rfl
                        refine pure_ (i := 2) (N := some 26) (v := ?_) (a' := ?_) #[true, true, true, false, false, false, false, false, false, false, false, false, false, false, false, false, false] rfl rfl (any_of HT_.out (by kernel_rfl)) (fun _ _ _ h => h) (Or.inl ⟨by rfl, ?_⟩) ?_ ?_
                        rotate_left
                        · intro w'
                          go_simp
                          with_reducible rfl
                        rotate_left
                        · simp only [Act.put, List.setIfInBounds_toArray, List.set_cons_zero, List.set_cons_succ, i64_w, i32_w]
                          rfl
                        refine pure_ (i := 3) (N := some 27) (v := ?_) (a' := ?_) #[true, true, true, true, false, false, false, false, false, false, false, false, false, false, false, false, false] rfl rfl (any_of HT_.out (by kernel_rfl)) (fun _ _ _ h => h) (Or.inl ⟨by rfl, ?_⟩) ?_ ?_
                        rotate_left
                        · intro w'
                          go_simp
                          with_reducible rfl
                        rotate_left
                        · simp only [Act.put, List.setIfInBounds_toArray, List.set_cons_zero, List.set_cons_succ, i64_w, i32_w]
                          rfl
                        refine pure_ (i := 4) (N := some 28) (v := ?_) (a' := ?_) #[true, true, true, true, true, false, false, false, false, false, false, false, false, false, false, false, false] rfl rfl (any_of HT_.out (by kernel_rfl)) (fun _ _ _ h => h) (Or.inl ⟨by rfl, ?_⟩) ?_ ?_
                        rotate_left
                        · intro w'
                          go_simp
                          with_reducible rfl
                        rotate_left
                        · simp only [Act.put, List.setIfInBounds_toArray, List.set_cons_zero, List.set_cons_succ, i64_w, i32_w]
                          rfl
                        refine pure_ (i := 5) (N := some 29) (v := ?_) (a' := ?_) #[true, true, true, true, true, true, false, false, false, false, false, false, false, false, false, false, false] rfl rfl (any_of HT_.out (by kernel_rfl)) (fun _ _ _ h => h) (Or.inl ⟨by rfl, ?_⟩) ?_ ?_
                        rotate_left
                        · intro w'
                          go_simp
                          with_reducible rfl
                        rotate_left
                        · simp only [Act.put, List.setIfInBounds_toArray, List.set_cons_zero, List.set_cons_succ, i64_w, i32_w]
                          rfl
                        refine take_ (i := 6) (N := some 30) (v := ?_) (a' := ?_) #[true, true, true, true, true, true, true, false, false, false, false, false, false, false, false, false, false] rfl rfl (take_ofW HT_.out HW_.out (by kernel_rfl)) (fun _ _ _ h => h) (Or.inl ⟨by rfl, ?_⟩) hHeld ?_ ?_
                        rotate_left
                        · rintro w' ⟨s0, s1, s2, s3, s4, s5, s6⟩
                          go_simp
                          with_reducible rfl
                        rotate_left
                        · simp only [Act.put, List.setIfInBounds_toArray, List.set_cons_zero, List.set_cons_succ, i64_w, i32_w]
                          rfl
                        refine one_ (i := 7) (N := some 31) #[true, true, true, true, true, true, true, true, false, false, false, false, false, false, false, false, false] rfl rfl (one_of HT_.out (by kernel_rfl)) (by decide) (fun K hK => ?_)
                        refine goes_ Try.func41 (by kernel_rfl) rfl #[.slice (some ad228) y230.length c0, .agg #[.int .i64 ((rd_T63 l0 x19_2).f0), .int .i64 ((rd_T63 l0 x19_2).f1), .slice A228_2 ((rd_T63 l0 x19_2).f2).length c228_2, .int .i64 ((rd_T63 l0 x19_2).f3.f0), .int .i64 ((rd_T63 l0 x19_2).f3.f1), .int .i64 ((rd_T63 l0 x19_2).f3.f2), .int .i64 ((rd_T63 l0 x19_2).f3.f3)]] (by rfl) rfl rfl (by (try simp only [List.map_toArray, List.map_cons, List.map_nil]); first | done | rfl | (simp only [List.length_drop, List.length_take]; rfl)) ?_
                        with_reducible refine (impl_BlockOk.calls k2 _ _ y230 ((rd_T63 l0 x19_2).f0) ((rd_T63 l0 x19_2).f1) _ _ ((rd_T63 l0 x19_2).f2) ((rd_T63 l0 x19_2).f3.f0) ((rd_T63 l0 x19_2).f3.f1) ((rd_T63 l0 x19_2).f3.f2) ((rd_T63 l0 x19_2).f3.f3) false _ ?side1 ?side2 ?side3 ?side4 A20.out).mono ?_
                        (case side1 => repeat (first | exact (Kd.C_below HR233.out HB.out) | (with_reducible refine Kd.C_alloc ?_ _) | (with_reducible refine Kd.C_drewN ?_ _) | (with_reducible refine Kd.C_drew ?_)))
                        (case side2 => exact HC233.out)
                        (case side3 => repeat (first | exact (Kd.C_below HR228_2.out HB.out) | (with_reducible refine Kd.C_alloc ?_ _) | (with_reducible refine Kd.C_drewN ?_ _) | (with_reducible refine Kd.C_drew ?_)))
                        (case side4 => exact HC228_2.out)
                        rintro e w43 ⟨rfl, hb⟩
                        refine ⟨_, rfl, ?_⟩
                        have n0_ := Aside0.mk (blk_below (g := gb229) (o := .cells #[.int .i64 ((rd_T63 l0 x19_2).f0), .int .i64 ((rd_T63 l0 x19_2).f1), .slice A228_2 ((rd_T63 l0 x19_2).f2).length c228_2, .int .i64 ((rd_T63 l0 x19_2).f3.f0), .int .i64 ((rd_T63 l0 x19_2).f3.f1), .int .i64 ((rd_T63 l0 x19_2).f3.f2), .int .i64 ((rd_T63 l0 x19_2).f3.f3)] 63 (0, 0)) (by (with_reducible repeat (first | refine blk_drewN ?_ _ | refine blk_drew ?_ | refine blk_alloc ?_ _)); exact BK229.out) hb)
                        have n1_ := Aside0.mk (below_step (by repeat (first | (with_reducible first | exact HB.out | apply below_alloc | apply pw_below_drewN | apply below_drew1 | refine below_set ?_ GE229.out) | exact HB.out)) hb)
                        clear BK229
                        clear HB
                        have BK229 := n0_
                        have HB := n1_
                        clear n0_ n1_
                        (try clear hb)
                        (try clear hb2)
                        (try clear hk)
                        (try clear hi)
                        refine hK.out _ _ ⟨(blk_cell BK229.out 0).trans rfl, (blk_cell BK229.out 1).trans rfl, (blk_cell BK229.out 2).trans rfl, (blk_cell BK229.out 3).trans rfl, (blk_cell BK229.out 4).trans rfl, (blk_cell BK229.out 5).trans rfl, (blk_cell BK229.out 6).trans rfl⟩ (fun hHeld => ?_)
                        clear hK K
                        refine norm_ (a' := ?_) ?_ ?_
                        rotate_left
                        · show Act.put _ (some 31) _ = _
                          simp only [Act.put, List.setIfInBounds_toArray, List.set_cons_zero, List.set_cons_succ, i64_w, i32_w]
                          rfl
                        refine pure_ (i := 8) (N := some 32) (v := ?_) (a' := ?_) #[true, true, true, true, true, true, true, true, true, false, false, false, false, false, false, false, false] rfl rfl (any_of HT_.out (by kernel_rfl)) (fun _ _ _ h => h) (Or.inl ⟨by rfl, ?_⟩) ?_ ?_
                        rotate_left
                        · intro w'
                          go_simp
                          with_reducible rfl
                        rotate_left
                        · simp only [Act.put, List.setIfInBounds_toArray, List.set_cons_zero, List.set_cons_succ, i64_w, i32_w]
                          rfl
                        refine pure_ (i := 9) (N := some 33) (v := ?_) (a' := ?_) #[true, true, true, true, true, true, true, true, true, true, false, false, false, false, false, false, false] rfl rfl (any_of HT_.out (by kernel_rfl)) (fun _ _ _ h => h) (Or.inl ⟨by rfl, ?_⟩) ?_ ?_
                        rotate_left
                        · intro w'
                          go_simp
                          with_reducible rfl
                        rotate_left
                        · simp only [Act.put, List.setIfInBounds_toArray, List.set_cons_zero, List.set_cons_succ, i64_w, i32_w]
                          rfl
                        refine pure_ (i := 10) (N := some 34) (v := ?_) (a' := ?_) #[true, true, true, true, true, true, true, true, true, true, true, false, false, false, false, false, false] rfl rfl (any_of HT_.out (by kernel_rfl)) (fun _ _ _ h => h) (Or.inl ⟨by rfl, ?_⟩) ?_ ?_
                        rotate_left
                        · intro w'
                          go_simp
                          with_reducible rfl
                        rotate_left
                        · simp only [Act.put, List.setIfInBounds_toArray, List.set_cons_zero, List.set_cons_succ, i64_w, i32_w]
                          rfl
                        refine pure_ (i := 11) (N := some 35) (v := undef) (a' := ?_) #[true, true, true, true, true, true, true, true, true, true, true, true, false, false, false, false, false] rfl rfl (any_of HT_.out (by kernel_rfl)) (fun _ _ _ h => h) (Or.inr ⟨by rfl, rfl⟩) ?_ ?_
                        rotate_left
                        · simp only [Act.put, List.setIfInBounds_toArray, List.set_cons_zero, List.set_cons_succ, i64_w, i32_w]
                          rfl
                        refine pure_ (i := 12) (N := some 36) (v := undef) (a' := ?_) #[true, true, true, true, true, true, true, true, true, true, true, true, true, false, false, false, false] rfl rfl (any_of HT_.out (by kernel_rfl)) (fun _ _ _ h => h) (Or.inr ⟨by rfl, rfl⟩) ?_ ?_
                        rotate_left
                        · simp only [Act.put, List.setIfInBounds_toArray, List.set_cons_zero, List.set_cons_succ, i64_w, i32_w]
                          rfl
                        refine pure_ (i := 13) (N := some 37) (v := undef) (a' := ?_) #[true, true, true, true, true, true, true, true, true, true, true, true, true, true, false, false, false] rfl rfl (any_of HT_.out (by kernel_rfl)) (fun _ _ _ h => h) (Or.inr ⟨by rfl, rfl⟩) ?_ ?_
                        rotate_left
                        · simp only [Act.put, List.setIfInBounds_toArray, List.set_cons_zero, List.set_cons_succ, i64_w, i32_w]
                          rfl
                        refine pure_ (i := 14) (N := some 38) (v := undef) (a' := ?_) #[true, true, true, true, true, true, true, true, true, true, true, true, true, true, true, false, false] rfl rfl (any_of HT_.out (by kernel_rfl)) (fun _ _ _ h => h) (Or.inr ⟨by rfl, rfl⟩) ?_ ?_
                        rotate_left
                        · simp only [Act.put, List.setIfInBounds_toArray, List.set_cons_zero, List.set_cons_succ, i64_w, i32_w]
                          rfl
                        refine pure_ (i := 15) (N := some 39) (v := undef) (a' := ?_) #[true, true, true, true, true, true, true, true, true, true, true, true, true, true, true, true, false] rfl rfl (any_of HT_.out (by kernel_rfl)) (fun _ _ _ h => h) (Or.inr ⟨by rfl, rfl⟩) ?_ ?_
                        rotate_left
                        · simp only [Act.put, List.setIfInBounds_toArray, List.set_cons_zero, List.set_cons_succ, i64_w, i32_w]
                          rfl
                        refine pure_ (i := 16) (N := some 40) (v := ?_) (a' := ?_) #[true, true, true, true, true, true, true, true, true, true, true, true, true, true, true, true, true] rfl rfl (any_of HT_.out (by kernel_rfl)) (fun _ _ _ h => h) (Or.inl ⟨by rfl, ?_⟩) ?_ ?_
                        rotate_left
                        · intro w'
                          go_simp
                          with_reducible rfl
                        rotate_left
                        · simp only [Act.put, List.setIfInBounds_toArray, List.set_cons_zero, List.set_cons_succ, i64_w, i32_w]
                          rfl
                        refine done_ (done_of HT_.out (by kernel_rfl)) ?_
                        try go_wp2
                        go_ret
                        exact ⟨by first | rfl | (simp [errW_none, errW_some] <;> rfl) | (simp [*, errW_none, errW_some] <;> rfl), by repeat (first | (with_reducible first | exact HB.out | apply below_alloc | apply pw_below_drewN | apply below_drew1 | refine below_set ?_ GE229.out) | exact HB.out)⟩
                    · rw [if_neg c19] at H
                      exact absurd H (by simp)
                  · rw [if_neg c17] at H
                    have c17b0 : decide (0 < x19_2) = false := decide_eq_false c17
                    clear c17
                    replace H := Option.bind_eq_some_iff.mp H
                    obtain ⟨t236, A440, H⟩ := H
                    replace H : (if t236 = x19_2 then (impl_TreeOk.l0 k2 l0 l0 (l0.length : Int) (wrap64 (x19_2 + 1))) else (some false)) = some r := H
                    have A44 := Aside0.mk A440
                    clear A440
                    by_cases c45 : t236 = x19_2
                    · rw [if_pos c45] at H
                      have c45b0 : (t236 == x19_2) = true := beq_iff_eq.mpr c45
                      have c45b1 : (t236 != x19_2) = false := bne_eq_false_iff_eq.mpr c45
                      clear c45
                      have H' := Aside0.mk H
                      clear H
                      have p228 : 0 ≤ (x19_2 : Int) := of_decide_eq_true (by first | (with_reducible assumption) | assumption)
                      have q228 : x19_2 < (l0.length : Int) := of_decide_eq_true (by first | (with_reducible assumption) | assumption)
                      obtain ⟨ad228, A228_2, c228_2, e228, hx228_0, hx228_1, hx228_2, hx228_3, hx228_4, hx228_5, hx228_6, hl228_2, hi228_2⟩ := at_T63 HR0.out x19_2 p228 q228
                      cases e228
                      replace hx228_0 := (HB.out.cell (World.block_lt_of_cell? w _ hx228_0)).trans hx228_0
                      replace hx228_1 := (HB.out.cell (World.block_lt_of_cell? w _ hx228_1)).trans hx228_1
                      replace hx228_2 := (HB.out.cell (World.block_lt_of_cell? w _ hx228_2)).trans hx228_2
                      replace hx228_3 := (HB.out.cell (World.block_lt_of_cell? w _ hx228_3)).trans hx228_3
                      replace hx228_4 := (HB.out.cell (World.block_lt_of_cell? w _ hx228_4)).trans hx228_4
                      replace hx228_5 := (HB.out.cell (World.block_lt_of_cell? w _ hx228_5)).trans hx228_5
                      replace hx228_6 := (HB.out.cell (World.block_lt_of_cell? w _ hx228_6)).trans hx228_6
                      have HR228_2 := Aside0.mk hi228_2
                      have HC228_2 := Aside0.mk hl228_2
                      clear hi228_2 hl228_2
                      replace p228 := eq_true p228
                      replace q228 := eq_true q228
                      try go_wp2_with (first | ((with_reducible refine gate_dst (N := 4) rfl ?_); refine box_event ?hg (N := 4) ?hd (cs := #[.int .i64 0, .int .i64 0, .slice none 0 0, .int .i64 0, .int .i64 0, .int .i64 0, .int .i64 0]) (t := 63) ?hr ?_; (case hd => rfl); (case hg => rfl); (case hr => first | (go_simp; done) | (go_simp; rfl)); intro gb229 hg w46 hbox hb; have n0_ := Aside0.mk (below_step (by repeat (first | (with_reducible first | exact HB.out | apply below_alloc | apply pw_below_drewN | apply below_drew1) | exact HB.out)) hb); have n1_ := Aside0.mk (hbox); have n2_ := Aside0.mk ((by rw [hg]; exact (below_size (by repeat (first | (with_reducible first | exact HB.out | apply below_alloc | apply pw_below_drewN | apply below_drew1) | exact HB.out))) : w.heap.size ≤ gb229)); have n3_ := Aside0.mk ((by rw [hg]; exact (below_size (by repeat (first | (with_reducible first | exact HB.out | apply below_alloc | apply pw_below_drewN | apply below_drew1) | exact HB.out))) : w.heap.size ≤ gb229)); clear HB; have HB := n0_; have BK229 := n1_; have GW229 := n2_; have GE229 := n3_; clear n0_ n1_ n2_ n3_; clear hb hbox hg; have hcz47_0 : w46.cell? ⟨gb229, 0, none⟩ = some (.int .i64 0) := (blk_cell BK229.out 0).trans rfl; have hcz47_1 : w46.cell? ⟨gb229, 1, none⟩ = some (.int .i64 0) := (blk_cell BK229.out 1).trans rfl; have hcz47_2 : w46.cell? ⟨gb229, 2, none⟩ = some (.slice none 0 0) := (blk_cell BK229.out 2).trans rfl; have hcz47_3 : w46.cell? ⟨gb229, 3, none⟩ = some (.int .i64 0) := (blk_cell BK229.out 3).trans rfl; have hcz47_4 : w46.cell? ⟨gb229, 4, none⟩ = some (.int .i64 0) := (blk_cell BK229.out 4).trans rfl; have hcz47_5 : w46.cell? ⟨gb229, 5, none⟩ = some (.int .i64 0) := (blk_cell BK229.out 5).trans rfl; have hcz47_6 : w46.cell? ⟨gb229, 6, none⟩ = some (.int .i64 0) := (blk_cell BK229.out 6).trans rfl; have hfz47_0 := blk_frozen BK229.out 0; have hfz47_1 := blk_frozen BK229.out 1; have hfz47_2 := blk_frozen BK229.out 2; have hfz47_3 := blk_frozen BK229.out 3; have hfz47_4 := blk_frozen BK229.out 4; have hfz47_5 := blk_frozen BK229.out 5; have hfz47_6 := blk_frozen BK229.out 6))
                      have n0_ : Aside0 ((((((((w46.setCell ⟨gb229, 0, none⟩ (.int .i64 ((rd_T63 l0 x19_2).f0))).setCell ⟨gb229, 1, none⟩ (.int .i64 ((rd_T63 l0 x19_2).f1))).setCell ⟨gb229, 2, none⟩ (.slice A228_2 ((rd_T63 l0 x19_2).f2).length c228_2)).setCell ⟨gb229, 3, none⟩ (.int .i64 ((rd_T63 l0 x19_2).f3.f0))).setCell ⟨gb229, 4, none⟩ (.int .i64 ((rd_T63 l0 x19_2).f3.f1))).setCell ⟨gb229, 5, none⟩ (.int .i64 ((rd_T63 l0 x19_2).f3.f2))).setCell ⟨gb229, 6, none⟩ (.int .i64 ((rd_T63 l0 x19_2).f3.f3))).heap[gb229]? = some (.cells #[.int .i64 ((rd_T63 l0 x19_2).f0), .int .i64 ((rd_T63 l0 x19_2).f1), .slice A228_2 ((rd_T63 l0 x19_2).f2).length c228_2, .int .i64 ((rd_T63 l0 x19_2).f3.f0), .int .i64 ((rd_T63 l0 x19_2).f3.f1), .int .i64 ((rd_T63 l0 x19_2).f3.f2), .int .i64 ((rd_T63 l0 x19_2).f3.f3)] 63 (0, 0))) := ⟨by (with_reducible repeat (first | refine blk_drewN ?_ _ | refine blk_drew ?_ | refine blk_alloc ?_ _)); refine blk_put (cs := #[.int .i64 ((rd_T63 l0 x19_2).f0), .int .i64 ((rd_T63 l0 x19_2).f1), .slice A228_2 ((rd_T63 l0 x19_2).f2).length c228_2, .int .i64 ((rd_T63 l0 x19_2).f3.f0), .int .i64 ((rd_T63 l0 x19_2).f3.f1), .int .i64 ((rd_T63 l0 x19_2).f3.f2), .int .i64 0]) ?_ 6 _ rfl; (with_reducible repeat (first | refine blk_drewN ?_ _ | refine blk_drew ?_ | refine blk_alloc ?_ _)); refine blk_put (cs := #[.int .i64 ((rd_T63 l0 x19_2).f0), .int .i64 ((rd_T63 l0 x19_2).f1), .slice A228_2 ((rd_T63 l0 x19_2).f2).length c228_2, .int .i64 ((rd_T63 l0 x19_2).f3.f0), .int .i64 ((rd_T63 l0 x19_2).f3.f1), .int .i64 0, .int .i64 0]) ?_ 5 _ rfl; (with_reducible repeat (first | refine blk_drewN ?_ _ | refine blk_drew ?_ | refine blk_alloc ?_ _)); refine blk_put (cs := #[.int .i64 ((rd_T63 l0 x19_2).f0), .int .i64 ((rd_T63 l0 x19_2).f1), .slice A228_2 ((rd_T63 l0 x19_2).f2).length c228_2, .int .i64 ((rd_T63 l0 x19_2).f3.f0), .int .i64 0, .int .i64 0, .int .i64 0]) ?_ 4 _ rfl; (with_reducible repeat (first | refine blk_drewN ?_ _ | refine blk_drew ?_ | refine blk_alloc ?_ _)); refine blk_put (cs := #[.int .i64 ((rd_T63 l0 x19_2).f0), .int .i64 ((rd_T63 l0 x19_2).f1), .slice A228_2 ((rd_T63 l0 x19_2).f2).length c228_2, .int .i64 0, .int .i64 0, .int .i64 0, .int .i64 0]) ?_ 3 _ rfl; (with_reducible repeat (first | refine blk_drewN ?_ _ | refine blk_drew ?_ | refine blk_alloc ?_ _)); refine blk_put (cs := #[.int .i64 ((rd_T63 l0 x19_2).f0), .int .i64 ((rd_T63 l0 x19_2).f1), .slice none 0 0, .int .i64 0, .int .i64 0, .int .i64 0, .int .i64 0]) ?_ 2 _ rfl; (with_reducible repeat (first | refine blk_drewN ?_ _ | refine blk_drew ?_ | refine blk_alloc ?_ _)); refine blk_put (cs := #[.int .i64 ((rd_T63 l0 x19_2).f0), .int .i64 0, .slice none 0 0, .int .i64 0, .int .i64 0, .int .i64 0, .int .i64 0]) ?_ 1 _ rfl; (with_reducible repeat (first | refine blk_drewN ?_ _ | refine blk_drew ?_ | refine blk_alloc ?_ _)); refine blk_put (cs := #[.int .i64 0, .int .i64 0, .slice none 0 0, .int .i64 0, .int .i64 0, .int .i64 0, .int .i64 0]) ?_ 0 _ rfl; (with_reducible repeat (first | refine blk_drewN ?_ _ | refine blk_drew ?_ | refine blk_alloc ?_ _)); exact BK229.out⟩
                      have n1_ : Aside0 (Below w.heap.size w (((((((w46.setCell ⟨gb229, 0, none⟩ (.int .i64 ((rd_T63 l0 x19_2).f0))).setCell ⟨gb229, 1, none⟩ (.int .i64 ((rd_T63 l0 x19_2).f1))).setCell ⟨gb229, 2, none⟩ (.slice A228_2 ((rd_T63 l0 x19_2).f2).length c228_2)).setCell ⟨gb229, 3, none⟩ (.int .i64 ((rd_T63 l0 x19_2).f3.f0))).setCell ⟨gb229, 4, none⟩ (.int .i64 ((rd_T63 l0 x19_2).f3.f1))).setCell ⟨gb229, 5, none⟩ (.int .i64 ((rd_T63 l0 x19_2).f3.f2))).setCell ⟨gb229, 6, none⟩ (.int .i64 ((rd_T63 l0 x19_2).f3.f3)))) := ⟨by repeat (first | (with_reducible first | exact HB.out | apply below_alloc | apply pw_below_drewN | apply below_drew1 | refine below_set ?_ GE229.out) | exact HB.out)⟩
                      (try clear BK229)
                      (try clear HB)
                      generalize (((((((w46.setCell ⟨gb229, 0, none⟩ (.int .i64 ((rd_T63 l0 x19_2).f0))).setCell ⟨gb229, 1, none⟩ (.int .i64 ((rd_T63 l0 x19_2).f1))).setCell ⟨gb229, 2, none⟩ (.slice A228_2 ((rd_T63 l0 x19_2).f2).length c228_2)).setCell ⟨gb229, 3, none⟩ (.int .i64 ((rd_T63 l0 x19_2).f3.f0))).setCell ⟨gb229, 4, none⟩ (.int .i64 ((rd_T63 l0 x19_2).f3.f1))).setCell ⟨gb229, 5, none⟩ (.int .i64 ((rd_T63 l0 x19_2).f3.f2))).setCell ⟨gb229, 6, none⟩ (.int .i64 ((rd_T63 l0 x19_2).f3.f3))) = w48 at n0_ n1_ ⊢
                      have BK229 := n0_
                      have HB := n1_
                      clear n0_ n1_
                      have n0_ := Aside0.mk (blk_drew BK229.out)
                      have n1_ := Aside0.mk (below_drew1 HB.out)
                      clear BK229
                      clear HB
                      have BK229 := n0_
                      have HB := n1_
                      clear n0_ n1_
                      refine start_ (n := 17) (S := fun w' => w'.cell? ⟨gb229, 0, none⟩ = some (.int .i64 ((rd_T63 l0 x19_2).f0)) ∧ w'.cell? ⟨gb229, 1, none⟩ = some (.int .i64 ((rd_T63 l0 x19_2).f1)) ∧ w'.cell? ⟨gb229, 2, none⟩ = some (.slice A228_2 ((rd_T63 l0 x19_2).f2).length c228_2) ∧ w'.cell? ⟨gb229, 3, none⟩ = some (.int .i64 ((rd_T63 l0 x19_2).f3.f0)) ∧ w'.cell? ⟨gb229, 4, none⟩ = some (.int .i64 ((rd_T63 l0 x19_2).f3.f1)) ∧ w'.cell? ⟨gb229, 5, none⟩ = some (.int .i64 ((rd_T63 l0 x19_2).f3.f2)) ∧ w'.cell? ⟨gb229, 6, none⟩ = some (.int .i64 ((rd_T63 l0 x19_2).f3.f3))) (ds := []) #[false, false, false, false, false, false, false, false, false, false, false, false, false, false, false, false, false] (by kernel_rfl) rfl rfl ⟨(blk_cell BK229.out 0).trans rfl, (blk_cell BK229.out 1).trans rfl, (blk_cell BK229.out 2).trans rfl, (blk_cell BK229.out 3).trans rfl, (blk_cell BK229.out 4).trans rfl, (blk_cell BK229.out 5).trans rfl, (blk_cell BK229.out 6).trans rfl⟩ (fun hHeld => ?_); refine with_tabW impl_TreeOk.tab6 impl_TreeOk.bits6 (fun HT_ HW_ => ?_)
                      generalize w48.drew = w49 at BK229 HB hHeld ⊢
                      refine pure_ (i := 0) (N := some 24) (v := ?_) (a' := ?_) #[true, false, false, false, false, false, false, false, false, false, false, false, false, false, false, false, false] rfl rfl (any_of HT_.out (by kernel_rfl)) (fun _ _ _ h => h) (Or.inl ⟨by rfl, ?_⟩) ?_ ?_
                      rotate_left
                      · intro w'
                        go_simp
                        with_reducible rfl
                      rotate_left
                      · simp only [Act.put, List.setIfInBounds_toArray, List.set_cons_zero, List.set_cons_succ, i64_w, i32_w]
                        rfl
                      refine pure_ (i := 1) (N := some 25) (v := ?_) (a' := ?_) #[true, true, false, false, false, false, false, false, false, false, false, false, false, false, false, false, false] rfl rfl (any_of HT_.out (by kernel_rfl)) (fun _ _ _ h => h) (Or.inl ⟨by rfl, ?_⟩) ?_ ?_
                      rotate_left
                      · intro w'
                        go_simp
                        with_reducible rfl
                      rotate_left
                      · simp only [Act.put, List.setIfInBounds_toArray, List.set_cons_zero, List.set_cons_succ, i64_w, i32_w]
                        rfl
                      refine pure_ (i := 2) (N := some 26) (v := ?_) (a' := ?_) #[true, true, true, false, false, false, false, false, false, false, false, false, false, false, false, false, false] rfl rfl (any_of HT_.out (by kernel_rfl)) (fun _ _ _ h => h) (Or.inl ⟨by rfl, ?_⟩) ?_ ?_
                      rotate_left
                      · intro w'
                        go_simp
                        with_reducible rfl
                      rotate_left
                      · simp only [Act.put, List.setIfInBounds_toArray, List.set_cons_zero, List.set_cons_succ, i64_w, i32_w]
                        rfl
                      refine pure_ (i := 3) (N := some 27) (v := undef) (a' := ?_) #[true, true, true, true, false, false, false, false, false, false, false, false, false, false, false, false, false] rfl rfl (any_of HT_.out (by kernel_rfl)) (fun _ _ _ h => h) (Or.inr ⟨by rfl, rfl⟩) ?_ ?_
                      rotate_left
                      · simp only [Act.put, List.setIfInBounds_toArray, List.set_cons_zero, List.set_cons_succ, i64_w, i32_w]
                        rfl
                      refine pure_ (i := 4) (N := some 28) (v := undef) (a' := ?_) #[true, true, true, true, true, false, false, false, false, false, false, false, false, false, false, false, false] rfl rfl (any_of HT_.out (by kernel_rfl)) (fun _ _ _ h => h) (Or.inr ⟨by rfl, rfl⟩) ?_ ?_
                      rotate_left
                      · simp only [Act.put, List.setIfInBounds_toArray, List.set_cons_zero, List.set_cons_succ, i64_w, i32_w]
                        rfl
                      refine pure_ (i := 5) (N := some 29) (v := undef) (a' := ?_) #[true, true, true, true, true, true, false, false, false, false, false, false, false, false, false, false, false] rfl rfl (any_of HT_.out (by kernel_rfl)) (fun _ _ _ h => h) (Or.inr ⟨by rfl, rfl⟩) ?_ ?_
                      rotate_left
                      · simp only [Act.put, List.setIfInBounds_toArray, List.set_cons_zero, List.set_cons_succ, i64_w, i32_w]
                        rfl
                      refine pure_ (i := 6) (N := some 30) (v := undef) (a' := ?_) #[true, true, true, true, true, true, true, false, false, false, false, false, false, false, false, false, false] rfl rfl (any_of HT_.out (by kernel_rfl)) (fun _ _ _ h => h) (Or.inr ⟨by rfl, rfl⟩) ?_ ?_
                      rotate_left
                      · simp only [Act.put, List.setIfInBounds_toArray, List.set_cons_zero, List.set_cons_succ, i64_w, i32_w]
                        rfl
                      refine pure_ (i := 7) (N := some 31) (v := undef) (a' := ?_) #[true, true, true, true, true, true, true, true, false, false, false, false, false, false, false, false, false] rfl rfl (any_of HT_.out (by kernel_rfl)) (fun _ _ _ h => h) (Or.inr ⟨by rfl, rfl⟩) ?_ ?_
                      rotate_left
                      · simp only [Act.put, List.setIfInBounds_toArray, List.set_cons_zero, List.set_cons_succ, i64_w, i32_w]
                        rfl
                      refine pure_ (i := 8) (N := some 32) (v := undef) (a' := ?_) #[true, true, true, true, true, true, true, true, true, false, false, false, false, false, false, false, false] rfl rfl (any_of HT_.out (by kernel_rfl)) (fun _ _ _ h => h) (Or.inr ⟨by rfl, rfl⟩) ?_ ?_
                      rotate_left
                      · simp only [Act.put, List.setIfInBounds_toArray, List.set_cons_zero, List.set_cons_succ, i64_w, i32_w]
                        rfl
                      refine pure_ (i := 9) (N := some 33) (v := ?_) (a' := ?_) #[true, true, true, true, true, true, true, true, true, true, false, false, false, false, false, false, false] rfl rfl (any_of HT_.out (by kernel_rfl)) (fun _ _ _ h => h) (Or.inl ⟨by rfl, ?_⟩) ?_ ?_
                      rotate_left
                      · intro w'
                        go_simp
                        with_reducible rfl
                      rotate_left
                      · simp only [Act.put, List.setIfInBounds_toArray, List.set_cons_zero, List.set_cons_succ, i64_w, i32_w]
                        rfl
                      refine pure_ (i := 10) (N := some 34) (v := ?_) (a' := ?_) #[true, true, true, true, true, true, true, true, true, true, true, false, false, false, false, false, false] rfl rfl (any_of HT_.out (by kernel_rfl)) (fun _ _ _ h => h) (Or.inl ⟨by rfl, ?_⟩) ?_ ?_
                      rotate_left
                      · intro w'
                        go_simp
                        with_reducible rfl
                      rotate_left
                      · simp only [Act.put, List.setIfInBounds_toArray, List.set_cons_zero, List.set_cons_succ, i64_w, i32_w]
                        rfl
                      refine pure_ (i := 11) (N := some 35) (v := ?_) (a' := ?_) #[true, true, true, true, true, true, true, true, true, true, true, true, false, false, false, false, false] rfl rfl (any_of HT_.out (by kernel_rfl)) (fun _ _ _ h => h) (Or.inl ⟨by rfl, ?_⟩) ?_ ?_
                      rotate_left
                      · intro w'
                        go_simp
                        with_reducible rfl
                      rotate_left
                      · simp only [Act.put, List.setIfInBounds_toArray, List.set_cons_zero, List.set_cons_succ, i64_w, i32_w]
                        rfl
                      refine pure_ (i := 14) (N := some 38) (v := ?_) (a' := ?_) #[true, true, true, true, true, true, true, true, true, true, true, true, false, false, true, false, false] rfl rfl (any_of HT_.out (by kernel_rfl)) (fun _ _ _ h => h) (Or.inl ⟨by rfl, ?_⟩) ?_ ?_
                      rotate_left
                      · intro w'
                        go_simp
                        with_reducible rfl
                      rotate_left
                      · simp only [Act.put, List.setIfInBounds_toArray, List.set_cons_zero, List.set_cons_succ, i64_w, i32_w]
                        rfl
                      refine take_ (i := 12) (N := some 36) (v := ?_) (a' := ?_) #[true, true, true, true, true, true, true, true, true, true, true, true, true, false, true, false, false] rfl rfl (take_ofW HT_.out HW_.out (by kernel_rfl)) (fun _ _ _ h => h) (Or.inl ⟨by rfl, ?_⟩) hHeld ?_ ?_
                      rotate_left
                      · rintro w' ⟨s0, s1, s2, s3, s4, s5, s6⟩
                        go_simp
                        with_reducible rfl
                      rotate_left
                      · simp only [Act.put, List.setIfInBounds_toArray, List.set_cons_zero, List.set_cons_succ, i64_w, i32_w]
                        rfl
                      refine one_ (i := 13) (N := some 37) #[true, true, true, true, true, true, true, true, true, true, true, true, true, true, true, false, false] rfl rfl (one_of HT_.out (by kernel_rfl)) (by decide) (fun K hK => ?_)
                      refine goes_ Try.func38 (by kernel_rfl) rfl #[.slice (some ad228) l0.length c0, .agg #[.int .i64 ((rd_T63 l0 x19_2).f0), .int .i64 ((rd_T63 l0 x19_2).f1), .slice A228_2 ((rd_T63 l0 x19_2).f2).length c228_2, .int .i64 ((rd_T63 l0 x19_2).f3.f0), .int .i64 ((rd_T63 l0 x19_2).f3.f1), .int .i64 ((rd_T63 l0 x19_2).f3.f2), .int .i64 ((rd_T63 l0 x19_2).f3.f3)]] (by rfl) rfl rfl (by (try simp only [List.map_toArray, List.map_cons, List.map_nil]); first | done | rfl | (simp only [List.length_drop, List.length_take]; rfl)) ?_
                      with_reducible refine (impl_BlockAt.calls k2 _ _ l0 ((rd_T63 l0 x19_2).f0) ((rd_T63 l0 x19_2).f1) _ _ ((rd_T63 l0 x19_2).f2) ((rd_T63 l0 x19_2).f3.f0) ((rd_T63 l0 x19_2).f3.f1) ((rd_T63 l0 x19_2).f3.f2) ((rd_T63 l0 x19_2).f3.f3) t236 _ ?side1 ?side2 ?side3 ?side4 A44.out).mono ?_
                      (case side1 => repeat (first | exact (Kd.C_below HR0.out HB.out) | (with_reducible refine Kd.C_alloc ?_ _) | (with_reducible refine Kd.C_drewN ?_ _) | (with_reducible refine Kd.C_drew ?_)))
                      (case side2 => exact HC0.out)
                      (case side3 => repeat (first | exact (Kd.C_below HR228_2.out HB.out) | (with_reducible refine Kd.C_alloc ?_ _) | (with_reducible refine Kd.C_drewN ?_ _) | (with_reducible refine Kd.C_drew ?_)))
                      (case side4 => exact HC228_2.out)
                      rintro e w50 ⟨rfl, hb⟩
                      refine ⟨_, rfl, ?_⟩
                      have n0_ := Aside0.mk (blk_below (g := gb229) (o := .cells #[.int .i64 ((rd_T63 l0 x19_2).f0), .int .i64 ((rd_T63 l0 x19_2).f1), .slice A228_2 ((rd_T63 l0 x19_2).f2).length c228_2, .int .i64 ((rd_T63 l0 x19_2).f3.f0), .int .i64 ((rd_T63 l0 x19_2).f3.f1), .int .i64 ((rd_T63 l0 x19_2).f3.f2), .int .i64 ((rd_T63 l0 x19_2).f3.f3)] 63 (0, 0)) (by (with_reducible repeat (first | refine blk_drewN ?_ _ | refine blk_drew ?_ | refine blk_alloc ?_ _)); exact BK229.out) hb)
                      have n1_ := Aside0.mk (below_step (by repeat (first | (with_reducible first | exact HB.out | apply below_alloc | apply pw_below_drewN | apply below_drew1 | refine below_set ?_ GE229.out) | exact HB.out)) hb)
                      clear BK229
                      clear HB
                      have BK229 := n0_
                      have HB := n1_
                      clear n0_ n1_
                      (try clear hb)
                      (try clear hb2)
                      (try clear hk)
                      (try clear hi)
                      refine hK.out _ _ ⟨(blk_cell BK229.out 0).trans rfl, (blk_cell BK229.out 1).trans rfl, (blk_cell BK229.out 2).trans rfl, (blk_cell BK229.out 3).trans rfl, (blk_cell BK229.out 4).trans rfl, (blk_cell BK229.out 5).trans rfl, (blk_cell BK229.out 6).trans rfl⟩ (fun hHeld => ?_)
                      clear hK K
                      refine norm_ (a' := ?_) ?_ ?_
                      rotate_left
                      · show Act.put _ (some 37) _ = _
                        simp only [Act.put, List.setIfInBounds_toArray, List.set_cons_zero, List.set_cons_succ, i64_w, i32_w]
                        rfl
                      refine pure_ (i := 15) (N := some 39) (v := ?_) (a' := ?_) #[true, true, true, true, true, true, true, true, true, true, true, true, true, true, true, true, false] rfl rfl (any_of HT_.out (by kernel_rfl)) (fun _ _ _ h => h) (Or.inl ⟨by rfl, ?_⟩) ?_ ?_
                      rotate_left
                      · intro w'
                        go_simp
                        with_reducible rfl
                      rotate_left
                      · simp only [Act.put, List.setIfInBounds_toArray, List.set_cons_zero, List.set_cons_succ, i64_w, i32_w]
                        rfl
                      refine pure_ (i := 16) (N := some 40) (v := ?_) (a' := ?_) #[true, true, true, true, true, true, true, true, true, true, true, true, true, true, true, true, true] rfl rfl (any_of HT_.out (by kernel_rfl)) (fun _ _ _ h => h) (Or.inl ⟨by rfl, ?_⟩) ?_ ?_
                      rotate_left
                      · intro w'
                        go_simp
                        with_reducible rfl
                      rotate_left
                      · simp only [Act.put, List.setIfInBounds_toArray, List.set_cons_zero, List.set_cons_succ, i64_w, i32_w]
                        rfl
                      refine done_ (done_of HT_.out (by kernel_rfl)) ?_
                      try go_wp2
                      go_roundg k2
                      case measure => have := HJ1.out; have := HK2.out; omega
                      case rel => exact ⟨(wrap64 (x19_2 + 1)), (by first | rfl | (simp; done) | (simp [*]; done)), H', ⟨by have := HJ1.out; have := HK2.out; omega⟩, ⟨by repeat (first | (with_reducible first | exact HB.out | apply below_alloc | apply pw_below_drewN | apply below_drew1 | refine below_set ?_ GE229.out) | exact HB.out)⟩⟩
                    · rw [if_neg c45] at H
                      have c45b0 : (t236 == x19_2) = false := beq_eq_false_iff_ne.mpr c45
                      have c45b1 : (t236 != x19_2) = true := bne_iff_ne.mpr c45
                      obtain rfl := Option.some.inj H
                      have p228 : 0 ≤ (x19_2 : Int) := of_decide_eq_true (by first | (with_reducible assumption) | assumption)
                      have q228 : x19_2 < (l0.length : Int) := of_decide_eq_true (by first | (with_reducible assumption) | assumption)
                      obtain ⟨ad228, A228_2, c228_2, e228, hx228_0, hx228_1, hx228_2, hx228_3, hx228_4, hx228_5, hx228_6, hl228_2, hi228_2⟩ := at_T63 HR0.out x19_2 p228 q228
                      cases e228
                      replace hx228_0 := (HB.out.cell (World.block_lt_of_cell? w _ hx228_0)).trans hx228_0
                      replace hx228_1 := (HB.out.cell (World.block_lt_of_cell? w _ hx228_1)).trans hx228_1
                      replace hx228_2 := (HB.out.cell (World.block_lt_of_cell? w _ hx228_2)).trans hx228_2
                      replace hx228_3 := (HB.out.cell (World.block_lt_of_cell? w _ hx228_3)).trans hx228_3
                      replace hx228_4 := (HB.out.cell (World.block_lt_of_cell? w _ hx228_4)).trans hx228_4
                      replace hx228_5 := (HB.out.cell (World.block_lt_of_cell? w _ hx228_5)).trans hx228_5
                      replace hx228_6 := (HB.out.cell (World.block_lt_of_cell? w _ hx228_6)).trans hx228_6
                      have HR228_2 := Aside0.mk hi228_2
                      have HC228_2 := Aside0.mk hl228_2
                      clear hi228_2 hl228_2
                      replace p228 := eq_true p228
                      replace q228 := eq_true q228
                      try go_wp2_with (first | ((with_reducible refine gate_dst (N := 4) rfl ?_); refine box_event ?hg (N := 4) ?hd (cs := #[.int .i64 0, .int .i64 0, .slice none 0 0, .int .i64 0, .int .i64 0, .int .i64 0, .int .i64 0]) (t := 63) ?hr ?_; (case hd => rfl); (case hg => rfl); (case hr => first | (go_simp; done) | (go_simp; rfl)); intro gb229 hg w51 hbox hb; have n0_ := Aside0.mk (below_step (by repeat (first | (with_reducible first | exact HB.out | apply below_alloc | apply pw_below_drewN | apply below_drew1) | exact HB.out)) hb); have n1_ := Aside0.mk (hbox); have n2_ := Aside0.mk ((by rw [hg]; exact (below_size (by repeat (first | (with_reducible first | exact HB.out | apply below_alloc | apply pw_below_drewN | apply below_drew1) | exact HB.out))) : w.heap.size ≤ gb229)); have n3_ := Aside0.mk ((by rw [hg]; exact (below_size (by repeat (first | (with_reducible first | exact HB.out | apply below_alloc | apply pw_below_drewN | apply below_drew1) | exact HB.out))) : w.heap.size ≤ gb229)); clear HB; have HB := n0_; have BK229 := n1_; have GW229 := n2_; have GE229 := n3_; clear n0_ n1_ n2_ n3_; clear hb hbox hg; have hcz52_0 : w51.cell? ⟨gb229, 0, none⟩ = some (.int .i64 0) := (blk_cell BK229.out 0).trans rfl; have hcz52_1 : w51.cell? ⟨gb229, 1, none⟩ = some (.int .i64 0) := (blk_cell BK229.out 1).trans rfl; have hcz52_2 : w51.cell? ⟨gb229, 2, none⟩ = some (.slice none 0 0) := (blk_cell BK229.out 2).trans rfl; have hcz52_3 : w51.cell? ⟨gb229, 3, none⟩ = some (.int .i64 0) := (blk_cell BK229.out 3).trans rfl; have hcz52_4 : w51.cell? ⟨gb229, 4, none⟩ = some (.int .i64 0) := (blk_cell BK229.out 4).trans rfl; have hcz52_5 : w51.cell? ⟨gb229, 5, none⟩ = some (.int .i64 0) := (blk_cell BK229.out 5).trans rfl; have hcz52_6 : w51.cell? ⟨gb229, 6, none⟩ = some (.int .i64 0) := (blk_cell BK229.out 6).trans rfl; have hfz52_0 := blk_frozen BK229.out 0; have hfz52_1 := blk_frozen BK229.out 1; have hfz52_2 := blk_frozen BK229.out 2; have hfz52_3 := blk_frozen BK229.out 3; have hfz52_4 := blk_frozen BK229.out 4; have hfz52_5 := blk_frozen BK229.out 5; have hfz52_6 := blk_frozen BK229.out 6))
                      have n0_ : Aside0 ((((((((w51.setCell ⟨gb229, 0, none⟩ (.int .i64 ((rd_T63 l0 x19_2).f0))).setCell ⟨gb229, 1, none⟩ (.int .i64 ((rd_T63 l0 x19_2).f1))).setCell ⟨gb229, 2, none⟩ (.slice A228_2 ((rd_T63 l0 x19_2).f2).length c228_2)).setCell ⟨gb229, 3, none⟩ (.int .i64 ((rd_T63 l0 x19_2).f3.f0))).setCell ⟨gb229, 4, none⟩ (.int .i64 ((rd_T63 l0 x19_2).f3.f1))).setCell ⟨gb229, 5, none⟩ (.int .i64 ((rd_T63 l0 x19_2).f3.f2))).setCell ⟨gb229, 6, none⟩ (.int .i64 ((rd_T63 l0 x19_2).f3.f3))).heap[gb229]? = some (.cells #[.int .i64 ((rd_T63 l0 x19_2).f0), .int .i64 ((rd_T63 l0 x19_2).f1), .slice A228_2 ((rd_T63 l0 x19_2).f2).length c228_2, .int .i64 ((rd_T63 l0 x19_2).f3.f0), .int .i64 ((rd_T63 l0 x19_2).f3.f1), .int .i64 ((rd_T63 l0 x19_2).f3.f2), .int .i64 ((rd_T63 l0 x19_2).f3.f3)] 63 (0, 0))) := ⟨by (with_reducible repeat (first | refine blk_drewN ?_ _ | refine blk_drew ?_ | refine blk_alloc ?_ _)); refine blk_put (cs := #[.int .i64 ((rd_T63 l0 x19_2).f0), .int .i64 ((rd_T63 l0 x19_2).f1), .slice A228_2 ((rd_T63 l0 x19_2).f2).length c228_2, .int .i64 ((rd_T63 l0 x19_2).f3.f0), .int .i64 ((rd_T63 l0 x19_2).f3.f1), .int .i64 ((rd_T63 l0 x19_2).f3.f2), .int .i64 0]) ?_ 6 _ rfl; (with_reducible repeat (first | refine blk_drewN ?_ _ | refine blk_drew ?_ | refine blk_alloc ?_ _)); refine blk_put (cs := #[.int .i64 ((rd_T63 l0 x19_2).f0), .int .i64 ((rd_T63 l0 x19_2).f1), .slice A228_2 ((rd_T63 l0 x19_2).f2).length c228_2, .int .i64 ((rd_T63 l0 x19_2).f3.f0), .int .i64 ((rd_T63 l0 x19_2).f3.f1), .int .i64 0, .int .i64 0]) ?_ 5 _ rfl; (with_reducible repeat (first | refine blk_drewN ?_ _ | refine blk_drew ?_ | refine blk_alloc ?_ _)); refine blk_put (cs := #[.int .i64 ((rd_T63 l0 x19_2).f0), .int .i64 ((rd_T63 l0 x19_2).f1), .slice A228_2 ((rd_T63 l0 x19_2).f2).length c228_2, .int .i64 ((rd_T63 l0 x19_2).f3.f0), .int .i64 0, .int .i64 0, .int .i64 0]) ?_ 4 _ rfl; (with_reducible repeat (first | refine blk_drewN ?_ _ | refine blk_drew ?_ | refine blk_alloc ?_ _)); refine blk_put (cs := #[.int .i64 ((rd_T63 l0 x19_2).f0), .int .i64 ((rd_T63 l0 x19_2).f1), .slice A228_2 ((rd_T63 l0 x19_2).f2).length c228_2, .int .i64 0, .int .i64 0, .int .i64 0, .int .i64 0]) ?_ 3 _ rfl; (with_reducible repeat (first | refine blk_drewN ?_ _ | refine blk_drew ?_ | refine blk_alloc ?_ _)); refine blk_put (cs := #[.int .i64 ((rd_T63 l0 x19_2).f0), .int .i64 ((rd_T63 l0 x19_2).f1), .slice none 0 0, .int .i64 0, .int .i64 0, .int .i64 0, .int .i64 0]) ?_ 2 _ rfl; (with_reducible repeat (first | refine blk_drewN ?_ _ | refine blk_drew ?_ | refine blk_alloc ?_ _)); refine blk_put (cs := #[.int .i64 ((rd_T63 l0 x19_2).f0), .int .i64 0, .slice none 0 0, .int .i64 0, .int .i64 0, .int .i64 0, .int .i64 0]) ?_ 1 _ rfl; (with_reducible repeat (first | refine blk_drewN ?_ _ | refine blk_drew ?_ | refine blk_alloc ?_ _)); refine blk_put (cs := #[.int .i64 0, .int .i64 0, .slice none 0 0, .int .i64 0, .int .i64 0, .int .i64 0, .int .i64 0]) ?_ 0 _ rfl; (with_reducible repeat (first | refine blk_drewN ?_ _ | refine blk_drew ?_ | refine blk_alloc ?_ _)); exact BK229.out⟩
                      have n1_ : Aside0 (Below w.heap.size w (((((((w51.setCell ⟨gb229, 0, none⟩ (.int .i64 ((rd_T63 l0 x19_2).f0))).setCell ⟨gb229, 1, none⟩ (.int .i64 ((rd_T63 l0 x19_2).f1))).setCell ⟨gb229, 2, none⟩ (.slice A228_2 ((rd_T63 l0 x19_2).f2).length c228_2)).setCell ⟨gb229, 3, none⟩ (.int .i64 ((rd_T63 l0 x19_2).f3.f0))).setCell ⟨gb229, 4, none⟩ (.int .i64 ((rd_T63 l0 x19_2).f3.f1))).setCell ⟨gb229, 5, none⟩ (.int .i64 ((rd_T63 l0 x19_2).f3.f2))).setCell ⟨gb229, 6, none⟩ (.int .i64 ((rd_T63 l0 x19_2).f3.f3)))) := ⟨by repeat (first | (with_reducible first | exact HB.out | apply below_alloc | apply pw_below_drewN | apply below_drew1 | refine below_set ?_ GE229.out) | exact HB.out)⟩
                      (try clear BK229)
                      (try clear HB)
                      generalize (((((((w51.setCell ⟨gb229, 0, none⟩ (.int .i64 ((rd_T63 l0 x19_2).f0))).setCell ⟨gb229, 1, none⟩ (.int .i64 ((rd_T63 l0 x19_2).f1))).setCell ⟨gb229, 2, none⟩ (.slice A228_2 ((rd_T63 l0 x19_2).f2).length c228_2)).setCell ⟨gb229, 3, none⟩ (.int .i64 ((rd_T63 l0 x19_2).f3.f0))).setCell ⟨gb229, 4, none⟩ (.int .i64 ((rd_T63 l0 x19_2).f3.f1))).setCell ⟨gb229, 5, none⟩ (.int .i64 ((rd_T63 l0 x19_2).f3.f2))).setCell ⟨gb229, 6, none⟩ (.int .i64 ((rd_T63 l0 x19_2).f3.f3))) = w53 at n0_ n1_ ⊢
                      have BK229 := n0_
                      have HB := n1_
                      clear n0_ n1_
                      have n0_ := Aside0.mk (blk_drew BK229.out)
                      have n1_ := Aside0.mk (below_drew1 HB.out)
                      clear BK229
                      clear HB
                      have BK229 := n0_
                      have HB := n1_
                      clear n0_ n1_
                      refine start_ (n := 17) (S := fun w' => w'.cell? ⟨gb229, 0, none⟩ = some (.int .i64 ((rd_T63 l0 x19_2).f0)) ∧ w'.cell? ⟨gb229, 1, none⟩ = some (.int .i64 ((rd_T63 l0 x19_2).f1)) ∧ w'.cell? ⟨gb229, 2, none⟩ = some (.slice A228_2 ((rd_T63 l0 x19_2).f2).length c228_2) ∧ w'.cell? ⟨gb229, 3, none⟩ = some (.int .i64 ((rd_T63 l0 x19_2).f3.f0)) ∧ w'.cell? ⟨gb229, 4, none⟩ = some (.int .i64 ((rd_T63 l0 x19_2).f3.f1)) ∧ w'.cell? ⟨gb229, 5, none⟩ = some (.int .i64 ((rd_T63 l0 x19_2).f3.f2)) ∧ w'.cell? ⟨gb229, 6, none⟩ = some (.int .i64 ((rd_T63 l0 x19_2).f3.f3))) (ds := []) #[false, false, false, false, false, false, false, false, false, false, false, false, false, false, false, false, false] (by kernel_rfl) rfl rfl ⟨(blk_cell BK229.out 0).trans rfl, (blk_cell BK229.out 1).trans rfl, (blk_cell BK229.out 2).trans rfl, (blk_cell BK229.out 3).trans rfl, (blk_cell BK229.out 4).trans rfl, (blk_cell BK229.out 5).trans rfl, (blk_cell BK229.out 6).trans rfl⟩ (fun hHeld => ?_); refine with_tabW impl_TreeOk.tab6 impl_TreeOk.bits6 (fun HT_ HW_ => ?_)
                      generalize w53.drew = w54 at BK229 HB hHeld ⊢
                      refine pure_ (i := 0) (N := some 24) (v := ?_) (a' := ?_) #[true, false, false, false, false, false, false, false, false, false, false, false, false, false, false, false, false] rfl rfl (any_of HT_.out (by kernel_rfl)) (fun _ _ _ h => h) (Or.inl ⟨by rfl, ?_⟩) ?_ ?_
                      rotate_left
                      · intro w'
                        go_simp
                        with_reducible rfl
                      rotate_left
                      · simp only [Act.put, List.setIfInBounds_toArray, List.set_cons_zero, List.set_cons_succ, i64_w, i32_w]
                        rfl
                      refine pure_ (i := 1) (N := some 25) (v := ?_) (a' := ?_) #[true, true, false, false, false, false, false, false, false, false, false, false, false, false, false, false, false] rfl rfl (any_of HT_.out (by kernel_rfl)) (fun _ _ _ h => h) (Or.inl ⟨by rfl, ?_⟩) ?_ ?_
                      rotate_left
                      · intro w'
                        go_simp
                        with_reducible rfl
                      rotate_left
                      · simp only [Act.put, List.setIfInBounds_toArray, List.set_cons_zero, List.set_cons_succ, i64_w, i32_w]
                        rfl
                      refine pure_ (i := 2) (N := some 26) (v := ?_) (a' := ?_) #[true, true, true, false, false, false, false, false, false, false, false, false, false, false, false, false, false] rfl rfl (any_of HT_.out (by kernel_rfl)) (fun _ _ _ h => h) (Or.inl ⟨by rfl, ?_⟩) ?_ ?_
                      rotate_left
                      · intro w'
                        go_simp
                        with_reducible rfl
                      rotate_left
                      · simp only [Act.put, List.setIfInBounds_toArray, List.set_cons_zero, List.set_cons_succ, i64_w, i32_w]
                        rfl
                      refine pure_ (i := 3) (N := some 27) (v := undef) (a' := ?_) #[true, true, true, true, false, false, false, false, false, false, false, false, false, false, false, false, false] rfl rfl (any_of HT_.out (by kernel_rfl)) (fun _ _ _ h => h) (Or.inr ⟨by rfl, rfl⟩) ?_ ?_
                      rotate_left
                      · simp only [Act.put, List.setIfInBounds_toArray, List.set_cons_zero, List.set_cons_succ, i64_w, i32_w]
                        rfl
                      refine pure_ (i := 4) (N := some 28) (v := undef) (a' := ?_) #[true, true, true, true, true, false, false, false, false, false, false, false, false, false, false, false, false] rfl rfl (any_of HT_.out (by kernel_rfl)) (fun _ _ _ h => h) (Or.inr ⟨by rfl, rfl⟩) ?_ ?_
                      rotate_left
                      · simp only [Act.put, List.setIfInBounds_toArray, List.set_cons_zero, List.set_cons_succ, i64_w, i32_w]
                        rfl
                      refine pure_ (i := 5) (N := some 29) (v := undef) (a' := ?_) #[true, true, true, true, true, true, false, false, false, false, false, false, false, false, false, false, false] rfl rfl (any_of HT_.out (by kernel_rfl)) (fun _ _ _ h => h) (Or.inr ⟨by rfl, rfl⟩) ?_ ?_
                      rotate_left
                      · simp only [Act.put, List.setIfInBounds_toArray, List.set_cons_zero, List.set_cons_succ, i64_w, i32_w]
                        rfl
                      refine pure_ (i := 6) (N := some 30) (v := undef) (a' := ?_) #[true, true, true, true, true, true, true, false, false, false, false, false, false, false, false, false, false] rfl rfl (any_of HT_.out (by kernel_rfl)) (fun _ _ _ h => h) (Or.inr ⟨by rfl, rfl⟩) ?_ ?_
                      rotate_left
                      · simp only [Act.put, List.setIfInBounds_toArray, List.set_cons_zero, List.set_cons_succ, i64_w, i32_w]
                        rfl
                      refine pure_ (i := 7) (N := some 31) (v := undef) (a' := ?_) #[true, true, true, true, true, true, true, true, false, false, false, false, false, false, false, false, false] rfl rfl (any_of HT_.out (by kernel_rfl)) (fun _ _ _ h => h) (Or.inr ⟨by rfl, rfl⟩) ?_ ?_
                      rotate_left
                      · simp only [Act.put, List.setIfInBounds_toArray, List.set_cons_zero, List.set_cons_succ, i64_w, i32_w]
                        rfl
                      refine pure_ (i := 8) (N := some 32) (v := undef) (a' := ?_) #[true, true, true, true, true, true, true, true, true, false, false, false, false, false, false, false, false] rfl rfl (any_of HT_.out (by kernel_rfl)) (fun _ _ _ h => h) (Or.inr ⟨by rfl, rfl⟩) ?_ ?_
                      rotate_left
                      · simp only [Act.put, List.setIfInBounds_toArray, List.set_cons_zero, List.set_cons_succ, i64_w, i32_w]
                        rfl
                      refine pure_ (i := 9) (N := some 33) (v := ?_) (a' := ?_) #[true, true, true, true, true, true, true, true, true, true, false, false, false, false, false, false, false] rfl rfl (any_of HT_.out (by kernel_rfl)) (fun _ _ _ h => h) (Or.inl ⟨by rfl, ?_⟩) ?_ ?_
                      rotate_left
                      · intro w'
                        go_simp
                        with_reducible rfl
                      rotate_left
                      · simp only [Act.put, List.setIfInBounds_toArray, List.set_cons_zero, List.set_cons_succ, i64_w, i32_w]
                        rfl
                      refine pure_ (i := 10) (N := some 34) (v := ?_) (a' := ?_) #[true, true, true, true, true, true, true, true, true, true, true, false, false, false, false, false, false] rfl rfl (any_of HT_.out (by kernel_rfl)) (fun _ _ _ h => h) (Or.inl ⟨by rfl, ?_⟩) ?_ ?_
                      rotate_left
                      · intro w'
                        go_simp
                        with_reducible rfl
                      rotate_left
                      · simp only [Act.put, List.setIfInBounds_toArray, List.set_cons_zero, List.set_cons_succ, i64_w, i32_w]
                        rfl
                      refine pure_ (i := 11) (N := some 35) (v := ?_) (a' := ?_) #[true, true, true, true, true, true, true, true, true, true, true, true, false, false, false, false, false] rfl rfl (any_of HT_.out (by kernel_rfl)) (fun _ _ _ h => h) (Or.inl ⟨by rfl, ?_⟩) ?_ ?_
                      rotate_left
                      · intro w'
                        go_simp
                        with_reducible rfl
                      rotate_left
                      · simp only [Act.put, List.setIfInBounds_toArray, List.set_cons_zero, List.set_cons_succ, i64_w, i32_w]
                        rfl
                      refine pure_ (i := 14) (N := some 38) (v := ?_) (a' := ?_) #[true, true, true, true, true, true, true, true, true, true, true, true, false, false, true, false, false] rfl rfl (any_of HT_.out (by kernel_rfl)) (fun _ _ _ h => h) (Or.inl ⟨by rfl, ?_⟩) ?_ ?_
                      rotate_left
                      · intro w'
                        go_simp
                        with_reducible rfl
                      rotate_left
                      · simp only [Act.put, List.setIfInBounds_toArray, List.set_cons_zero, List.set_cons_succ, i64_w, i32_w]
                        rfl
                      refine take_ (i := 12) (N := some 36) (v := ?_) (a' := ?_) #[true, true, true, true, true, true, true, true, true, true, true, true, true, false, true, false, false] rfl rfl (take_ofW HT_.out HW_.out (by kernel_rfl)) (fun _ _ _ h => h) (Or.inl ⟨by rfl, ?_⟩) hHeld ?_ ?_
                      rotate_left
                      · rintro w' ⟨s0, s1, s2, s3, s4, s5, s6⟩
                        go_simp
                        with_reducible rfl
                      rotate_left
                      · simp only [Act.put, List.setIfInBounds_toArray, List.set_cons_zero, List.set_cons_succ, i64_w, i32_w]
                        rfl
                      refine one_ (i := 13) (N := some 37) #[true, true, true, true, true, true, true, true, true, true, true, true, true, true, true, false, false] rfl rfl (one_of HT_.out (by kernel_rfl)) (by decide) (fun K hK => ?_)
                      refine goes_ Try.func38 (by kernel_rfl) rfl #[.slice (some ad228) l0.length c0, .agg #[.int .i64 ((rd_T63 l0 x19_2).f0), .int .i64 ((rd_T63 l0 x19_2).f1), .slice A228_2 ((rd_T63 l0 x19_2).f2).length c228_2, .int .i64 ((rd_T63 l0 x19_2).f3.f0), .int .i64 ((rd_T63 l0 x19_2).f3.f1), .int .i64 ((rd_T63 l0 x19_2).f3.f2), .int .i64 ((rd_T63 l0 x19_2).f3.f3)]] (by rfl) rfl rfl (by (try simp only [List.map_toArray, List.map_cons, List.map_nil]); first | done | rfl | (simp only [List.length_drop, List.length_take]; rfl)) ?_
                      with_reducible refine (impl_BlockAt.calls k2 _ _ l0 ((rd_T63 l0 x19_2).f0) ((rd_T63 l0 x19_2).f1) _ _ ((rd_T63 l0 x19_2).f2) ((rd_T63 l0 x19_2).f3.f0) ((rd_T63 l0 x19_2).f3.f1) ((rd_T63 l0 x19_2).f3.f2) ((rd_T63 l0 x19_2).f3.f3) t236 _ ?side1 ?side2 ?side3 ?side4 A44.out).mono ?_
                      (case side1 => repeat (first | exact (Kd.C_below HR0.out HB.out) | (with_reducible refine Kd.C_alloc ?_ _) | (with_reducible refine Kd.C_drewN ?_ _) | (with_reducible refine Kd.C_drew ?_)))
                      (case side2 => exact HC0.out)
                      (case side3 => repeat (first | exact (Kd.C_below HR228_2.out HB.out) | (with_reducible refine Kd.C_alloc ?_ _) | (with_reducible refine Kd.C_drewN ?_ _) | (with_reducible refine Kd.C_drew ?_)))
                      (case side4 => exact HC228_2.out)
                      rintro e w55 ⟨rfl, hb⟩
                      refine ⟨_, rfl, ?_⟩
                      have n0_ := Aside0.mk (blk_below (g := gb229) (o := .cells #[.int .i64 ((rd_T63 l0 x19_2).f0), .int .i64 ((rd_T63 l0 x19_2).f1), .slice A228_2 ((rd_T63 l0 x19_2).f2).length c228_2, .int .i64 ((rd_T63 l0 x19_2).f3.f0), .int .i64 ((rd_T63 l0 x19_2).f3.f1), .int .i64 ((rd_T63 l0 x19_2).f3.f2), .int .i64 ((rd_T63 l0 x19_2).f3.f3)] 63 (0, 0)) (by (with_reducible repeat (first | refine blk_drewN ?_ _ | refine blk_drew ?_ | refine blk_alloc ?_ _)); exact BK229.out) hb)
                      have n1_ := Aside0.mk (below_step (by repeat (first | (with_reducible first | exact HB.out | apply below_alloc | apply pw_below_drewN | apply below_drew1 | refine below_set ?_ GE229.out) | exact HB.out)) hb)
                      clear BK229
                      clear HB
                      have BK229 := n0_
                      have HB := n1_
                      clear n0_ n1_
                      (try clear hb)
                      (try clear hb2)
                      (try clear hk)
                      (try clear hi)
                      refine hK.out _ _ ⟨(blk_cell BK229.out 0).trans rfl, (blk_cell BK229.out 1).trans rfl, (blk_cell BK229.out 2).trans rfl, (blk_cell BK229.out 3).trans rfl, (blk_cell BK229.out 4).trans rfl, (blk_cell BK229.out 5).trans rfl, (blk_cell BK229.out 6).trans rfl⟩ (fun hHeld => ?_)
                      clear hK K
                      refine norm_ (a' := ?_) ?_ ?_
                      rotate_left
                      · show Act.put _ (some 37) _ = _
                        simp only [Act.put, List.setIfInBounds_toArray, List.set_cons_zero, List.set_cons_succ, i64_w, i32_w]
                        rfl
                      refine pure_ (i := 15) (N := some 39) (v := ?_) (a' := ?_) #[true, true, true, true, true, true, true, true, true, true, true, true, true, true, true, true, false] rfl rfl (any_of HT_.out (by kernel_rfl)) (fun _ _ _ h => h) (Or.inl ⟨by rfl, ?_⟩) ?_ ?_
                      rotate_left
                      · intro w'
                        go_simp
                        with_reducible rfl
                      rotate_left
                      · simp only [Act.put, List.setIfInBounds_toArray, List.set_cons_zero, List.set_cons_succ, i64_w, i32_w]
                        rfl
                      refine pure_ (i := 16) (N := some 40) (v := ?_) (a' := ?_) #[true, true, true, true, true, true, true, true, true, true, true, true, true, true, true, true, true] rfl rfl (any_of HT_.out (by kernel_rfl)) (fun _ _ _ h => h) (Or.inl ⟨by rfl, ?_⟩) ?_ ?_
                      rotate_left
                      · intro w'
                        go_simp
                        with_reducible rfl
                      rotate_left
                      · simp only [Act.put, List.setIfInBounds_toArray, List.set_cons_zero, List.set_cons_succ, i64_w, i32_w]
                        rfl
                      refine done_ (done_of HT_.out (by kernel_rfl)) ?_
                      try go_wp2
                      go_ret
                      exact ⟨by first | rfl | (simp [errW_none, errW_some] <;> rfl) | (simp [*, errW_none, errW_some] <;> rfl), by repeat (first | (with_reducible first | exact HB.out | apply below_alloc | apply pw_below_drewN | apply below_drew1 | refine below_set ?_ GE229.out) | exact HB.out)⟩
                · rw [if_neg c16] at H
                  exact absurd H (by simp)
              · rw [if_neg c15] at H
                exact absurd H (by simp)
            · rw [if_neg c14] at H
              have c14b0 : decide (x19_2 < (l0.length : Int)) = false := decide_eq_false c14
              clear c14
              obtain rfl := Option.some.inj H
              go_wp2
              go_ret
              exact ⟨by first | rfl | (simp [errW_none, errW_some] <;> rfl) | (simp [*, errW_none, errW_some] <;> rfl), by repeat (first | (with_reducible first | exact HB.out | apply below_alloc | apply pw_below_drewN | apply below_drew1) | exact HB.out)⟩

end Go.Proofs.Ytmcopcpeacikmaa.QFnExactTreeOk
