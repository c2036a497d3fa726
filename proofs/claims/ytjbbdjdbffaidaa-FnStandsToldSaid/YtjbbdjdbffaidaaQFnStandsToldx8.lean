-- Written by a program of this session, for this claim.
import Derived.Test.YtjbbdjdbffaidaaQFnStandsToldx0
import Derived.Test.YtjbbdjdbffaidaaQFnStandsToldx4
import Derived.Test.YtjbbdjdbffaidaaQFnStandsToldx7
namespace Go.Proofs.Ytjbbdjdbffaidaa.QFnStandsTold
open Go.RowKit Go.Proofs.YtjbbdjdbffaidaaW.PrintWords Go.Proofs.YtjbbdjdbffaidaaW.PrintLast Go.Proofs.YtjbbdjdbffaidaaW.PrintMore
attribute [local go_sem] max2_int min2_int max_two min_two max_three min_three max_four min_four   -- for this text's walks alone
set_option linter.unusedVariables false
set_option linter.unusedSimpArgs false

/-! ### spec_l05On: function 40 -/
def spec_l05On.f (l0 : List (S33)) (a1 : Int) (a2 : Int) (l3 : List (S65)) (a4 : Int) : Option (Int × Int × (List (S65)) × Int × Int × Int × Int) := if 0 ≤ a1 then (if a1 < (l0.length : Int) then (if a1 > 0 then (some (a1, wrap64 (((rd_T33 l0 a1).f1) + a2), l3, a4, (rd_T33 l0 a1).f1, a1, 7)) else (some (a1, wrap64 (((rd_T33 l0 a1).f1) + a2), l3, 0, (rd_T33 l0 a1).f1, a1, 0))) else (none)) else (none)
def spec_l05On.T1 : Bool × List (List Nat × List Nat) := (true, [([], []), ([], []), ([], []), ([1, 2], [1, 2]), ([3], [3]), ([4], [4]), ([], []), ([5, 6], [5, 6]), ([], []), ([], []), ([], []), ([], []), ([10, 11], [10, 11]), ([12], [12]), ([13], [13]), ([9, 14], [9, 14]), ([0, 7, 8, 15], [0, 7, 8, 15]), ([], []), ([17, 16, 0, 1, 2, 3, 4, 5, 6, 7, 8, 9, 10, 11, 12, 13, 14, 15, 16, 17], [16, 17])])
def spec_l05On.B1 : List Nat := [0, 0, 0, 6, 14, 30, 0, 126, 0, 0, 0, 0, 3072, 7168, 15360, 32256, 65535, 0, 262143]
theorem spec_l05On.tab1 : rtab .any (opsOf Try.f40 1) = spec_l05On.T1 := by kernel_rfl
theorem spec_l05On.bits1 : waitsOk spec_l05On.T1.2 spec_l05On.B1 = true := by kernel_rfl
set_option maxHeartbeats 8000000 in
set_option maxRecDepth 100000 in
theorem spec_l05On.calls (A0 : Option Addr) (c0 : Nat) (l0 : List (S33)) (a1 : Int) (a2 : Int) (A3 : Option Addr) (c3 : Nat) (l3 : List (S65)) (a4 : Int) (r1 : Int) (r2 : Int) (r3 : List (S65)) (r4 : Int) (r5 : Int) (r6 : Int) (r7 : Int) (w : World) (hr0 : Kd.C k33 w A0 l0.length l0) (hc0 : l0.length ≤ c0) (h : spec_l05On.f l0 a1 a2 l3 a4 = some (r1, r2, r3, r4, r5, r6, r7)) :
    Calls Try.prog 40 #[.slice A0 l0.length c0, .int .i64 a1, .int .i64 a2, .slice A3 l3.length c3, .int .i64 a4] w fun e w' => e = .returned (.agg #[.int .i64 r1, .int .i64 r2, .slice A3 l3.length c3, .int .i64 r4, .int .i64 r5, .int .i64 r6, .int .i64 r7]) ∧ l3 = r3 ∧ Below w.heap.size w w' := by
  have hu33 := Try.underlying33
  have hu31 := Try.underlying31
  have HR0 := Aside0.mk hr0
  have HC0 := Aside0.mk hc0
  clear hr0 hc0
  have HO3 := trivial
  have HB := Aside0.mk (Below.refl w.heap.size w)
  have H : (if 0 ≤ a1 then (if a1 < (l0.length : Int) then (if a1 > 0 then (some (a1, wrap64 (((rd_T33 l0 a1).f1) + a2), l3, a4, (rd_T33 l0 a1).f1, a1, 7)) else (some (a1, wrap64 (((rd_T33 l0 a1).f1) + a2), l3, 0, (rd_T33 l0 a1).f1, a1, 0))) else (none)) else (none)) = some (r1, r2, r3, r4, r5, r6, r7) := h
  clear h
  by_cases c6 : 0 ≤ a1
  · rw [if_pos c6] at H
    have c6b0 : decide (0 ≤ a1) = true := decide_eq_true c6
    clear c6
    by_cases c7 : a1 < (l0.length : Int)
    · rw [if_pos c7] at H
      have c7b0 : decide (a1 < (l0.length : Int)) = true := decide_eq_true c7
      clear c7
      by_cases c8 : a1 > 0
      · rw [if_pos c8] at H
        have c8b0 : decide (0 < a1) = true := decide_eq_true c8
        clear c8
        simp only [Option.some.injEq, Prod.mk.injEq] at H
        obtain ⟨rfl, rfl, rfl, rfl, rfl, rfl, rfl⟩ := H
        go_enter Try.func40, Try.ntmps40
        try go_wp2_with (first | ((with_reducible refine gate_dst (N := 10) rfl ?_); refine box_event ?hg (N := 10) ?hd (cs := #[.int .i64 0, .int .i64 0, .slice none 0 0, .int .i64 0, .int .i64 0, .int .i64 0, .int .i64 0]) (t := 33) ?hr ?_; (case hd => rfl); (case hg => rfl); (case hr => first | (go_simp; done) | (go_simp; rfl)); intro gb295 hg w9 hbox hb; have n0_ := trivial; have n1_ := Aside0.mk (below_step (by repeat (first | (with_reducible first | exact HB.out | apply below_alloc | apply pw_below_drewN | apply below_drew1) | exact HB.out)) hb); have n2_ := Aside0.mk (hbox); have n3_ := Aside0.mk ((by rw [hg]; exact (below_size (by repeat (first | (with_reducible first | exact HB.out | apply below_alloc | apply pw_below_drewN | apply below_drew1) | exact HB.out))) : w.heap.size ≤ gb295)); have n4_ := Aside0.mk ((by rw [hg]; exact (below_size (by repeat (first | (with_reducible first | exact HB.out | apply below_alloc | apply pw_below_drewN | apply below_drew1) | exact HB.out))) : w.heap.size ≤ gb295)); clear HO3; clear HB; have HO3 := n0_; have HB := n1_; have BK295 := n2_; have GW295 := n3_; have GE295 := n4_; clear n0_ n1_ n2_ n3_ n4_; clear hb hbox hg))
        have n0_ := trivial
        have n1_ := Aside0.mk (blk_drew BK295.out)
        have n2_ := Aside0.mk (below_drew1 HB.out)
        clear HO3
        clear BK295
        clear HB
        have HO3 := n0_
        have BK295 := n1_
        have HB := n2_
        clear n0_ n1_ n2_
        have p296 : 0 ≤ (a1 : Int) := of_decide_eq_true (by first | (with_reducible assumption) | assumption)
        have q296 : a1 < (l0.length : Int) := of_decide_eq_true (by first | (with_reducible assumption) | assumption)
        obtain ⟨ad296, A296_2, c296_2, e296, hx296_0, hx296_1, hx296_2, hx296_3, hx296_4, hx296_5, hx296_6, hl296_2, hi296_2⟩ := at_T33 HR0.out a1 p296 q296
        have hw296_6 := hx296_6
        have hw296_5 := hx296_5
        have hw296_4 := hx296_4
        have hw296_3 := hx296_3
        have hw296_2 := hx296_2
        have hw296_1 := hx296_1
        have hw296_0 := hx296_0
        cases e296
        replace hx296_0 := (HB.out.cell (World.block_lt_of_cell? w _ hx296_0)).trans hx296_0
        replace hx296_1 := (HB.out.cell (World.block_lt_of_cell? w _ hx296_1)).trans hx296_1
        replace hx296_2 := (HB.out.cell (World.block_lt_of_cell? w _ hx296_2)).trans hx296_2
        replace hx296_3 := (HB.out.cell (World.block_lt_of_cell? w _ hx296_3)).trans hx296_3
        replace hx296_4 := (HB.out.cell (World.block_lt_of_cell? w _ hx296_4)).trans hx296_4
        replace hx296_5 := (HB.out.cell (World.block_lt_of_cell? w _ hx296_5)).trans hx296_5
        replace hx296_6 := (HB.out.cell (World.block_lt_of_cell? w _ hx296_6)).trans hx296_6
        have HR296_2 := Aside0.mk hi296_2
        have HC296_2 := Aside0.mk hl296_2
        clear hi296_2 hl296_2
        replace p296 := eq_true p296
        replace q296 := eq_true q296
        have p297 : 0 ≤ (a1 : Int) := of_decide_eq_true (by first | (with_reducible assumption) | assumption)
        have q297 : a1 < (l0.length : Int) := of_decide_eq_true (by first | (with_reducible assumption) | assumption)
        obtain ⟨ad297, A297_2, c297_2, e297, hx297_0, hx297_1, hx297_2, hx297_3, hx297_4, hx297_5, hx297_6, hl297_2, hi297_2⟩ := at_T33 HR0.out a1 p297 q297
        have hw297_6 := hx297_6
        have hw297_5 := hx297_5
        have hw297_4 := hx297_4
        have hw297_3 := hx297_3
        have hw297_2 := hx297_2
        have hw297_1 := hx297_1
        have hw297_0 := hx297_0
        obtain rfl : ad296 = ad297 := (by injection e297)
        replace hx297_0 := (HB.out.cell (World.block_lt_of_cell? w _ hx297_0)).trans hx297_0
        replace hx297_1 := (HB.out.cell (World.block_lt_of_cell? w _ hx297_1)).trans hx297_1
        replace hx297_2 := (HB.out.cell (World.block_lt_of_cell? w _ hx297_2)).trans hx297_2
        replace hx297_3 := (HB.out.cell (World.block_lt_of_cell? w _ hx297_3)).trans hx297_3
        replace hx297_4 := (HB.out.cell (World.block_lt_of_cell? w _ hx297_4)).trans hx297_4
        replace hx297_5 := (HB.out.cell (World.block_lt_of_cell? w _ hx297_5)).trans hx297_5
        replace hx297_6 := (HB.out.cell (World.block_lt_of_cell? w _ hx297_6)).trans hx297_6
        have HR297_2 := Aside0.mk hi297_2
        have HC297_2 := Aside0.mk hl297_2
        clear hi297_2 hl297_2
        replace p297 := eq_true p297
        replace q297 := eq_true q297
        have ea_ := Option.some.inj (hx296_2.symm.trans hx297_2)
        injection ea_ with ea_ en_ ec_
        subst ea_
        subst ec_
        clear en_
        refine start_ (n := 19) (S := fun w' => w'.cell? (ad296.add ((a1).toNat * 7)) = some (.int .i64 ((rd_T33 l0 a1).f0)) ∧ w'.cell? ⟨(ad296.add ((a1).toNat * 7)).block, (ad296.add ((a1).toNat * 7)).off + 1, none⟩ = some (.int .i64 ((rd_T33 l0 a1).f1)) ∧ w'.cell? ⟨(ad296.add ((a1).toNat * 7)).block, (ad296.add ((a1).toNat * 7)).off + 2, none⟩ = some (.slice A296_2 ((rd_T33 l0 a1).f2).length c296_2) ∧ w'.cell? ⟨(ad296.add ((a1).toNat * 7)).block, (ad296.add ((a1).toNat * 7)).off + 3, none⟩ = some (.int .i64 ((rd_T33 l0 a1).f3.f0)) ∧ w'.cell? ⟨(ad296.add ((a1).toNat * 7)).block, (ad296.add ((a1).toNat * 7)).off + 4, none⟩ = some (.int .i64 ((rd_T33 l0 a1).f3.f1)) ∧ w'.cell? ⟨(ad296.add ((a1).toNat * 7)).block, (ad296.add ((a1).toNat * 7)).off + 5, none⟩ = some (.int .i64 ((rd_T33 l0 a1).f3.f2)) ∧ w'.cell? ⟨(ad296.add ((a1).toNat * 7)).block, (ad296.add ((a1).toNat * 7)).off + 6, none⟩ = some (.int .i64 ((rd_T33 l0 a1).f3.f3)) ∧ w'.cell? (ad296.add ((a1).toNat * 7)) = some (.int .i64 ((rd_T33 l0 a1).f0)) ∧ w'.cell? ⟨(ad296.add ((a1).toNat * 7)).block, (ad296.add ((a1).toNat * 7)).off + 1, none⟩ = some (.int .i64 ((rd_T33 l0 a1).f1)) ∧ w'.cell? ⟨(ad296.add ((a1).toNat * 7)).block, (ad296.add ((a1).toNat * 7)).off + 2, none⟩ = some (.slice A296_2 ((rd_T33 l0 a1).f2).length c296_2) ∧ w'.cell? ⟨(ad296.add ((a1).toNat * 7)).block, (ad296.add ((a1).toNat * 7)).off + 3, none⟩ = some (.int .i64 ((rd_T33 l0 a1).f3.f0)) ∧ w'.cell? ⟨(ad296.add ((a1).toNat * 7)).block, (ad296.add ((a1).toNat * 7)).off + 4, none⟩ = some (.int .i64 ((rd_T33 l0 a1).f3.f1)) ∧ w'.cell? ⟨(ad296.add ((a1).toNat * 7)).block, (ad296.add ((a1).toNat * 7)).off + 5, none⟩ = some (.int .i64 ((rd_T33 l0 a1).f3.f2)) ∧ w'.cell? ⟨(ad296.add ((a1).toNat * 7)).block, (ad296.add ((a1).toNat * 7)).off + 6, none⟩ = some (.int .i64 ((rd_T33 l0 a1).f3.f3))) (ds := []) #[false, false, false, false, false, false, false, false, false, false, false, false, false, false, false, false, false, false, false] (by kernel_rfl) rfl rfl ⟨((HB.out.cell (World.block_lt_of_cell? w _ hw296_0)).trans hw296_0), ((HB.out.cell (World.block_lt_of_cell? w _ hw296_1)).trans hw296_1), ((HB.out.cell (World.block_lt_of_cell? w _ hw296_2)).trans hw296_2), ((HB.out.cell (World.block_lt_of_cell? w _ hw296_3)).trans hw296_3), ((HB.out.cell (World.block_lt_of_cell? w _ hw296_4)).trans hw296_4), ((HB.out.cell (World.block_lt_of_cell? w _ hw296_5)).trans hw296_5), ((HB.out.cell (World.block_lt_of_cell? w _ hw296_6)).trans hw296_6), ((HB.out.cell (World.block_lt_of_cell? w _ hw297_0)).trans hw297_0), ((HB.out.cell (World.block_lt_of_cell? w _ hw297_1)).trans hw297_1), ((HB.out.cell (World.block_lt_of_cell? w _ hw297_2)).trans hw297_2), ((HB.out.cell (World.block_lt_of_cell? w _ hw297_3)).trans hw297_3), ((HB.out.cell (World.block_lt_of_cell? w _ hw297_4)).trans hw297_4), ((HB.out.cell (World.block_lt_of_cell? w _ hw297_5)).trans hw297_5), ((HB.out.cell (World.block_lt_of_cell? w _ hw297_6)).trans hw297_6)⟩ (fun hHeld => ?_); refine with_tabW spec_l05On.tab1 spec_l05On.bits1 (fun HT_ HW_ => ?_)
        generalize w9.drew = w10 at BK295 HB HR296_2 HR297_2 hx296_0 hx296_1 hx296_2 hx296_3 hx296_4 hx296_5 hx296_6 hx297_0 hx297_1 hx297_2 hx297_3 hx297_4 hx297_5 hx297_6 hHeld ⊢
        refine pure_ (i := 0) (N := some 12) (v := ?_) (a' := ?_) #[true, false, false, false, false, false, false, false, false, false, false, false, false, false, false, false, false, false, false] rfl rfl (any_of HT_.out (by kernel_rfl)) (fun _ _ _ h => h) (Or.inl ⟨by rfl, ?_⟩) ?_ ?_
        rotate_left
        · intro w'
          go_simp
          with_reducible rfl
        rotate_left
        · simp only [Act.put, List.setIfInBounds_toArray, List.set_cons_zero, List.set_cons_succ, i64_w, i32_w]
          rfl
        refine pure_ (i := 1) (N := some 13) (v := ?_) (a' := ?_) #[true, true, false, false, false, false, false, false, false, false, false, false, false, false, false, false, false, false, false] rfl rfl (any_of HT_.out (by kernel_rfl)) (fun _ _ _ h => h) (Or.inl ⟨by rfl, ?_⟩) ?_ ?_
        rotate_left
        · intro w'
          go_simp
          with_reducible rfl
        rotate_left
        · simp only [Act.put, List.setIfInBounds_toArray, List.set_cons_zero, List.set_cons_succ, i64_w, i32_w]
          rfl
        refine pure_ (i := 2) (N := some 14) (v := ?_) (a' := ?_) #[true, true, true, false, false, false, false, false, false, false, false, false, false, false, false, false, false, false, false] rfl rfl (any_of HT_.out (by kernel_rfl)) (fun _ _ _ h => h) (Or.inl ⟨by rfl, ?_⟩) ?_ ?_
        rotate_left
        · intro w'
          go_simp
          with_reducible rfl
        rotate_left
        · simp only [Act.put, List.setIfInBounds_toArray, List.set_cons_zero, List.set_cons_succ, i64_w, i32_w]
          rfl
        refine pure_ (i := 3) (N := some 15) (v := ?_) (a' := ?_) #[true, true, true, true, false, false, false, false, false, false, false, false, false, false, false, false, false, false, false] rfl rfl (any_of HT_.out (by kernel_rfl)) (fun _ _ _ h => h) (Or.inl ⟨by rfl, ?_⟩) ?_ ?_
        rotate_left
        · intro w'
          go_simp
          with_reducible rfl
        rotate_left
        · simp only [Act.put, List.setIfInBounds_toArray, List.set_cons_zero, List.set_cons_succ, i64_w, i32_w]
          rfl
        refine pure_ (i := 4) (N := some 16) (v := ?_) (a' := ?_) #[true, true, true, true, true, false, false, false, false, false, false, false, false, false, false, false, false, false, false] rfl rfl (any_of HT_.out (by kernel_rfl)) (fun _ _ _ h => h) (Or.inl ⟨by rfl, ?_⟩) ?_ ?_
        rotate_left
        · intro w'
          go_simp
          with_reducible rfl
        rotate_left
        · simp only [Act.put, List.setIfInBounds_toArray, List.set_cons_zero, List.set_cons_succ, i64_w, i32_w]
          rfl
        refine pure_ (i := 6) (N := some 18) (v := ?_) (a' := ?_) #[true, true, true, true, true, false, true, false, false, false, false, false, false, false, false, false, false, false, false] rfl rfl (any_of HT_.out (by kernel_rfl)) (fun _ _ _ h => h) (Or.inl ⟨by rfl, ?_⟩) ?_ ?_
        rotate_left
        · intro w'
          go_simp
          with_reducible rfl
        rotate_left
        · simp only [Act.put, List.setIfInBounds_toArray, List.set_cons_zero, List.set_cons_succ, i64_w, i32_w]
          rfl
        refine pure_ (i := 8) (N := some 20) (v := ?_) (a' := ?_) #[true, true, true, true, true, false, true, false, true, false, false, false, false, false, false, false, false, false, false] rfl rfl (any_of HT_.out (by kernel_rfl)) (fun _ _ _ h => h) (Or.inl ⟨by rfl, ?_⟩) ?_ ?_
        rotate_left
        · intro w'
          go_simp
          with_reducible rfl
        rotate_left
        · simp only [Act.put, List.setIfInBounds_toArray, List.set_cons_zero, List.set_cons_succ, i64_w, i32_w]
          rfl
        refine pure_ (i := 9) (N := some 21) (v := ?_) (a' := ?_) #[true, true, true, true, true, false, true, false, true, true, false, false, false, false, false, false, false, false, false] rfl rfl (any_of HT_.out (by kernel_rfl)) (fun _ _ _ h => h) (Or.inl ⟨by rfl, ?_⟩) ?_ ?_
        rotate_left
        · intro w'
          go_simp
          with_reducible rfl
        rotate_left
        · simp only [Act.put, List.setIfInBounds_toArray, List.set_cons_zero, List.set_cons_succ, i64_w, i32_w]
          rfl
        refine pure_ (i := 10) (N := some 22) (v := ?_) (a' := ?_) #[true, true, true, true, true, false, true, false, true, true, true, false, false, false, false, false, false, false, false] rfl rfl (any_of HT_.out (by kernel_rfl)) (fun _ _ _ h => h) (Or.inl ⟨by rfl, ?_⟩) ?_ ?_
        rotate_left
        · intro w'
          go_simp
          with_reducible rfl
        rotate_left
        · simp only [Act.put, List.setIfInBounds_toArray, List.set_cons_zero, List.set_cons_succ, i64_w, i32_w]
          rfl
        refine pure_ (i := 11) (N := some 23) (v := ?_) (a' := ?_) #[true, true, true, true, true, false, true, false, true, true, true, true, false, false, false, false, false, false, false] rfl rfl (any_of HT_.out (by kernel_rfl)) (fun _ _ _ h => h) (Or.inl ⟨by rfl, ?_⟩) ?_ ?_
        rotate_left
        · intro w'
          go_simp
          with_reducible rfl
        rotate_left
        · simp only [Act.put, List.setIfInBounds_toArray, List.set_cons_zero, List.set_cons_succ, i64_w, i32_w]
          rfl
        refine pure_ (i := 12) (N := some 24) (v := ?_) (a' := ?_) #[true, true, true, true, true, false, true, false, true, true, true, true, true, false, false, false, false, false, false] rfl rfl (any_of HT_.out (by kernel_rfl)) (fun _ _ _ h => h) (Or.inl ⟨by rfl, ?_⟩) ?_ ?_
        rotate_left
        · intro w'
          go_simp
          with_reducible rfl
        rotate_left
        · simp only [Act.put, List.setIfInBounds_toArray, List.set_cons_zero, List.set_cons_succ, i64_w, i32_w]
          rfl
        refine pure_ (i := 13) (N := some 25) (v := ?_) (a' := ?_) #[true, true, true, true, true, false, true, false, true, true, true, true, true, true, false, false, false, false, false] rfl rfl (any_of HT_.out (by kernel_rfl)) (fun _ _ _ h => h) (Or.inl ⟨by rfl, ?_⟩) ?_ ?_
        rotate_left
        · intro w'
          go_simp
          with_reducible rfl
        rotate_left
        · simp only [Act.put, List.setIfInBounds_toArray, List.set_cons_zero, List.set_cons_succ, i64_w, i32_w]
          rfl
        refine take_ (i := 5) (N := some 17) (v := ?_) (a' := ?_) #[true, true, true, true, true, true, true, false, true, true, true, true, true, true, false, false, false, false, false] rfl rfl (take_ofW HT_.out HW_.out (by kernel_rfl)) (fun _ _ _ h => h) (Or.inl ⟨by rfl, ?_⟩) hHeld ?_ ?_
        rotate_left
        · rintro w' ⟨s0, s1, s2, s3, s4, s5, s6, s7, s8, s9, s10, s11, s12, s13⟩
          go_simp
          with_reducible rfl
        rotate_left
        · simp only [Act.put, List.setIfInBounds_toArray, List.set_cons_zero, List.set_cons_succ, i64_w, i32_w]
          rfl
        refine pure_ (i := 7) (N := some 19) (v := ?_) (a' := ?_) #[true, true, true, true, true, true, true, true, true, true, true, true, true, true, false, false, false, false, false] rfl rfl (any_of HT_.out (by kernel_rfl)) (fun _ _ _ h => h) (Or.inl ⟨by rfl, ?_⟩) ?_ ?_
        rotate_left
        · intro w'
          go_simp
          with_reducible rfl
        rotate_left
        · simp only [Act.put, List.setIfInBounds_toArray, List.set_cons_zero, List.set_cons_succ, i64_w, i32_w]
          rfl
        refine take_ (i := 14) (N := some 26) (v := ?_) (a' := ?_) #[true, true, true, true, true, true, true, true, true, true, true, true, true, true, true, false, false, false, false] rfl rfl (take_ofW HT_.out HW_.out (by kernel_rfl)) (fun _ _ _ h => h) (Or.inl ⟨by rfl, ?_⟩) hHeld ?_ ?_
        rotate_left
        · rintro w' ⟨s0, s1, s2, s3, s4, s5, s6, s7, s8, s9, s10, s11, s12, s13⟩
          go_simp
          with_reducible rfl
        rotate_left
        · simp only [Act.put, List.setIfInBounds_toArray, List.set_cons_zero, List.set_cons_succ, i64_w, i32_w]
          rfl
        refine pure_ (i := 15) (N := some 27) (v := ?_) (a' := ?_) #[true, true, true, true, true, true, true, true, true, true, true, true, true, true, true, true, false, false, false] rfl rfl (any_of HT_.out (by kernel_rfl)) (fun _ _ _ h => h) (Or.inl ⟨by rfl, ?_⟩) ?_ ?_
        rotate_left
        · intro w'
          go_simp
          with_reducible rfl
        rotate_left
        · simp only [Act.put, List.setIfInBounds_toArray, List.set_cons_zero, List.set_cons_succ, i64_w, i32_w]
          rfl
        refine pure_ (i := 16) (N := some 28) (v := ?_) (a' := ?_) #[true, true, true, true, true, true, true, true, true, true, true, true, true, true, true, true, true, false, false] rfl rfl (any_of HT_.out (by kernel_rfl)) (fun _ _ _ h => h) (Or.inl ⟨by rfl, ?_⟩) ?_ ?_
        rotate_left
        · intro w'
          go_simp
          with_reducible rfl
        rotate_left
        · simp only [Act.put, List.setIfInBounds_toArray, List.set_cons_zero, List.set_cons_succ, i64_w, i32_w]
          rfl
        refine one_ (i := 17) (N := some 11) #[true, true, true, true, true, true, true, true, true, true, true, true, true, true, true, true, true, true, false] rfl rfl (one_of HT_.out (by kernel_rfl)) (by decide) (fun K hK => ?_)
        refine box_step ?hg (N := 11) ?hd (cs := #[.int .i64 0, .int .i64 0, .slice none 0 0, .int .i64 0, .int .i64 0, .int .i64 0, .int .i64 0]) (t := 33) ?hr ?_; (case hd => rfl); (case hg => rfl); (case hr => first | (go_simp; done) | (go_simp; rfl))
        intro gb298 hg w11 hbox hb
        have n0_ := trivial
        have n1_ := Aside0.mk (blk_below (g := gb295) (o := .cells #[.int .i64 0, .int .i64 0, .slice none 0 0, .int .i64 0, .int .i64 0, .int .i64 0, .int .i64 0] 33 (0, 0)) (by (with_reducible repeat (first | refine blk_drewN ?_ _ | refine blk_drew ?_ | refine blk_alloc ?_ _)); exact BK295.out) hb)
        have n2_ := Aside0.mk (below_step (by repeat (first | (with_reducible first | exact HB.out | apply below_alloc | apply pw_below_drewN | apply below_drew1 | refine below_set ?_ GE295.out) | exact HB.out)) hb)
        have n3_ := Aside0.mk (hbox)
        have n4_ := Aside0.mk ((by rw [hg]; exact (below_size (by repeat (first | (with_reducible first | exact HB.out | apply below_alloc | apply pw_below_drewN | apply below_drew1 | refine below_set ?_ GE295.out) | exact HB.out))) : w.heap.size ≤ gb298))
        have n5_ := Aside0.mk ((by rw [hg]; exact (below_size (by repeat (first | (with_reducible first | exact HB.out | apply below_alloc | apply pw_below_drewN | apply below_drew1 | refine below_set ?_ GE295.out) | exact HB.out))) : w.heap.size ≤ gb298))
        have n6_ := Aside0.mk ((by rw [hg]; exact Nat.ne_of_lt (blk_lt (g := gb295) (o := .cells #[.int .i64 0, .int .i64 0, .slice none 0 0, .int .i64 0, .int .i64 0, .int .i64 0, .int .i64 0] 33 (0, 0)) (by (with_reducible repeat (first | refine blk_drewN ?_ _ | refine blk_drew ?_ | refine blk_alloc ?_ _)); exact BK295.out)) : gb295 ≠ gb298))
        have n7_ := Aside0.mk ((by rw [hg]; exact Nat.ne_of_gt (blk_lt (g := gb295) (o := .cells #[.int .i64 0, .int .i64 0, .slice none 0 0, .int .i64 0, .int .i64 0, .int .i64 0, .int .i64 0] 33 (0, 0)) (by (with_reducible repeat (first | refine blk_drewN ?_ _ | refine blk_drew ?_ | refine blk_alloc ?_ _)); exact BK295.out)) : gb298 ≠ gb295))
        clear HO3
        clear BK295
        clear HB
        have HO3 := n0_
        have BK295 := n1_
        have HB := n2_
        have BK298 := n3_
        have GW298 := n4_
        have GE298 := n5_
        have NB295_298 := n6_
        have NB298_295 := n7_
        clear n0_ n1_ n2_ n3_ n4_ n5_ n6_ n7_
        clear hb hbox hg
        refine hK.out _ _ ⟨((HB.out.cell (World.block_lt_of_cell? w _ hw296_0)).trans hw296_0), ((HB.out.cell (World.block_lt_of_cell? w _ hw296_1)).trans hw296_1), ((HB.out.cell (World.block_lt_of_cell? w _ hw296_2)).trans hw296_2), ((HB.out.cell (World.block_lt_of_cell? w _ hw296_3)).trans hw296_3), ((HB.out.cell (World.block_lt_of_cell? w _ hw296_4)).trans hw296_4), ((HB.out.cell (World.block_lt_of_cell? w _ hw296_5)).trans hw296_5), ((HB.out.cell (World.block_lt_of_cell? w _ hw296_6)).trans hw296_6), ((HB.out.cell (World.block_lt_of_cell? w _ hw297_0)).trans hw297_0), ((HB.out.cell (World.block_lt_of_cell? w _ hw297_1)).trans hw297_1), ((HB.out.cell (World.block_lt_of_cell? w _ hw297_2)).trans hw297_2), ((HB.out.cell (World.block_lt_of_cell? w _ hw297_3)).trans hw297_3), ((HB.out.cell (World.block_lt_of_cell? w _ hw297_4)).trans hw297_4), ((HB.out.cell (World.block_lt_of_cell? w _ hw297_5)).trans hw297_5), ((HB.out.cell (World.block_lt_of_cell? w _ hw297_6)).trans hw297_6)⟩ (fun hHeld => ?_)
        clear hK K
        refine norm_ (a' := ?_) ?_ ?_
        rotate_left
        · show Act.put _ (some 11) _ = _
          simp only [Act.put, List.setIfInBounds_toArray, List.set_cons_zero, List.set_cons_succ, i64_w, i32_w]
          rfl
        refine one_ (i := 18) (N := none) #[true, true, true, true, true, true, true, true, true, true, true, true, true, true, true, true, true, true, true] rfl rfl (one_of HT_.out (by kernel_rfl)) (by decide) (fun K hK => ?_)
        have hs12 : w11.cell? ⟨gb298, 0, none⟩ = some (.int .i64 0) := (blk_cell BK298.out 0).trans rfl
        have hfs12 := blk_frozen BK298.out 0
        have hns12_0 := NB295_298.out
        have hms12_0 := NB298_295.out
        have hs13 : w11.cell? ⟨gb298, 1, none⟩ = some (.int .i64 0) := (blk_cell BK298.out 1).trans rfl
        have hfs13 := blk_frozen BK298.out 1
        have hns13_0 := NB295_298.out
        have hms13_0 := NB298_295.out
        have hs14 : w11.cell? ⟨gb298, 2, none⟩ = some (.slice none 0 0) := (blk_cell BK298.out 2).trans rfl
        have hfs14 := blk_frozen BK298.out 2
        have hns14_0 := NB295_298.out
        have hms14_0 := NB298_295.out
        have hs15 : w11.cell? ⟨gb298, 3, none⟩ = some (.int .i64 0) := (blk_cell BK298.out 3).trans rfl
        have hfs15 := blk_frozen BK298.out 3
        have hns15_0 := NB295_298.out
        have hms15_0 := NB298_295.out
        have hs16 : w11.cell? ⟨gb298, 4, none⟩ = some (.int .i64 0) := (blk_cell BK298.out 4).trans rfl
        have hfs16 := blk_frozen BK298.out 4
        have hns16_0 := NB295_298.out
        have hms16_0 := NB298_295.out
        have hs17 : w11.cell? ⟨gb298, 5, none⟩ = some (.int .i64 0) := (blk_cell BK298.out 5).trans rfl
        have hfs17 := blk_frozen BK298.out 5
        have hns17_0 := NB295_298.out
        have hms17_0 := NB298_295.out
        have hs18 : w11.cell? ⟨gb298, 6, none⟩ = some (.int .i64 0) := (blk_cell BK298.out 6).trans rfl
        have hfs18 := blk_frozen BK298.out 6
        have hns18_0 := NB295_298.out
        have hms18_0 := NB298_295.out
        refine skip_ (w1 := ?_) (by rfl) rfl ?_ ?_
        rotate_left
        · go_simp
          rfl
        have fb_ : ad296.block ≠ gb298 := Nat.ne_of_lt (Nat.lt_of_lt_of_le (by have := World.block_lt_of_cell? _ _ hw296_0; first | rwa [add_block] at this | exact this) GW298.out)
        refine hK.out _ _ ⟨((cell_far (p := ⟨gb298, _, none⟩) (by first | exact fb_ | (rw [add_block]; exact fb_) | (show (Addr.add _ _).block ≠ _; rw [add_block]; exact fb_) | (dsimp only; exact fb_)) _).trans (((cell_far (p := ⟨gb298, _, none⟩) (by first | exact fb_ | (rw [add_block]; exact fb_) | (show (Addr.add _ _).block ≠ _; rw [add_block]; exact fb_) | (dsimp only; exact fb_)) _).trans (((cell_far (p := ⟨gb298, _, none⟩) (by first | exact fb_ | (rw [add_block]; exact fb_) | (show (Addr.add _ _).block ≠ _; rw [add_block]; exact fb_) | (dsimp only; exact fb_)) _).trans (((cell_far (p := ⟨gb298, _, none⟩) (by first | exact fb_ | (rw [add_block]; exact fb_) | (show (Addr.add _ _).block ≠ _; rw [add_block]; exact fb_) | (dsimp only; exact fb_)) _).trans (((cell_far (p := ⟨gb298, _, none⟩) (by first | exact fb_ | (rw [add_block]; exact fb_) | (show (Addr.add _ _).block ≠ _; rw [add_block]; exact fb_) | (dsimp only; exact fb_)) _).trans (((cell_far (p := ⟨gb298, _, none⟩) (by first | exact fb_ | (rw [add_block]; exact fb_) | (show (Addr.add _ _).block ≠ _; rw [add_block]; exact fb_) | (dsimp only; exact fb_)) _).trans (((cell_far (p := ⟨gb298, _, none⟩) (by first | exact fb_ | (rw [add_block]; exact fb_) | (show (Addr.add _ _).block ≠ _; rw [add_block]; exact fb_) | (dsimp only; exact fb_)) _).trans (hHeld.1)))))))))))))), ((cell_far (p := ⟨gb298, _, none⟩) (by first | exact fb_ | (rw [add_block]; exact fb_) | (show (Addr.add _ _).block ≠ _; rw [add_block]; exact fb_) | (dsimp only; exact fb_)) _).trans (((cell_far (p := ⟨gb298, _, none⟩) (by first | exact fb_ | (rw [add_block]; exact fb_) | (show (Addr.add _ _).block ≠ _; rw [add_block]; exact fb_) | (dsimp only; exact fb_)) _).trans (((cell_far (p := ⟨gb298, _, none⟩) (by first | exact fb_ | (rw [add_block]; exact fb_) | (show (Addr.add _ _).block ≠ _; rw [add_block]; exact fb_) | (dsimp only; exact fb_)) _).trans (((cell_far (p := ⟨gb298, _, none⟩) (by first | exact fb_ | (rw [add_block]; exact fb_) | (show (Addr.add _ _).block ≠ _; rw [add_block]; exact fb_) | (dsimp only; exact fb_)) _).trans (((cell_far (p := ⟨gb298, _, none⟩) (by first | exact fb_ | (rw [add_block]; exact fb_) | (show (Addr.add _ _).block ≠ _; rw [add_block]; exact fb_) | (dsimp only; exact fb_)) _).trans (((cell_far (p := ⟨gb298, _, none⟩) (by first | exact fb_ | (rw [add_block]; exact fb_) | (show (Addr.add _ _).block ≠ _; rw [add_block]; exact fb_) | (dsimp only; exact fb_)) _).trans (((cell_far (p := ⟨gb298, _, none⟩) (by first | exact fb_ | (rw [add_block]; exact fb_) | (show (Addr.add _ _).block ≠ _; rw [add_block]; exact fb_) | (dsimp only; exact fb_)) _).trans (hHeld.2.1)))))))))))))), ((cell_far (p := ⟨gb298, _, none⟩) (by first | exact fb_ | (rw [add_block]; exact fb_) | (show (Addr.add _ _).block ≠ _; rw [add_block]; exact fb_) | (dsimp only; exact fb_)) _).trans (((cell_far (p := ⟨gb298, _, none⟩) (by first | exact fb_ | (rw [add_block]; exact fb_) | (show (Addr.add _ _).block ≠ _; rw [add_block]; exact fb_) | (dsimp only; exact fb_)) _).trans (((cell_far (p := ⟨gb298, _, none⟩) (by first | exact fb_ | (rw [add_block]; exact fb_) | (show (Addr.add _ _).block ≠ _; rw [add_block]; exact fb_) | (dsimp only; exact fb_)) _).trans (((cell_far (p := ⟨gb298, _, none⟩) (by first | exact fb_ | (rw [add_block]; exact fb_) | (show (Addr.add _ _).block ≠ _; rw [add_block]; exact fb_) | (dsimp only; exact fb_)) _).trans (((cell_far (p := ⟨gb298, _, none⟩) (by first | exact fb_ | (rw [add_block]; exact fb_) | (show (Addr.add _ _).block ≠ _; rw [add_block]; exact fb_) | (dsimp only; exact fb_)) _).trans (((cell_far (p := ⟨gb298, _, none⟩) (by first | exact fb_ | (rw [add_block]; exact fb_) | (show (Addr.add _ _).block ≠ _; rw [add_block]; exact fb_) | (dsimp only; exact fb_)) _).trans (((cell_far (p := ⟨gb298, _, none⟩) (by first | exact fb_ | (rw [add_block]; exact fb_) | (show (Addr.add _ _).block ≠ _; rw [add_block]; exact fb_) | (dsimp only; exact fb_)) _).trans (hHeld.2.2.1)))))))))))))), ((cell_far (p := ⟨gb298, _, none⟩) (by first | exact fb_ | (rw [add_block]; exact fb_) | (show (Addr.add _ _).block ≠ _; rw [add_block]; exact fb_) | (dsimp only; exact fb_)) _).trans (((cell_far (p := ⟨gb298, _, none⟩) (by first | exact fb_ | (rw [add_block]; exact fb_) | (show (Addr.add _ _).block ≠ _; rw [add_block]; exact fb_) | (dsimp only; exact fb_)) _).trans (((cell_far (p := ⟨gb298, _, none⟩) (by first | exact fb_ | (rw [add_block]; exact fb_) | (show (Addr.add _ _).block ≠ _; rw [add_block]; exact fb_) | (dsimp only; exact fb_)) _).trans (((cell_far (p := ⟨gb298, _, none⟩) (by first | exact fb_ | (rw [add_block]; exact fb_) | (show (Addr.add _ _).block ≠ _; rw [add_block]; exact fb_) | (dsimp only; exact fb_)) _).trans (((cell_far (p := ⟨gb298, _, none⟩) (by first | exact fb_ | (rw [add_block]; exact fb_) | (show (Addr.add _ _).block ≠ _; rw [add_block]; exact fb_) | (dsimp only; exact fb_)) _).trans (((cell_far (p := ⟨gb298, _, none⟩) (by first | exact fb_ | (rw [add_block]; exact fb_) | (show (Addr.add _ _).block ≠ _; rw [add_block]; exact fb_) | (dsimp only; exact fb_)) _).trans (((cell_far (p := ⟨gb298, _, none⟩) (by first | exact fb_ | (rw [add_block]; exact fb_) | (show (Addr.add _ _).block ≠ _; rw [add_block]; exact fb_) | (dsimp only; exact fb_)) _).trans (hHeld.2.2.2.1)))))))))))))), ((cell_far (p := ⟨gb298, _, none⟩) (by first | exact fb_ | (rw [add_block]; exact fb_) | (show (Addr.add _ _).block ≠ _; rw [add_block]; exact fb_) | (dsimp only; exact fb_)) _).trans (((cell_far (p := ⟨gb298, _, none⟩) (by first | exact fb_ | (rw [add_block]; exact fb_) | (show (Addr.add _ _).block ≠ _; rw [add_block]; exact fb_) | (dsimp only; exact fb_)) _).trans (((cell_far (p := ⟨gb298, _, none⟩) (by first | exact fb_ | (rw [add_block]; exact fb_) | (show (Addr.add _ _).block ≠ _; rw [add_block]; exact fb_) | (dsimp only; exact fb_)) _).trans (((cell_far (p := ⟨gb298, _, none⟩) (by first | exact fb_ | (rw [add_block]; exact fb_) | (show (Addr.add _ _).block ≠ _; rw [add_block]; exact fb_) | (dsimp only; exact fb_)) _).trans (((cell_far (p := ⟨gb298, _, none⟩) (by first | exact fb_ | (rw [add_block]; exact fb_) | (show (Addr.add _ _).block ≠ _; rw [add_block]; exact fb_) | (dsimp only; exact fb_)) _).trans (((cell_far (p := ⟨gb298, _, none⟩) (by first | exact fb_ | (rw [add_block]; exact fb_) | (show (Addr.add _ _).block ≠ _; rw [add_block]; exact fb_) | (dsimp only; exact fb_)) _).trans (((cell_far (p := ⟨gb298, _, none⟩) (by first | exact fb_ | (rw [add_block]; exact fb_) | (show (Addr.add _ _).block ≠ _; rw [add_block]; exact fb_) | (dsimp only; exact fb_)) _).trans (hHeld.2.2.2.2.1)))))))))))))), ((cell_far (p := ⟨gb298, _, none⟩) (by first | exact fb_ | (rw [add_block]; exact fb_) | (show (Addr.add _ _).block ≠ _; rw [add_block]; exact fb_) | (dsimp only; exact fb_)) _).trans (((cell_far (p := ⟨gb298, _, none⟩) (by first | exact fb_ | (rw [add_block]; exact fb_) | (show (Addr.add _ _).block ≠ _; rw [add_block]; exact fb_) | (dsimp only; exact fb_)) _).trans (((cell_far (p := ⟨gb298, _, none⟩) (by first | exact fb_ | (rw [add_block]; exact fb_) | (show (Addr.add _ _).block ≠ _; rw [add_block]; exact fb_) | (dsimp only; exact fb_)) _).trans (((cell_far (p := ⟨gb298, _, none⟩) (by first | exact fb_ | (rw [add_block]; exact fb_) | (show (Addr.add _ _).block ≠ _; rw [add_block]; exact fb_) | (dsimp only; exact fb_)) _).trans (((cell_far (p := ⟨gb298, _, none⟩) (by first | exact fb_ | (rw [add_block]; exact fb_) | (show (Addr.add _ _).block ≠ _; rw [add_block]; exact fb_) | (dsimp only; exact fb_)) _).trans (((cell_far (p := ⟨gb298, _, none⟩) (by first | exact fb_ | (rw [add_block]; exact fb_) | (show (Addr.add _ _).block ≠ _; rw [add_block]; exact fb_) | (dsimp only; exact fb_)) _).trans (((cell_far (p := ⟨gb298, _, none⟩) (by first | exact fb_ | (rw [add_block]; exact fb_) | (show (Addr.add _ _).block ≠ _; rw [add_block]; exact fb_) | (dsimp only; exact fb_)) _).trans (hHeld.2.2.2.2.2.1)))))))))))))), ((cell_far (p := ⟨gb298, _, none⟩) (by first | exact fb_ | (rw [add_block]; exact fb_) | (show (Addr.add _ _).block ≠ _; rw [add_block]; exact fb_) | (dsimp only; exact fb_)) _).trans (((cell_far (p := ⟨gb298, _, none⟩) (by first | exact fb_ | (rw [add_block]; exact fb_) | (show (Addr.add _ _).block ≠ _; rw [add_block]; exact fb_) | (dsimp only; exact fb_)) _).trans (((cell_far (p := ⟨gb298, _, none⟩) (by first | exact fb_ | (rw [add_block]; exact fb_) | (show (Addr.add _ _).block ≠ _; rw [add_block]; exact fb_) | (dsimp only; exact fb_)) _).trans (((cell_far (p := ⟨gb298, _, none⟩) (by first | exact fb_ | (rw [add_block]; exact fb_) | (show (Addr.add _ _).block ≠ _; rw [add_block]; exact fb_) | (dsimp only; exact fb_)) _).trans (((cell_far (p := ⟨gb298, _, none⟩) (by first | exact fb_ | (rw [add_block]; exact fb_) | (show (Addr.add _ _).block ≠ _; rw [add_block]; exact fb_) | (dsimp only; exact fb_)) _).trans (((cell_far (p := ⟨gb298, _, none⟩) (by first | exact fb_ | (rw [add_block]; exact fb_) | (show (Addr.add _ _).block ≠ _; rw [add_block]; exact fb_) | (dsimp only; exact fb_)) _).trans (((cell_far (p := ⟨gb298, _, none⟩) (by first | exact fb_ | (rw [add_block]; exact fb_) | (show (Addr.add _ _).block ≠ _; rw [add_block]; exact fb_) | (dsimp only; exact fb_)) _).trans (hHeld.2.2.2.2.2.2.1)))))))))))))), ((cell_far (p := ⟨gb298, _, none⟩) (by first | exact fb_ | (rw [add_block]; exact fb_) | (show (Addr.add _ _).block ≠ _; rw [add_block]; exact fb_) | (dsimp only; exact fb_)) _).trans (((cell_far (p := ⟨gb298, _, none⟩) (by first | exact fb_ | (rw [add_block]; exact fb_) | (show (Addr.add _ _).block ≠ _; rw [add_block]; exact fb_) | (dsimp only; exact fb_)) _).trans (((cell_far (p := ⟨gb298, _, none⟩) (by first | exact fb_ | (rw [add_block]; exact fb_) | (show (Addr.add _ _).block ≠ _; rw [add_block]; exact fb_) | (dsimp only; exact fb_)) _).trans (((cell_far (p := ⟨gb298, _, none⟩) (by first | exact fb_ | (rw [add_block]; exact fb_) | (show (Addr.add _ _).block ≠ _; rw [add_block]; exact fb_) | (dsimp only; exact fb_)) _).trans (((cell_far (p := ⟨gb298, _, none⟩) (by first | exact fb_ | (rw [add_block]; exact fb_) | (show (Addr.add _ _).block ≠ _; rw [add_block]; exact fb_) | (dsimp only; exact fb_)) _).trans (((cell_far (p := ⟨gb298, _, none⟩) (by first | exact fb_ | (rw [add_block]; exact fb_) | (show (Addr.add _ _).block ≠ _; rw [add_block]; exact fb_) | (dsimp only; exact fb_)) _).trans (((cell_far (p := ⟨gb298, _, none⟩) (by first | exact fb_ | (rw [add_block]; exact fb_) | (show (Addr.add _ _).block ≠ _; rw [add_block]; exact fb_) | (dsimp only; exact fb_)) _).trans (hHeld.2.2.2.2.2.2.2.1)))))))))))))), ((cell_far (p := ⟨gb298, _, none⟩) (by first | exact fb_ | (rw [add_block]; exact fb_) | (show (Addr.add _ _).block ≠ _; rw [add_block]; exact fb_) | (dsimp only; exact fb_)) _).trans (((cell_far (p := ⟨gb298, _, none⟩) (by first | exact fb_ | (rw [add_block]; exact fb_) | (show (Addr.add _ _).block ≠ _; rw [add_block]; exact fb_) | (dsimp only; exact fb_)) _).trans (((cell_far (p := ⟨gb298, _, none⟩) (by first | exact fb_ | (rw [add_block]; exact fb_) | (show (Addr.add _ _).block ≠ _; rw [add_block]; exact fb_) | (dsimp only; exact fb_)) _).trans (((cell_far (p := ⟨gb298, _, none⟩) (by first | exact fb_ | (rw [add_block]; exact fb_) | (show (Addr.add _ _).block ≠ _; rw [add_block]; exact fb_) | (dsimp only; exact fb_)) _).trans (((cell_far (p := ⟨gb298, _, none⟩) (by first | exact fb_ | (rw [add_block]; exact fb_) | (show (Addr.add _ _).block ≠ _; rw [add_block]; exact fb_) | (dsimp only; exact fb_)) _).trans (((cell_far (p := ⟨gb298, _, none⟩) (by first | exact fb_ | (rw [add_block]; exact fb_) | (show (Addr.add _ _).block ≠ _; rw [add_block]; exact fb_) | (dsimp only; exact fb_)) _).trans (((cell_far (p := ⟨gb298, _, none⟩) (by first | exact fb_ | (rw [add_block]; exact fb_) | (show (Addr.add _ _).block ≠ _; rw [add_block]; exact fb_) | (dsimp only; exact fb_)) _).trans (hHeld.2.2.2.2.2.2.2.2.1)))))))))))))), ((cell_far (p := ⟨gb298, _, none⟩) (by first | exact fb_ | (rw [add_block]; exact fb_) | (show (Addr.add _ _).block ≠ _; rw [add_block]; exact fb_) | (dsimp only; exact fb_)) _).trans (((cell_far (p := ⟨gb298, _, none⟩) (by first | exact fb_ | (rw [add_block]; exact fb_) | (show (Addr.add _ _).block ≠ _; rw [add_block]; exact fb_) | (dsimp only; exact fb_)) _).trans (((cell_far (p := ⟨gb298, _, none⟩) (by first | exact fb_ | (rw [add_block]; exact fb_) | (show (Addr.add _ _).block ≠ _; rw [add_block]; exact fb_) | (dsimp only; exact fb_)) _).trans (((cell_far (p := ⟨gb298, _, none⟩) (by first | exact fb_ | (rw [add_block]; exact fb_) | (show (Addr.add _ _).block ≠ _; rw [add_block]; exact fb_) | (dsimp only; exact fb_)) _).trans (((cell_far (p := ⟨gb298, _, none⟩) (by first | exact fb_ | (rw [add_block]; exact fb_) | (show (Addr.add _ _).block ≠ _; rw [add_block]; exact fb_) | (dsimp only; exact fb_)) _).trans (((cell_far (p := ⟨gb298, _, none⟩) (by first | exact fb_ | (rw [add_block]; exact fb_) | (show (Addr.add _ _).block ≠ _; rw [add_block]; exact fb_) | (dsimp only; exact fb_)) _).trans (((cell_far (p := ⟨gb298, _, none⟩) (by first | exact fb_ | (rw [add_block]; exact fb_) | (show (Addr.add _ _).block ≠ _; rw [add_block]; exact fb_) | (dsimp only; exact fb_)) _).trans (hHeld.2.2.2.2.2.2.2.2.2.1)))))))))))))), ((cell_far (p := ⟨gb298, _, none⟩) (by first | exact fb_ | (rw [add_block]; exact fb_) | (show (Addr.add _ _).block ≠ _; rw [add_block]; exact fb_) | (dsimp only; exact fb_)) _).trans (((cell_far (p := ⟨gb298, _, none⟩) (by first | exact fb_ | (rw [add_block]; exact fb_) | (show (Addr.add _ _).block ≠ _; rw [add_block]; exact fb_) | (dsimp only; exact fb_)) _).trans (((cell_far (p := ⟨gb298, _, none⟩) (by first | exact fb_ | (rw [add_block]; exact fb_) | (show (Addr.add _ _).block ≠ _; rw [add_block]; exact fb_) | (dsimp only; exact fb_)) _).trans (((cell_far (p := ⟨gb298, _, none⟩) (by first | exact fb_ | (rw [add_block]; exact fb_) | (show (Addr.add _ _).block ≠ _; rw [add_block]; exact fb_) | (dsimp only; exact fb_)) _).trans (((cell_far (p := ⟨gb298, _, none⟩) (by first | exact fb_ | (rw [add_block]; exact fb_) | (show (Addr.add _ _).block ≠ _; rw [add_block]; exact fb_) | (dsimp only; exact fb_)) _).trans (((cell_far (p := ⟨gb298, _, none⟩) (by first | exact fb_ | (rw [add_block]; exact fb_) | (show (Addr.add _ _).block ≠ _; rw [add_block]; exact fb_) | (dsimp only; exact fb_)) _).trans (((cell_far (p := ⟨gb298, _, none⟩) (by first | exact fb_ | (rw [add_block]; exact fb_) | (show (Addr.add _ _).block ≠ _; rw [add_block]; exact fb_) | (dsimp only; exact fb_)) _).trans (hHeld.2.2.2.2.2.2.2.2.2.2.1)))))))))))))), ((cell_far (p := ⟨gb298, _, none⟩) (by first | exact fb_ | (rw [add_block]; exact fb_) | (show (Addr.add _ _).block ≠ _; rw [add_block]; exact fb_) | (dsimp only; exact fb_)) _).trans (((cell_far (p := ⟨gb298, _, none⟩) (by first | exact fb_ | (rw [add_block]; exact fb_) | (show (Addr.add _ _).block ≠ _; rw [add_block]; exact fb_) | (dsimp only; exact fb_)) _).trans (((cell_far (p := ⟨gb298, _, none⟩) (by first | exact fb_ | (rw [add_block]; exact fb_) | (show (Addr.add _ _).block ≠ _; rw [add_block]; exact fb_) | (dsimp only; exact fb_)) _).trans (((cell_far (p := ⟨gb298, _, none⟩) (by first | exact fb_ | (rw [add_block]; exact fb_) | (show (Addr.add _ _).block ≠ _; rw [add_block]; exact fb_) | (dsimp only; exact fb_)) _).trans (((cell_far (p := ⟨gb298, _, none⟩) (by first | exact fb_ | (rw [add_block]; exact fb_) | (show (Addr.add _ _).block ≠ _; rw [add_block]; exact fb_) | (dsimp only; exact fb_)) _).trans (((cell_far (p := ⟨gb298, _, none⟩) (by first | exact fb_ | (rw [add_block]; exact fb_) | (show (Addr.add _ _).block ≠ _; rw [add_block]; exact fb_) | (dsimp only; exact fb_)) _).trans (((cell_far (p := ⟨gb298, _, none⟩) (by first | exact fb_ | (rw [add_block]; exact fb_) | (show (Addr.add _ _).block ≠ _; rw [add_block]; exact fb_) | (dsimp only; exact fb_)) _).trans (hHeld.2.2.2.2.2.2.2.2.2.2.2.1)))))))))))))), ((cell_far (p := ⟨gb298, _, none⟩) (by first | exact fb_ | (rw [add_block]; exact fb_) | (show (Addr.add _ _).block ≠ _; rw [add_block]; exact fb_) | (dsimp only; exact fb_)) _).trans (((cell_far (p := ⟨gb298, _, none⟩) (by first | exact fb_ | (rw [add_block]; exact fb_) | (show (Addr.add _ _).block ≠ _; rw [add_block]; exact fb_) | (dsimp only; exact fb_)) _).trans (((cell_far (p := ⟨gb298, _, none⟩) (by first | exact fb_ | (rw [add_block]; exact fb_) | (show (Addr.add _ _).block ≠ _; rw [add_block]; exact fb_) | (dsimp only; exact fb_)) _).trans (((cell_far (p := ⟨gb298, _, none⟩) (by first | exact fb_ | (rw [add_block]; exact fb_) | (show (Addr.add _ _).block ≠ _; rw [add_block]; exact fb_) | (dsimp only; exact fb_)) _).trans (((cell_far (p := ⟨gb298, _, none⟩) (by first | exact fb_ | (rw [add_block]; exact fb_) | (show (Addr.add _ _).block ≠ _; rw [add_block]; exact fb_) | (dsimp only; exact fb_)) _).trans (((cell_far (p := ⟨gb298, _, none⟩) (by first | exact fb_ | (rw [add_block]; exact fb_) | (show (Addr.add _ _).block ≠ _; rw [add_block]; exact fb_) | (dsimp only; exact fb_)) _).trans (((cell_far (p := ⟨gb298, _, none⟩) (by first | exact fb_ | (rw [add_block]; exact fb_) | (show (Addr.add _ _).block ≠ _; rw [add_block]; exact fb_) | (dsimp only; exact fb_)) _).trans (hHeld.2.2.2.2.2.2.2.2.2.2.2.2.1)))))))))))))), ((cell_far (p := ⟨gb298, _, none⟩) (by first | exact fb_ | (rw [add_block]; exact fb_) | (show (Addr.add _ _).block ≠ _; rw [add_block]; exact fb_) | (dsimp only; exact fb_)) _).trans (((cell_far (p := ⟨gb298, _, none⟩) (by first | exact fb_ | (rw [add_block]; exact fb_) | (show (Addr.add _ _).block ≠ _; rw [add_block]; exact fb_) | (dsimp only; exact fb_)) _).trans (((cell_far (p := ⟨gb298, _, none⟩) (by first | exact fb_ | (rw [add_block]; exact fb_) | (show (Addr.add _ _).block ≠ _; rw [add_block]; exact fb_) | (dsimp only; exact fb_)) _).trans (((cell_far (p := ⟨gb298, _, none⟩) (by first | exact fb_ | (rw [add_block]; exact fb_) | (show (Addr.add _ _).block ≠ _; rw [add_block]; exact fb_) | (dsimp only; exact fb_)) _).trans (((cell_far (p := ⟨gb298, _, none⟩) (by first | exact fb_ | (rw [add_block]; exact fb_) | (show (Addr.add _ _).block ≠ _; rw [add_block]; exact fb_) | (dsimp only; exact fb_)) _).trans (((cell_far (p := ⟨gb298, _, none⟩) (by first | exact fb_ | (rw [add_block]; exact fb_) | (show (Addr.add _ _).block ≠ _; rw [add_block]; exact fb_) | (dsimp only; exact fb_)) _).trans (((cell_far (p := ⟨gb298, _, none⟩) (by first | exact fb_ | (rw [add_block]; exact fb_) | (show (Addr.add _ _).block ≠ _; rw [add_block]; exact fb_) | (dsimp only; exact fb_)) _).trans (hHeld.2.2.2.2.2.2.2.2.2.2.2.2.2))))))))))))))⟩ (fun hHeld => ?_)
        clear hK K
        refine done_ (done_of HT_.out (by kernel_rfl)) ?_
        rename_i Q_ K_ a_ hh1_ hh2_
        clear hh1_ hh2_
        clear hw296_0 hw296_1 hw296_2 hw296_3 hw296_4 hw296_5 hw296_6 hw297_0 hw297_1 hw297_2 hw297_3 hw297_4 hw297_5 hw297_6 hx296_0 hx296_1 hx296_2 hx296_3 hx296_4 hx296_5 hx296_6 hx297_0 hx297_1 hx297_2 hx297_3 hx297_4 hx297_5 hx297_6 hs12 hfs12 hns12_0 hms12_0 hs13 hfs13 hns13_0 hms13_0 hs14 hfs14 hns14_0 hms14_0 hs15 hfs15 hns15_0 hms15_0 hs16 hfs16 hns16_0 hms16_0 hs17 hfs17 hns17_0 hms17_0 hs18 hfs18 hns18_0 hms18_0 p296 p297 q296 q297 HR296_2 HR297_2 HC296_2 HC297_2 e297 hHeld HT_ HW_
        obtain ⟨W_, hW_⟩ : ∃ W_ : World, W_ = (((((((w11.setCell ⟨gb298, 0, none⟩ (.int .i64 a1)).setCell ⟨gb298, 1, none⟩ (.int .i64 (wrap64 (((rd_T33 l0 a1).f1) + a2)))).setCell ⟨gb298, 2, none⟩ (.slice A3 l3.length c3)).setCell ⟨gb298, 3, none⟩ (.int .i64 0)).setCell ⟨gb298, 4, none⟩ (.int .i64 ((rd_T33 l0 a1).f1))).setCell ⟨gb298, 5, none⟩ (.int .i64 a1)).setCell ⟨gb298, 6, none⟩ (.int .i64 0)) := ⟨_, rfl⟩
        rw [← hW_]
        have n0_ : Aside0 (W_.heap[gb298]? = some (.cells #[.int .i64 a1, .int .i64 (wrap64 (((rd_T33 l0 a1).f1) + a2)), .slice A3 l3.length c3, .int .i64 0, .int .i64 ((rd_T33 l0 a1).f1), .int .i64 a1, .int .i64 0] 33 (0, 0))) := ⟨by rw [hW_]; exact (blk_put (blk_put (blk_put (blk_put (blk_put (blk_put (blk_put BK298.out 0 (.int .i64 a1) rfl) 1 (.int .i64 (wrap64 (((rd_T33 l0 a1).f1) + a2))) rfl) 2 (.slice A3 l3.length c3) rfl) 3 (.int .i64 0) rfl) 4 (.int .i64 ((rd_T33 l0 a1).f1)) rfl) 5 (.int .i64 a1) rfl) 6 (.int .i64 0) rfl)⟩
        have n1_ : Aside0 (W_.heap[gb295]? = some (.cells #[.int .i64 0, .int .i64 0, .slice none 0 0, .int .i64 0, .int .i64 0, .int .i64 0, .int .i64 0] 33 (0, 0))) := ⟨by rw [hW_]; (repeat (refine blk_far ?_ NB295_298.out _)); exact BK295.out⟩
        have n2_ : Aside0 (Below w.heap.size w W_) := ⟨by rw [hW_]; (repeat (refine below_set ?_ GE298.out)); exact HB.out⟩
        clear BK298 BK295 HB HO3 hW_
        have BK298 := n0_
        have BK295 := n1_
        have HB := n2_
        clear n0_ n1_ n2_
        have hcz20_0 : W_.cell? ⟨gb298, 0, none⟩ = some (.int .i64 a1) := (blk_cell BK298.out 0).trans rfl
        have hfz20_0 := blk_frozen BK298.out 0
        have hcz20_1 : W_.cell? ⟨gb298, 1, none⟩ = some (.int .i64 (wrap64 (((rd_T33 l0 a1).f1) + a2))) := (blk_cell BK298.out 1).trans rfl
        have hfz20_1 := blk_frozen BK298.out 1
        have hcz20_2 : W_.cell? ⟨gb298, 2, none⟩ = some (.slice A3 l3.length c3) := (blk_cell BK298.out 2).trans rfl
        have hfz20_2 := blk_frozen BK298.out 2
        have hcz20_3 : W_.cell? ⟨gb298, 3, none⟩ = some (.int .i64 0) := (blk_cell BK298.out 3).trans rfl
        have hfz20_3 := blk_frozen BK298.out 3
        have hcz20_4 : W_.cell? ⟨gb298, 4, none⟩ = some (.int .i64 ((rd_T33 l0 a1).f1)) := (blk_cell BK298.out 4).trans rfl
        have hfz20_4 := blk_frozen BK298.out 4
        have hcz20_5 : W_.cell? ⟨gb298, 5, none⟩ = some (.int .i64 a1) := (blk_cell BK298.out 5).trans rfl
        have hfz20_5 := blk_frozen BK298.out 5
        have hcz20_6 : W_.cell? ⟨gb298, 6, none⟩ = some (.int .i64 0) := (blk_cell BK298.out 6).trans rfl
        have hfz20_6 := blk_frozen BK298.out 6
        have hcz21_0 : W_.cell? ⟨gb295, 0, none⟩ = some (.int .i64 0) := (blk_cell BK295.out 0).trans rfl
        have hfz21_0 := blk_frozen BK295.out 0
        have hcz21_1 : W_.cell? ⟨gb295, 1, none⟩ = some (.int .i64 0) := (blk_cell BK295.out 1).trans rfl
        have hfz21_1 := blk_frozen BK295.out 1
        have hcz21_2 : W_.cell? ⟨gb295, 2, none⟩ = some (.slice none 0 0) := (blk_cell BK295.out 2).trans rfl
        have hfz21_2 := blk_frozen BK295.out 2
        have hcz21_3 : W_.cell? ⟨gb295, 3, none⟩ = some (.int .i64 0) := (blk_cell BK295.out 3).trans rfl
        have hfz21_3 := blk_frozen BK295.out 3
        have hcz21_4 : W_.cell? ⟨gb295, 4, none⟩ = some (.int .i64 0) := (blk_cell BK295.out 4).trans rfl
        have hfz21_4 := blk_frozen BK295.out 4
        have hcz21_5 : W_.cell? ⟨gb295, 5, none⟩ = some (.int .i64 0) := (blk_cell BK295.out 5).trans rfl
        have hfz21_5 := blk_frozen BK295.out 5
        have hcz21_6 : W_.cell? ⟨gb295, 6, none⟩ = some (.int .i64 0) := (blk_cell BK295.out 6).trans rfl
        have hfz21_6 := blk_frozen BK295.out 6
        have hnb19 := NB298_295.out
        have hnc19 := NB295_298.out
        go_wp2
        refine bodyPost_ret (results_cell_row rfl _ _ gb295 33 #[.int .i64 a1, .int .i64 (wrap64 (((rd_T33 l0 a1).f1) + a2)), .slice A3 l3.length c3, .int .i64 a4, .int .i64 ((rd_T33 l0 a1).f1), .int .i64 a1, .int .i64 7] (0, 0) _ rfl (by exact (blk_put (blk_put (blk_put (blk_put (blk_put (blk_put (blk_put (blk_far (blk_far BK295.out NB295_298.out _) NB295_298.out _) 0 (.int .i64 a1) rfl) 1 (.int .i64 (wrap64 (((rd_T33 l0 a1).f1) + a2))) rfl) 2 (.slice A3 l3.length c3) rfl) 3 (.int .i64 a4) rfl) 4 (.int .i64 ((rd_T33 l0 a1).f1)) rfl) 5 (.int .i64 a1) rfl) 6 (.int .i64 7) rfl)) Try.underlying33 rfl (by kernel_rfl)) rfl ?_
        exact ⟨by first | rfl | trivial, by first | rfl | trivial, (below_set (below_set (below_set (below_set (below_set (below_set (below_set (below_set (below_set HB.out GE298.out) GE298.out) GE295.out) GE295.out) GE295.out) GE295.out) GE295.out) GE295.out) GE295.out)⟩
      · rw [if_neg c8] at H
        have c8b0 : decide (0 < a1) = false := decide_eq_false c8
        clear c8
        simp only [Option.some.injEq, Prod.mk.injEq] at H
        obtain ⟨rfl, rfl, rfl, rfl, rfl, rfl, rfl⟩ := H
        go_enter Try.func40, Try.ntmps40
        try go_wp2_with (first | ((with_reducible refine gate_dst (N := 10) rfl ?_); refine box_event ?hg (N := 10) ?hd (cs := #[.int .i64 0, .int .i64 0, .slice none 0 0, .int .i64 0, .int .i64 0, .int .i64 0, .int .i64 0]) (t := 33) ?hr ?_; (case hd => rfl); (case hg => rfl); (case hr => first | (go_simp; done) | (go_simp; rfl)); intro gb295 hg w22 hbox hb; have n0_ := trivial; have n1_ := Aside0.mk (below_step (by repeat (first | (with_reducible first | exact HB.out | apply below_alloc | apply pw_below_drewN | apply below_drew1) | exact HB.out)) hb); have n2_ := Aside0.mk (hbox); have n3_ := Aside0.mk ((by rw [hg]; exact (below_size (by repeat (first | (with_reducible first | exact HB.out | apply below_alloc | apply pw_below_drewN | apply below_drew1) | exact HB.out))) : w.heap.size ≤ gb295)); have n4_ := Aside0.mk ((by rw [hg]; exact (below_size (by repeat (first | (with_reducible first | exact HB.out | apply below_alloc | apply pw_below_drewN | apply below_drew1) | exact HB.out))) : w.heap.size ≤ gb295)); clear HO3; clear HB; have HO3 := n0_; have HB := n1_; have BK295 := n2_; have GW295 := n3_; have GE295 := n4_; clear n0_ n1_ n2_ n3_ n4_; clear hb hbox hg))
        have n0_ := trivial
        have n1_ := Aside0.mk (blk_drew BK295.out)
        have n2_ := Aside0.mk (below_drew1 HB.out)
        clear HO3
        clear BK295
        clear HB
        have HO3 := n0_
        have BK295 := n1_
        have HB := n2_
        clear n0_ n1_ n2_
        have p296 : 0 ≤ (a1 : Int) := of_decide_eq_true (by first | (with_reducible assumption) | assumption)
        have q296 : a1 < (l0.length : Int) := of_decide_eq_true (by first | (with_reducible assumption) | assumption)
        obtain ⟨ad296, A296_2, c296_2, e296, hx296_0, hx296_1, hx296_2, hx296_3, hx296_4, hx296_5, hx296_6, hl296_2, hi296_2⟩ := at_T33 HR0.out a1 p296 q296
        have hw296_6 := hx296_6
        have hw296_5 := hx296_5
        have hw296_4 := hx296_4
        have hw296_3 := hx296_3
        have hw296_2 := hx296_2
        have hw296_1 := hx296_1
        have hw296_0 := hx296_0
        cases e296
        replace hx296_0 := (HB.out.cell (World.block_lt_of_cell? w _ hx296_0)).trans hx296_0
        replace hx296_1 := (HB.out.cell (World.block_lt_of_cell? w _ hx296_1)).trans hx296_1
        replace hx296_2 := (HB.out.cell (World.block_lt_of_cell? w _ hx296_2)).trans hx296_2
        replace hx296_3 := (HB.out.cell (World.block_lt_of_cell? w _ hx296_3)).trans hx296_3
        replace hx296_4 := (HB.out.cell (World.block_lt_of_cell? w _ hx296_4)).trans hx296_4
        replace hx296_5 := (HB.out.cell (World.block_lt_of_cell? w _ hx296_5)).trans hx296_5
        replace hx296_6 := (HB.out.cell (World.block_lt_of_cell? w _ hx296_6)).trans hx296_6
        have HR296_2 := Aside0.mk hi296_2
        have HC296_2 := Aside0.mk hl296_2
        clear hi296_2 hl296_2
        replace p296 := eq_true p296
        replace q296 := eq_true q296
        have p297 : 0 ≤ (a1 : Int) := of_decide_eq_true (by first | (with_reducible assumption) | assumption)
        have q297 : a1 < (l0.length : Int) := of_decide_eq_true (by first | (with_reducible assumption) | assumption)
        obtain ⟨ad297, A297_2, c297_2, e297, hx297_0, hx297_1, hx297_2, hx297_3, hx297_4, hx297_5, hx297_6, hl297_2, hi297_2⟩ := at_T33 HR0.out a1 p297 q297
        have hw297_6 := hx297_6
        have hw297_5 := hx297_5
        have hw297_4 := hx297_4
        have hw297_3 := hx297_3
        have hw297_2 := hx297_2
        have hw297_1 := hx297_1
        have hw297_0 := hx297_0
        obtain rfl : ad296 = ad297 := (by injection e297)
        replace hx297_0 := (HB.out.cell (World.block_lt_of_cell? w _ hx297_0)).trans hx297_0
        replace hx297_1 := (HB.out.cell (World.block_lt_of_cell? w _ hx297_1)).trans hx297_1
        replace hx297_2 := (HB.out.cell (World.block_lt_of_cell? w _ hx297_2)).trans hx297_2
        replace hx297_3 := (HB.out.cell (World.block_lt_of_cell? w _ hx297_3)).trans hx297_3
        replace hx297_4 := (HB.out.cell (World.block_lt_of_cell? w _ hx297_4)).trans hx297_4
        replace hx297_5 := (HB.out.cell (World.block_lt_of_cell? w _ hx297_5)).trans hx297_5
        replace hx297_6 := (HB.out.cell (World.block_lt_of_cell? w _ hx297_6)).trans hx297_6
        have HR297_2 := Aside0.mk hi297_2
        have HC297_2 := Aside0.mk hl297_2
        clear hi297_2 hl297_2
        replace p297 := eq_true p297
        replace q297 := eq_true q297
        have ea_ := Option.some.inj (hx296_2.symm.trans hx297_2)
        injection ea_ with ea_ en_ ec_
        subst ea_
        subst ec_
        clear en_
        refine start_ (n := 19) (S := fun w' => w'.cell? (ad296.add ((a1).toNat * 7)) = some (.int .i64 ((rd_T33 l0 a1).f0)) ∧ w'.cell? ⟨(ad296.add ((a1).toNat * 7)).block, (ad296.add ((a1).toNat * 7)).off + 1, none⟩ = some (.int .i64 ((rd_T33 l0 a1).f1)) ∧ w'.cell? ⟨(ad296.add ((a1).toNat * 7)).block, (ad296.add ((a1).toNat * 7)).off + 2, none⟩ = some (.slice A296_2 ((rd_T33 l0 a1).f2).length c296_2) ∧ w'.cell? ⟨(ad296.add ((a1).toNat * 7)).block, (ad296.add ((a1).toNat * 7)).off + 3, none⟩ = some (.int .i64 ((rd_T33 l0 a1).f3.f0)) ∧ w'.cell? ⟨(ad296.add ((a1).toNat * 7)).block, (ad296.add ((a1).toNat * 7)).off + 4, none⟩ = some (.int .i64 ((rd_T33 l0 a1).f3.f1)) ∧ w'.cell? ⟨(ad296.add ((a1).toNat * 7)).block, (ad296.add ((a1).toNat * 7)).off + 5, none⟩ = some (.int .i64 ((rd_T33 l0 a1).f3.f2)) ∧ w'.cell? ⟨(ad296.add ((a1).toNat * 7)).block, (ad296.add ((a1).toNat * 7)).off + 6, none⟩ = some (.int .i64 ((rd_T33 l0 a1).f3.f3)) ∧ w'.cell? (ad296.add ((a1).toNat * 7)) = some (.int .i64 ((rd_T33 l0 a1).f0)) ∧ w'.cell? ⟨(ad296.add ((a1).toNat * 7)).block, (ad296.add ((a1).toNat * 7)).off + 1, none⟩ = some (.int .i64 ((rd_T33 l0 a1).f1)) ∧ w'.cell? ⟨(ad296.add ((a1).toNat * 7)).block, (ad296.add ((a1).toNat * 7)).off + 2, none⟩ = some (.slice A296_2 ((rd_T33 l0 a1).f2).length c296_2) ∧ w'.cell? ⟨(ad296.add ((a1).toNat * 7)).block, (ad296.add ((a1).toNat * 7)).off + 3, none⟩ = some (.int .i64 ((rd_T33 l0 a1).f3.f0)) ∧ w'.cell? ⟨(ad296.add ((a1).toNat * 7)).block, (ad296.add ((a1).toNat * 7)).off + 4, none⟩ = some (.int .i64 ((rd_T33 l0 a1).f3.f1)) ∧ w'.cell? ⟨(ad296.add ((a1).toNat * 7)).block, (ad296.add ((a1).toNat * 7)).off + 5, none⟩ = some (.int .i64 ((rd_T33 l0 a1).f3.f2)) ∧ w'.cell? ⟨(ad296.add ((a1).toNat * 7)).block, (ad296.add ((a1).toNat * 7)).off + 6, none⟩ = some (.int .i64 ((rd_T33 l0 a1).f3.f3))) (ds := []) #[false, false, false, false, false, false, false, false, false, false, false, false, false, false, false, false, false, false, false] (by kernel_rfl) rfl rfl ⟨((HB.out.cell (World.block_lt_of_cell? w _ hw296_0)).trans hw296_0), ((HB.out.cell (World.block_lt_of_cell? w _ hw296_1)).trans hw296_1), ((HB.out.cell (World.block_lt_of_cell? w _ hw296_2)).trans hw296_2), ((HB.out.cell (World.block_lt_of_cell? w _ hw296_3)).trans hw296_3), ((HB.out.cell (World.block_lt_of_cell? w _ hw296_4)).trans hw296_4), ((HB.out.cell (World.block_lt_of_cell? w _ hw296_5)).trans hw296_5), ((HB.out.cell (World.block_lt_of_cell? w _ hw296_6)).trans hw296_6), ((HB.out.cell (World.block_lt_of_cell? w _ hw297_0)).trans hw297_0), ((HB.out.cell (World.block_lt_of_cell? w _ hw297_1)).trans hw297_1), ((HB.out.cell (World.block_lt_of_cell? w _ hw297_2)).trans hw297_2), ((HB.out.cell (World.block_lt_of_cell? w _ hw297_3)).trans hw297_3), ((HB.out.cell (World.block_lt_of_cell? w _ hw297_4)).trans hw297_4), ((HB.out.cell (World.block_lt_of_cell? w _ hw297_5)).trans hw297_5), ((HB.out.cell (World.block_lt_of_cell? w _ hw297_6)).trans hw297_6)⟩ (fun hHeld => ?_); refine with_tabW spec_l05On.tab1 spec_l05On.bits1 (fun HT_ HW_ => ?_)
        generalize w22.drew = w23 at BK295 HB HR296_2 HR297_2 hx296_0 hx296_1 hx296_2 hx296_3 hx296_4 hx296_5 hx296_6 hx297_0 hx297_1 hx297_2 hx297_3 hx297_4 hx297_5 hx297_6 hHeld ⊢
        refine pure_ (i := 0) (N := some 12) (v := ?_) (a' := ?_) #[true, false, false, false, false, false, false, false, false, false, false, false, false, false, false, false, false, false, false] rfl rfl (any_of HT_.out (by kernel_rfl)) (fun _ _ _ h => h) (Or.inl ⟨by rfl, ?_⟩) ?_ ?_
        rotate_left
        · intro w'
          go_simp
          with_reducible rfl
        rotate_left
        · simp only [Act.put, List.setIfInBounds_toArray, List.set_cons_zero, List.set_cons_succ, i64_w, i32_w]
          rfl
        refine pure_ (i := 1) (N := some 13) (v := ?_) (a' := ?_) #[true, true, false, false, false, false, false, false, false, false, false, false, false, false, false, false, false, false, false] rfl rfl (any_of HT_.out (by kernel_rfl)) (fun _ _ _ h => h) (Or.inl ⟨by rfl, ?_⟩) ?_ ?_
        rotate_left
        · intro w'
          go_simp
          with_reducible rfl
        rotate_left
        · simp only [Act.put, List.setIfInBounds_toArray, List.set_cons_zero, List.set_cons_succ, i64_w, i32_w]
          rfl
        refine pure_ (i := 2) (N := some 14) (v := ?_) (a' := ?_) #[true, true, true, false, false, false, false, false, false, false, false, false, false, false, false, false, false, false, false] rfl rfl (any_of HT_.out (by kernel_rfl)) (fun _ _ _ h => h) (Or.inl ⟨by rfl, ?_⟩) ?_ ?_
        rotate_left
        · intro w'
          go_simp
          with_reducible rfl
        rotate_left
        · simp only [Act.put, List.setIfInBounds_toArray, List.set_cons_zero, List.set_cons_succ, i64_w, i32_w]
          rfl
        refine pure_ (i := 3) (N := some 15) (v := ?_) (a' := ?_) #[true, true, true, true, false, false, false, false, false, false, false, false, false, false, false, false, false, false, false] rfl rfl (any_of HT_.out (by kernel_rfl)) (fun _ _ _ h => h) (Or.inl ⟨by rfl, ?_⟩) ?_ ?_
        rotate_left
        · intro w'
          go_simp
          with_reducible rfl
        rotate_left
        · simp only [Act.put, List.setIfInBounds_toArray, List.set_cons_zero, List.set_cons_succ, i64_w, i32_w]
          rfl
        refine pure_ (i := 4) (N := some 16) (v := ?_) (a' := ?_) #[true, true, true, true, true, false, false, false, false, false, false, false, false, false, false, false, false, false, false] rfl rfl (any_of HT_.out (by kernel_rfl)) (fun _ _ _ h => h) (Or.inl ⟨by rfl, ?_⟩) ?_ ?_
        rotate_left
        · intro w'
          go_simp
          with_reducible rfl
        rotate_left
        · simp only [Act.put, List.setIfInBounds_toArray, List.set_cons_zero, List.set_cons_succ, i64_w, i32_w]
          rfl
        refine pure_ (i := 6) (N := some 18) (v := ?_) (a' := ?_) #[true, true, true, true, true, false, true, false, false, false, false, false, false, false, false, false, false, false, false] rfl rfl (any_of HT_.out (by kernel_rfl)) (fun _ _ _ h => h) (Or.inl ⟨by rfl, ?_⟩) ?_ ?_
        rotate_left
        · intro w'
          go_simp
          with_reducible rfl
        rotate_left
        · simp only [Act.put, List.setIfInBounds_toArray, List.set_cons_zero, List.set_cons_succ, i64_w, i32_w]
          rfl
        refine pure_ (i := 8) (N := some 20) (v := ?_) (a' := ?_) #[true, true, true, true, true, false, true, false, true, false, false, false, false, false, false, false, false, false, false] rfl rfl (any_of HT_.out (by kernel_rfl)) (fun _ _ _ h => h) (Or.inl ⟨by rfl, ?_⟩) ?_ ?_
        rotate_left
        · intro w'
          go_simp
          with_reducible rfl
        rotate_left
        · simp only [Act.put, List.setIfInBounds_toArray, List.set_cons_zero, List.set_cons_succ, i64_w, i32_w]
          rfl
        refine pure_ (i := 9) (N := some 21) (v := ?_) (a' := ?_) #[true, true, true, true, true, false, true, false, true, true, false, false, false, false, false, false, false, false, false] rfl rfl (any_of HT_.out (by kernel_rfl)) (fun _ _ _ h => h) (Or.inl ⟨by rfl, ?_⟩) ?_ ?_
        rotate_left
        · intro w'
          go_simp
          with_reducible rfl
        rotate_left
        · simp only [Act.put, List.setIfInBounds_toArray, List.set_cons_zero, List.set_cons_succ, i64_w, i32_w]
          rfl
        refine pure_ (i := 10) (N := some 22) (v := ?_) (a' := ?_) #[true, true, true, true, true, false, true, false, true, true, true, false, false, false, false, false, false, false, false] rfl rfl (any_of HT_.out (by kernel_rfl)) (fun _ _ _ h => h) (Or.inl ⟨by rfl, ?_⟩) ?_ ?_
        rotate_left
        · intro w'
          go_simp
          with_reducible rfl
        rotate_left
        · simp only [Act.put, List.setIfInBounds_toArray, List.set_cons_zero, List.set_cons_succ, i64_w, i32_w]
          rfl
        refine pure_ (i := 11) (N := some 23) (v := ?_) (a' := ?_) #[true, true, true, true, true, false, true, false, true, true, true, true, false, false, false, false, false, false, false] rfl rfl (any_of HT_.out (by kernel_rfl)) (fun _ _ _ h => h) (Or.inl ⟨by rfl, ?_⟩) ?_ ?_
        rotate_left
        · intro w'
          go_simp
          with_reducible rfl
        rotate_left
        · simp only [Act.put, List.setIfInBounds_toArray, List.set_cons_zero, List.set_cons_succ, i64_w, i32_w]
          rfl
        refine pure_ (i := 12) (N := some 24) (v := ?_) (a' := ?_) #[true, true, true, true, true, false, true, false, true, true, true, true, true, false, false, false, false, false, false] rfl rfl (any_of HT_.out (by kernel_rfl)) (fun _ _ _ h => h) (Or.inl ⟨by rfl, ?_⟩) ?_ ?_
        rotate_left
        · intro w'
          go_simp
          with_reducible rfl
        rotate_left
        · simp only [Act.put, List.setIfInBounds_toArray, List.set_cons_zero, List.set_cons_succ, i64_w, i32_w]
          rfl
        refine pure_ (i := 13) (N := some 25) (v := ?_) (a' := ?_) #[true, true, true, true, true, false, true, false, true, true, true, true, true, true, false, false, false, false, false] rfl rfl (any_of HT_.out (by kernel_rfl)) (fun _ _ _ h => h) (Or.inl ⟨by rfl, ?_⟩) ?_ ?_
        rotate_left
        · intro w'
          go_simp
          with_reducible rfl
        rotate_left
        · simp only [Act.put, List.setIfInBounds_toArray, List.set_cons_zero, List.set_cons_succ, i64_w, i32_w]
          rfl
        refine take_ (i := 5) (N := some 17) (v := ?_) (a' := ?_) #[true, true, true, true, true, true, true, false, true, true, true, true, true, true, false, false, false, false, false] rfl rfl (take_ofW HT_.out HW_.out (by kernel_rfl)) (fun _ _ _ h => h) (Or.inl ⟨by rfl, ?_⟩) hHeld ?_ ?_
        rotate_left
        · rintro w' ⟨s0, s1, s2, s3, s4, s5, s6, s7, s8, s9, s10, s11, s12, s13⟩
          go_simp
          with_reducible rfl
        rotate_left
        · simp only [Act.put, List.setIfInBounds_toArray, List.set_cons_zero, List.set_cons_succ, i64_w, i32_w]
          rfl
        refine pure_ (i := 7) (N := some 19) (v := ?_) (a' := ?_) #[true, true, true, true, true, true, true, true, true, true, true, true, true, true, false, false, false, false, false] rfl rfl (any_of HT_.out (by kernel_rfl)) (fun _ _ _ h => h) (Or.inl ⟨by rfl, ?_⟩) ?_ ?_
        rotate_left
        · intro w'
          go_simp
          with_reducible rfl
        rotate_left
        · simp only [Act.put, List.setIfInBounds_toArray, List.set_cons_zero, List.set_cons_succ, i64_w, i32_w]
          rfl
        refine take_ (i := 14) (N := some 26) (v := ?_) (a' := ?_) #[true, true, true, true, true, true, true, true, true, true, true, true, true, true, true, false, false, false, false] rfl rfl (take_ofW HT_.out HW_.out (by kernel_rfl)) (fun _ _ _ h => h) (Or.inl ⟨by rfl, ?_⟩) hHeld ?_ ?_
        rotate_left
        · rintro w' ⟨s0, s1, s2, s3, s4, s5, s6, s7, s8, s9, s10, s11, s12, s13⟩
          go_simp
          with_reducible rfl
        rotate_left
        · simp only [Act.put, List.setIfInBounds_toArray, List.set_cons_zero, List.set_cons_succ, i64_w, i32_w]
          rfl
        refine pure_ (i := 15) (N := some 27) (v := ?_) (a' := ?_) #[true, true, true, true, true, true, true, true, true, true, true, true, true, true, true, true, false, false, false] rfl rfl (any_of HT_.out (by kernel_rfl)) (fun _ _ _ h => h) (Or.inl ⟨by rfl, ?_⟩) ?_ ?_
        rotate_left
        · intro w'
          go_simp
          with_reducible rfl
        rotate_left
        · simp only [Act.put, List.setIfInBounds_toArray, List.set_cons_zero, List.set_cons_succ, i64_w, i32_w]
          rfl
        refine pure_ (i := 16) (N := some 28) (v := ?_) (a' := ?_) #[true, true, true, true, true, true, true, true, true, true, true, true, true, true, true, true, true, false, false] rfl rfl (any_of HT_.out (by kernel_rfl)) (fun _ _ _ h => h) (Or.inl ⟨by rfl, ?_⟩) ?_ ?_
        rotate_left
        · intro w'
          go_simp
          with_reducible rfl
        rotate_left
        · simp only [Act.put, List.setIfInBounds_toArray, List.set_cons_zero, List.set_cons_succ, i64_w, i32_w]
          rfl
        refine one_ (i := 17) (N := some 11) #[true, true, true, true, true, true, true, true, true, true, true, true, true, true, true, true, true, true, false] rfl rfl (one_of HT_.out (by kernel_rfl)) (by decide) (fun K hK => ?_)
        refine box_step ?hg (N := 11) ?hd (cs := #[.int .i64 0, .int .i64 0, .slice none 0 0, .int .i64 0, .int .i64 0, .int .i64 0, .int .i64 0]) (t := 33) ?hr ?_; (case hd => rfl); (case hg => rfl); (case hr => first | (go_simp; done) | (go_simp; rfl))
        intro gb298 hg w24 hbox hb
        have n0_ := trivial
        have n1_ := Aside0.mk (blk_below (g := gb295) (o := .cells #[.int .i64 0, .int .i64 0, .slice none 0 0, .int .i64 0, .int .i64 0, .int .i64 0, .int .i64 0] 33 (0, 0)) (by (with_reducible repeat (first | refine blk_drewN ?_ _ | refine blk_drew ?_ | refine blk_alloc ?_ _)); exact BK295.out) hb)
        have n2_ := Aside0.mk (below_step (by repeat (first | (with_reducible first | exact HB.out | apply below_alloc | apply pw_below_drewN | apply below_drew1 | refine below_set ?_ GE295.out) | exact HB.out)) hb)
        have n3_ := Aside0.mk (hbox)
        have n4_ := Aside0.mk ((by rw [hg]; exact (below_size (by repeat (first | (with_reducible first | exact HB.out | apply below_alloc | apply pw_below_drewN | apply below_drew1 | refine below_set ?_ GE295.out) | exact HB.out))) : w.heap.size ≤ gb298))
        have n5_ := Aside0.mk ((by rw [hg]; exact (below_size (by repeat (first | (with_reducible first | exact HB.out | apply below_alloc | apply pw_below_drewN | apply below_drew1 | refine below_set ?_ GE295.out) | exact HB.out))) : w.heap.size ≤ gb298))
        have n6_ := Aside0.mk ((by rw [hg]; exact Nat.ne_of_lt (blk_lt (g := gb295) (o := .cells #[.int .i64 0, .int .i64 0, .slice none 0 0, .int .i64 0, .int .i64 0, .int .i64 0, .int .i64 0] 33 (0, 0)) (by (with_reducible repeat (first | refine blk_drewN ?_ _ | refine blk_drew ?_ | refine blk_alloc ?_ _)); exact BK295.out)) : gb295 ≠ gb298))
        have n7_ := Aside0.mk ((by rw [hg]; exact Nat.ne_of_gt (blk_lt (g := gb295) (o := .cells #[.int .i64 0, .int .i64 0, .slice none 0 0, .int .i64 0, .int .i64 0, .int .i64 0, .int .i64 0] 33 (0, 0)) (by (with_reducible repeat (first | refine blk_drewN ?_ _ | refine blk_drew ?_ | refine blk_alloc ?_ _)); exact BK295.out)) : gb298 ≠ gb295))
        clear HO3
        clear BK295
        clear HB
        have HO3 := n0_
        have BK295 := n1_
        have HB := n2_
        have BK298 := n3_
        have GW298 := n4_
        have GE298 := n5_
        have NB295_298 := n6_
        have NB298_295 := n7_
        clear n0_ n1_ n2_ n3_ n4_ n5_ n6_ n7_
        clear hb hbox hg
        refine hK.out _ _ ⟨((HB.out.cell (World.block_lt_of_cell? w _ hw296_0)).trans hw296_0), ((HB.out.cell (World.block_lt_of_cell? w _ hw296_1)).trans hw296_1), ((HB.out.cell (World.block_lt_of_cell? w _ hw296_2)).trans hw296_2), ((HB.out.cell (World.block_lt_of_cell? w _ hw296_3)).trans hw296_3), ((HB.out.cell (World.block_lt_of_cell? w _ hw296_4)).trans hw296_4), ((HB.out.cell (World.block_lt_of_cell? w _ hw296_5)).trans hw296_5), ((HB.out.cell (World.block_lt_of_cell? w _ hw296_6)).trans hw296_6), ((HB.out.cell (World.block_lt_of_cell? w _ hw297_0)).trans hw297_0), ((HB.out.cell (World.block_lt_of_cell? w _ hw297_1)).trans hw297_1), ((HB.out.cell (World.block_lt_of_cell? w _ hw297_2)).trans hw297_2), ((HB.out.cell (World.block_lt_of_cell? w _ hw297_3)).trans hw297_3), ((HB.out.cell (World.block_lt_of_cell? w _ hw297_4)).trans hw297_4), ((HB.out.cell (World.block_lt_of_cell? w _ hw297_5)).trans hw297_5), ((HB.out.cell (World.block_lt_of_cell? w _ hw297_6)).trans hw297_6)⟩ (fun hHeld => ?_)
        clear hK K
        refine norm_ (a' := ?_) ?_ ?_
        rotate_left
        · show Act.put _ (some 11) _ = _
          simp only [Act.put, List.setIfInBounds_toArray, List.set_cons_zero, List.set_cons_succ, i64_w, i32_w]
          rfl
        refine one_ (i := 18) (N := none) #[true, true, true, true, true, true, true, true, true, true, true, true, true, true, true, true, true, true, true] rfl rfl (one_of HT_.out (by kernel_rfl)) (by decide) (fun K hK => ?_)
        have hs25 : w24.cell? ⟨gb298, 0, none⟩ = some (.int .i64 0) := (blk_cell BK298.out 0).trans rfl
        have hfs25 := blk_frozen BK298.out 0
        have hns25_0 := NB295_298.out
        have hms25_0 := NB298_295.out
        have hs26 : w24.cell? ⟨gb298, 1, none⟩ = some (.int .i64 0) := (blk_cell BK298.out 1).trans rfl
        have hfs26 := blk_frozen BK298.out 1
        have hns26_0 := NB295_298.out
        have hms26_0 := NB298_295.out
        have hs27 : w24.cell? ⟨gb298, 2, none⟩ = some (.slice none 0 0) := (blk_cell BK298.out 2).trans rfl
        have hfs27 := blk_frozen BK298.out 2
        have hns27_0 := NB295_298.out
        have hms27_0 := NB298_295.out
        have hs28 : w24.cell? ⟨gb298, 3, none⟩ = some (.int .i64 0) := (blk_cell BK298.out 3).trans rfl
        have hfs28 := blk_frozen BK298.out 3
        have hns28_0 := NB295_298.out
        have hms28_0 := NB298_295.out
        have hs29 : w24.cell? ⟨gb298, 4, none⟩ = some (.int .i64 0) := (blk_cell BK298.out 4).trans rfl
        have hfs29 := blk_frozen BK298.out 4
        have hns29_0 := NB295_298.out
        have hms29_0 := NB298_295.out
        have hs30 : w24.cell? ⟨gb298, 5, none⟩ = some (.int .i64 0) := (blk_cell BK298.out 5).trans rfl
        have hfs30 := blk_frozen BK298.out 5
        have hns30_0 := NB295_298.out
        have hms30_0 := NB298_295.out
        have hs31 : w24.cell? ⟨gb298, 6, none⟩ = some (.int .i64 0) := (blk_cell BK298.out 6).trans rfl
        have hfs31 := blk_frozen BK298.out 6
        have hns31_0 := NB295_298.out
        have hms31_0 := NB298_295.out
        refine skip_ (w1 := ?_) (by rfl) rfl ?_ ?_
        rotate_left
        · go_simp
          rfl
        have fb_ : ad296.block ≠ gb298 := Nat.ne_of_lt (Nat.lt_of_lt_of_le (by have := World.block_lt_of_cell? _ _ hw296_0; first | rwa [add_block] at this | exact this) GW298.out)
        refine hK.out _ _ ⟨((cell_far (p := ⟨gb298, _, none⟩) (by first | exact fb_ | (rw [add_block]; exact fb_) | (show (Addr.add _ _).block ≠ _; rw [add_block]; exact fb_) | (dsimp only; exact fb_)) _).trans (((cell_far (p := ⟨gb298, _, none⟩) (by first | exact fb_ | (rw [add_block]; exact fb_) | (show (Addr.add _ _).block ≠ _; rw [add_block]; exact fb_) | (dsimp only; exact fb_)) _).trans (((cell_far (p := ⟨gb298, _, none⟩) (by first | exact fb_ | (rw [add_block]; exact fb_) | (show (Addr.add _ _).block ≠ _; rw [add_block]; exact fb_) | (dsimp only; exact fb_)) _).trans (((cell_far (p := ⟨gb298, _, none⟩) (by first | exact fb_ | (rw [add_block]; exact fb_) | (show (Addr.add _ _).block ≠ _; rw [add_block]; exact fb_) | (dsimp only; exact fb_)) _).trans (((cell_far (p := ⟨gb298, _, none⟩) (by first | exact fb_ | (rw [add_block]; exact fb_) | (show (Addr.add _ _).block ≠ _; rw [add_block]; exact fb_) | (dsimp only; exact fb_)) _).trans (((cell_far (p := ⟨gb298, _, none⟩) (by first | exact fb_ | (rw [add_block]; exact fb_) | (show (Addr.add _ _).block ≠ _; rw [add_block]; exact fb_) | (dsimp only; exact fb_)) _).trans (((cell_far (p := ⟨gb298, _, none⟩) (by first | exact fb_ | (rw [add_block]; exact fb_) | (show (Addr.add _ _).block ≠ _; rw [add_block]; exact fb_) | (dsimp only; exact fb_)) _).trans (hHeld.1)))))))))))))), ((cell_far (p := ⟨gb298, _, none⟩) (by first | exact fb_ | (rw [add_block]; exact fb_) | (show (Addr.add _ _).block ≠ _; rw [add_block]; exact fb_) | (dsimp only; exact fb_)) _).trans (((cell_far (p := ⟨gb298, _, none⟩) (by first | exact fb_ | (rw [add_block]; exact fb_) | (show (Addr.add _ _).block ≠ _; rw [add_block]; exact fb_) | (dsimp only; exact fb_)) _).trans (((cell_far (p := ⟨gb298, _, none⟩) (by first | exact fb_ | (rw [add_block]; exact fb_) | (show (Addr.add _ _).block ≠ _; rw [add_block]; exact fb_) | (dsimp only; exact fb_)) _).trans (((cell_far (p := ⟨gb298, _, none⟩) (by first | exact fb_ | (rw [add_block]; exact fb_) | (show (Addr.add _ _).block ≠ _; rw [add_block]; exact fb_) | (dsimp only; exact fb_)) _).trans (((cell_far (p := ⟨gb298, _, none⟩) (by first | exact fb_ | (rw [add_block]; exact fb_) | (show (Addr.add _ _).block ≠ _; rw [add_block]; exact fb_) | (dsimp only; exact fb_)) _).trans (((cell_far (p := ⟨gb298, _, none⟩) (by first | exact fb_ | (rw [add_block]; exact fb_) | (show (Addr.add _ _).block ≠ _; rw [add_block]; exact fb_) | (dsimp only; exact fb_)) _).trans (((cell_far (p := ⟨gb298, _, none⟩) (by first | exact fb_ | (rw [add_block]; exact fb_) | (show (Addr.add _ _).block ≠ _; rw [add_block]; exact fb_) | (dsimp only; exact fb_)) _).trans (hHeld.2.1)))))))))))))), ((cell_far (p := ⟨gb298, _, none⟩) (by first | exact fb_ | (rw [add_block]; exact fb_) | (show (Addr.add _ _).block ≠ _; rw [add_block]; exact fb_) | (dsimp only; exact fb_)) _).trans (((cell_far (p := ⟨gb298, _, none⟩) (by first | exact fb_ | (rw [add_block]; exact fb_) | (show (Addr.add _ _).block ≠ _; rw [add_block]; exact fb_) | (dsimp only; exact fb_)) _).trans (((cell_far (p := ⟨gb298, _, none⟩) (by first | exact fb_ | (rw [add_block]; exact fb_) | (show (Addr.add _ _).block ≠ _; rw [add_block]; exact fb_) | (dsimp only; exact fb_)) _).trans (((cell_far (p := ⟨gb298, _, none⟩) (by first | exact fb_ | (rw [add_block]; exact fb_) | (show (Addr.add _ _).block ≠ _; rw [add_block]; exact fb_) | (dsimp only; exact fb_)) _).trans (((cell_far (p := ⟨gb298, _, none⟩) (by first | exact fb_ | (rw [add_block]; exact fb_) | (show (Addr.add _ _).block ≠ _; rw [add_block]; exact fb_) | (dsimp only; exact fb_)) _).trans (((cell_far (p := ⟨gb298, _, none⟩) (by first | exact fb_ | (rw [add_block]; exact fb_) | (show (Addr.add _ _).block ≠ _; rw [add_block]; exact fb_) | (dsimp only; exact fb_)) _).trans (((cell_far (p := ⟨gb298, _, none⟩) (by first | exact fb_ | (rw [add_block]; exact fb_) | (show (Addr.add _ _).block ≠ _; rw [add_block]; exact fb_) | (dsimp only; exact fb_)) _).trans (hHeld.2.2.1)))))))))))))), ((cell_far (p := ⟨gb298, _, none⟩) (by first | exact fb_ | (rw [add_block]; exact fb_) | (show (Addr.add _ _).block ≠ _; rw [add_block]; exact fb_) | (dsimp only; exact fb_)) _).trans (((cell_far (p := ⟨gb298, _, none⟩) (by first | exact fb_ | (rw [add_block]; exact fb_) | (show (Addr.add _ _).block ≠ _; rw [add_block]; exact fb_) | (dsimp only; exact fb_)) _).trans (((cell_far (p := ⟨gb298, _, none⟩) (by first | exact fb_ | (rw [add_block]; exact fb_) | (show (Addr.add _ _).block ≠ _; rw [add_block]; exact fb_) | (dsimp only; exact fb_)) _).trans (((cell_far (p := ⟨gb298, _, none⟩) (by first | exact fb_ | (rw [add_block]; exact fb_) | (show (Addr.add _ _).block ≠ _; rw [add_block]; exact fb_) | (dsimp only; exact fb_)) _).trans (((cell_far (p := ⟨gb298, _, none⟩) (by first | exact fb_ | (rw [add_block]; exact fb_) | (show (Addr.add _ _).block ≠ _; rw [add_block]; exact fb_) | (dsimp only; exact fb_)) _).trans (((cell_far (p := ⟨gb298, _, none⟩) (by first | exact fb_ | (rw [add_block]; exact fb_) | (show (Addr.add _ _).block ≠ _; rw [add_block]; exact fb_) | (dsimp only; exact fb_)) _).trans (((cell_far (p := ⟨gb298, _, none⟩) (by first | exact fb_ | (rw [add_block]; exact fb_) | (show (Addr.add _ _).block ≠ _; rw [add_block]; exact fb_) | (dsimp only; exact fb_)) _).trans (hHeld.2.2.2.1)))))))))))))), ((cell_far (p := ⟨gb298, _, none⟩) (by first | exact fb_ | (rw [add_block]; exact fb_) | (show (Addr.add _ _).block ≠ _; rw [add_block]; exact fb_) | (dsimp only; exact fb_)) _).trans (((cell_far (p := ⟨gb298, _, none⟩) (by first | exact fb_ | (rw [add_block]; exact fb_) | (show (Addr.add _ _).block ≠ _; rw [add_block]; exact fb_) | (dsimp only; exact fb_)) _).trans (((cell_far (p := ⟨gb298, _, none⟩) (by first | exact fb_ | (rw [add_block]; exact fb_) | (show (Addr.add _ _).block ≠ _; rw [add_block]; exact fb_) | (dsimp only; exact fb_)) _).trans (((cell_far (p := ⟨gb298, _, none⟩) (by first | exact fb_ | (rw [add_block]; exact fb_) | (show (Addr.add _ _).block ≠ _; rw [add_block]; exact fb_) | (dsimp only; exact fb_)) _).trans (((cell_far (p := ⟨gb298, _, none⟩) (by first | exact fb_ | (rw [add_block]; exact fb_) | (show (Addr.add _ _).block ≠ _; rw [add_block]; exact fb_) | (dsimp only; exact fb_)) _).trans (((cell_far (p := ⟨gb298, _, none⟩) (by first | exact fb_ | (rw [add_block]; exact fb_) | (show (Addr.add _ _).block ≠ _; rw [add_block]; exact fb_) | (dsimp only; exact fb_)) _).trans (((cell_far (p := ⟨gb298, _, none⟩) (by first | exact fb_ | (rw [add_block]; exact fb_) | (show (Addr.add _ _).block ≠ _; rw [add_block]; exact fb_) | (dsimp only; exact fb_)) _).trans (hHeld.2.2.2.2.1)))))))))))))), ((cell_far (p := ⟨gb298, _, none⟩) (by first | exact fb_ | (rw [add_block]; exact fb_) | (show (Addr.add _ _).block ≠ _; rw [add_block]; exact fb_) | (dsimp only; exact fb_)) _).trans (((cell_far (p := ⟨gb298, _, none⟩) (by first | exact fb_ | (rw [add_block]; exact fb_) | (show (Addr.add _ _).block ≠ _; rw [add_block]; exact fb_) | (dsimp only; exact fb_)) _).trans (((cell_far (p := ⟨gb298, _, none⟩) (by first | exact fb_ | (rw [add_block]; exact fb_) | (show (Addr.add _ _).block ≠ _; rw [add_block]; exact fb_) | (dsimp only; exact fb_)) _).trans (((cell_far (p := ⟨gb298, _, none⟩) (by first | exact fb_ | (rw [add_block]; exact fb_) | (show (Addr.add _ _).block ≠ _; rw [add_block]; exact fb_) | (dsimp only; exact fb_)) _).trans (((cell_far (p := ⟨gb298, _, none⟩) (by first | exact fb_ | (rw [add_block]; exact fb_) | (show (Addr.add _ _).block ≠ _; rw [add_block]; exact fb_) | (dsimp only; exact fb_)) _).trans (((cell_far (p := ⟨gb298, _, none⟩) (by first | exact fb_ | (rw [add_block]; exact fb_) | (show (Addr.add _ _).block ≠ _; rw [add_block]; exact fb_) | (dsimp only; exact fb_)) _).trans (((cell_far (p := ⟨gb298, _, none⟩) (by first | exact fb_ | (rw [add_block]; exact fb_) | (show (Addr.add _ _).block ≠ _; rw [add_block]; exact fb_) | (dsimp only; exact fb_)) _).trans (hHeld.2.2.2.2.2.1)))))))))))))), ((cell_far (p := ⟨gb298, _, none⟩) (by first | exact fb_ | (rw [add_block]; exact fb_) | (show (Addr.add _ _).block ≠ _; rw [add_block]; exact fb_) | (dsimp only; exact fb_)) _).trans (((cell_far (p := ⟨gb298, _, none⟩) (by first | exact fb_ | (rw [add_block]; exact fb_) | (show (Addr.add _ _).block ≠ _; rw [add_block]; exact fb_) | (dsimp only; exact fb_)) _).trans (((cell_far (p := ⟨gb298, _, none⟩) (by first | exact fb_ | (rw [add_block]; exact fb_) | (show (Addr.add _ _).block ≠ _; rw [add_block]; exact fb_) | (dsimp only; exact fb_)) _).trans (((cell_far (p := ⟨gb298, _, none⟩) (by first | exact fb_ | (rw [add_block]; exact fb_) | (show (Addr.add _ _).block ≠ _; rw [add_block]; exact fb_) | (dsimp only; exact fb_)) _).trans (((cell_far (p := ⟨gb298, _, none⟩) (by first | exact fb_ | (rw [add_block]; exact fb_) | (show (Addr.add _ _).block ≠ _; rw [add_block]; exact fb_) | (dsimp only; exact fb_)) _).trans (((cell_far (p := ⟨gb298, _, none⟩) (by first | exact fb_ | (rw [add_block]; exact fb_) | (show (Addr.add _ _).block ≠ _; rw [add_block]; exact fb_) | (dsimp only; exact fb_)) _).trans (((cell_far (p := ⟨gb298, _, none⟩) (by first | exact fb_ | (rw [add_block]; exact fb_) | (show (Addr.add _ _).block ≠ _; rw [add_block]; exact fb_) | (dsimp only; exact fb_)) _).trans (hHeld.2.2.2.2.2.2.1)))))))))))))), ((cell_far (p := ⟨gb298, _, none⟩) (by first | exact fb_ | (rw [add_block]; exact fb_) | (show (Addr.add _ _).block ≠ _; rw [add_block]; exact fb_) | (dsimp only; exact fb_)) _).trans (((cell_far (p := ⟨gb298, _, none⟩) (by first | exact fb_ | (rw [add_block]; exact fb_) | (show (Addr.add _ _).block ≠ _; rw [add_block]; exact fb_) | (dsimp only; exact fb_)) _).trans (((cell_far (p := ⟨gb298, _, none⟩) (by first | exact fb_ | (rw [add_block]; exact fb_) | (show (Addr.add _ _).block ≠ _; rw [add_block]; exact fb_) | (dsimp only; exact fb_)) _).trans (((cell_far (p := ⟨gb298, _, none⟩) (by first | exact fb_ | (rw [add_block]; exact fb_) | (show (Addr.add _ _).block ≠ _; rw [add_block]; exact fb_) | (dsimp only; exact fb_)) _).trans (((cell_far (p := ⟨gb298, _, none⟩) (by first | exact fb_ | (rw [add_block]; exact fb_) | (show (Addr.add _ _).block ≠ _; rw [add_block]; exact fb_) | (dsimp only; exact fb_)) _).trans (((cell_far (p := ⟨gb298, _, none⟩) (by first | exact fb_ | (rw [add_block]; exact fb_) | (show (Addr.add _ _).block ≠ _; rw [add_block]; exact fb_) | (dsimp only; exact fb_)) _).trans (((cell_far (p := ⟨gb298, _, none⟩) (by first | exact fb_ | (rw [add_block]; exact fb_) | (show (Addr.add _ _).block ≠ _; rw [add_block]; exact fb_) | (dsimp only; exact fb_)) _).trans (hHeld.2.2.2.2.2.2.2.1)))))))))))))), ((cell_far (p := ⟨gb298, _, none⟩) (by first | exact fb_ | (rw [add_block]; exact fb_) | (show (Addr.add _ _).block ≠ _; rw [add_block]; exact fb_) | (dsimp only; exact fb_)) _).trans (((cell_far (p := ⟨gb298, _, none⟩) (by first | exact fb_ | (rw [add_block]; exact fb_) | (show (Addr.add _ _).block ≠ _; rw [add_block]; exact fb_) | (dsimp only; exact fb_)) _).trans (((cell_far (p := ⟨gb298, _, none⟩) (by first | exact fb_ | (rw [add_block]; exact fb_) | (show (Addr.add _ _).block ≠ _; rw [add_block]; exact fb_) | (dsimp only; exact fb_)) _).trans (((cell_far (p := ⟨gb298, _, none⟩) (by first | exact fb_ | (rw [add_block]; exact fb_) | (show (Addr.add _ _).block ≠ _; rw [add_block]; exact fb_) | (dsimp only; exact fb_)) _).trans (((cell_far (p := ⟨gb298, _, none⟩) (by first | exact fb_ | (rw [add_block]; exact fb_) | (show (Addr.add _ _).block ≠ _; rw [add_block]; exact fb_) | (dsimp only; exact fb_)) _).trans (((cell_far (p := ⟨gb298, _, none⟩) (by first | exact fb_ | (rw [add_block]; exact fb_) | (show (Addr.add _ _).block ≠ _; rw [add_block]; exact fb_) | (dsimp only; exact fb_)) _).trans (((cell_far (p := ⟨gb298, _, none⟩) (by first | exact fb_ | (rw [add_block]; exact fb_) | (show (Addr.add _ _).block ≠ _; rw [add_block]; exact fb_) | (dsimp only; exact fb_)) _).trans (hHeld.2.2.2.2.2.2.2.2.1)))))))))))))), ((cell_far (p := ⟨gb298, _, none⟩) (by first | exact fb_ | (rw [add_block]; exact fb_) | (show (Addr.add _ _).block ≠ _; rw [add_block]; exact fb_) | (dsimp only; exact fb_)) _).trans (((cell_far (p := ⟨gb298, _, none⟩) (by first | exact fb_ | (rw [add_block]; exact fb_) | (show (Addr.add _ _).block ≠ _; rw [add_block]; exact fb_) | (dsimp only; exact fb_)) _).trans (((cell_far (p := ⟨gb298, _, none⟩) (by first | exact fb_ | (rw [add_block]; exact fb_) | (show (Addr.add _ _).block ≠ _; rw [add_block]; exact fb_) | (dsimp only; exact fb_)) _).trans (((cell_far (p := ⟨gb298, _, none⟩) (by first | exact fb_ | (rw [add_block]; exact fb_) | (show (Addr.add _ _).block ≠ _; rw [add_block]; exact fb_) | (dsimp only; exact fb_)) _).trans (((cell_far (p := ⟨gb298, _, none⟩) (by first | exact fb_ | (rw [add_block]; exact fb_) | (show (Addr.add _ _).block ≠ _; rw [add_block]; exact fb_) | (dsimp only; exact fb_)) _).trans (((cell_far (p := ⟨gb298, _, none⟩) (by first | exact fb_ | (rw [add_block]; exact fb_) | (show (Addr.add _ _).block ≠ _; rw [add_block]; exact fb_) | (dsimp only; exact fb_)) _).trans (((cell_far (p := ⟨gb298, _, none⟩) (by first | exact fb_ | (rw [add_block]; exact fb_) | (show (Addr.add _ _).block ≠ _; rw [add_block]; exact fb_) | (dsimp only; exact fb_)) _).trans (hHeld.2.2.2.2.2.2.2.2.2.1)))))))))))))), ((cell_far (p := ⟨gb298, _, none⟩) (by first | exact fb_ | (rw [add_block]; exact fb_) | (show (Addr.add _ _).block ≠ _; rw [add_block]; exact fb_) | (dsimp only; exact fb_)) _).trans (((cell_far (p := ⟨gb298, _, none⟩) (by first | exact fb_ | (rw [add_block]; exact fb_) | (show (Addr.add _ _).block ≠ _; rw [add_block]; exact fb_) | (dsimp only; exact fb_)) _).trans (((cell_far (p := ⟨gb298, _, none⟩) (by first | exact fb_ | (rw [add_block]; exact fb_) | (show (Addr.add _ _).block ≠ _; rw [add_block]; exact fb_) | (dsimp only; exact fb_)) _).trans (((cell_far (p := ⟨gb298, _, none⟩) (by first | exact fb_ | (rw [add_block]; exact fb_) | (show (Addr.add _ _).block ≠ _; rw [add_block]; exact fb_) | (dsimp only; exact fb_)) _).trans (((cell_far (p := ⟨gb298, _, none⟩) (by first | exact fb_ | (rw [add_block]; exact fb_) | (show (Addr.add _ _).block ≠ _; rw [add_block]; exact fb_) | (dsimp only; exact fb_)) _).trans (((cell_far (p := ⟨gb298, _, none⟩) (by first | exact fb_ | (rw [add_block]; exact fb_) | (show (Addr.add _ _).block ≠ _; rw [add_block]; exact fb_) | (dsimp only; exact fb_)) _).trans (((cell_far (p := ⟨gb298, _, none⟩) (by first | exact fb_ | (rw [add_block]; exact fb_) | (show (Addr.add _ _).block ≠ _; rw [add_block]; exact fb_) | (dsimp only; exact fb_)) _).trans (hHeld.2.2.2.2.2.2.2.2.2.2.1)))))))))))))), ((cell_far (p := ⟨gb298, _, none⟩) (by first | exact fb_ | (rw [add_block]; exact fb_) | (show (Addr.add _ _).block ≠ _; rw [add_block]; exact fb_) | (dsimp only; exact fb_)) _).trans (((cell_far (p := ⟨gb298, _, none⟩) (by first | exact fb_ | (rw [add_block]; exact fb_) | (show (Addr.add _ _).block ≠ _; rw [add_block]; exact fb_) | (dsimp only; exact fb_)) _).trans (((cell_far (p := ⟨gb298, _, none⟩) (by first | exact fb_ | (rw [add_block]; exact fb_) | (show (Addr.add _ _).block ≠ _; rw [add_block]; exact fb_) | (dsimp only; exact fb_)) _).trans (((cell_far (p := ⟨gb298, _, none⟩) (by first | exact fb_ | (rw [add_block]; exact fb_) | (show (Addr.add _ _).block ≠ _; rw [add_block]; exact fb_) | (dsimp only; exact fb_)) _).trans (((cell_far (p := ⟨gb298, _, none⟩) (by first | exact fb_ | (rw [add_block]; exact fb_) | (show (Addr.add _ _).block ≠ _; rw [add_block]; exact fb_) | (dsimp only; exact fb_)) _).trans (((cell_far (p := ⟨gb298, _, none⟩) (by first | exact fb_ | (rw [add_block]; exact fb_) | (show (Addr.add _ _).block ≠ _; rw [add_block]; exact fb_) | (dsimp only; exact fb_)) _).trans (((cell_far (p := ⟨gb298, _, none⟩) (by first | exact fb_ | (rw [add_block]; exact fb_) | (show (Addr.add _ _).block ≠ _; rw [add_block]; exact fb_) | (dsimp only; exact fb_)) _).trans (hHeld.2.2.2.2.2.2.2.2.2.2.2.1)))))))))))))), ((cell_far (p := ⟨gb298, _, none⟩) (by first | exact fb_ | (rw [add_block]; exact fb_) | (show (Addr.add _ _).block ≠ _; rw [add_block]; exact fb_) | (dsimp only; exact fb_)) _).trans (((cell_far (p := ⟨gb298, _, none⟩) (by first | exact fb_ | (rw [add_block]; exact fb_) | (show (Addr.add _ _).block ≠ _; rw [add_block]; exact fb_) | (dsimp only; exact fb_)) _).trans (((cell_far (p := ⟨gb298, _, none⟩) (by first | exact fb_ | (rw [add_block]; exact fb_) | (show (Addr.add _ _).block ≠ _; rw [add_block]; exact fb_) | (dsimp only; exact fb_)) _).trans (((cell_far (p := ⟨gb298, _, none⟩) (by first | exact fb_ | (rw [add_block]; exact fb_) | (show (Addr.add _ _).block ≠ _; rw [add_block]; exact fb_) | (dsimp only; exact fb_)) _).trans (((cell_far (p := ⟨gb298, _, none⟩) (by first | exact fb_ | (rw [add_block]; exact fb_) | (show (Addr.add _ _).block ≠ _; rw [add_block]; exact fb_) | (dsimp only; exact fb_)) _).trans (((cell_far (p := ⟨gb298, _, none⟩) (by first | exact fb_ | (rw [add_block]; exact fb_) | (show (Addr.add _ _).block ≠ _; rw [add_block]; exact fb_) | (dsimp only; exact fb_)) _).trans (((cell_far (p := ⟨gb298, _, none⟩) (by first | exact fb_ | (rw [add_block]; exact fb_) | (show (Addr.add _ _).block ≠ _; rw [add_block]; exact fb_) | (dsimp only; exact fb_)) _).trans (hHeld.2.2.2.2.2.2.2.2.2.2.2.2.1)))))))))))))), ((cell_far (p := ⟨gb298, _, none⟩) (by first | exact fb_ | (rw [add_block]; exact fb_) | (show (Addr.add _ _).block ≠ _; rw [add_block]; exact fb_) | (dsimp only; exact fb_)) _).trans (((cell_far (p := ⟨gb298, _, none⟩) (by first | exact fb_ | (rw [add_block]; exact fb_) | (show (Addr.add _ _).block ≠ _; rw [add_block]; exact fb_) | (dsimp only; exact fb_)) _).trans (((cell_far (p := ⟨gb298, _, none⟩) (by first | exact fb_ | (rw [add_block]; exact fb_) | (show (Addr.add _ _).block ≠ _; rw [add_block]; exact fb_) | (dsimp only; exact fb_)) _).trans (((cell_far (p := ⟨gb298, _, none⟩) (by first | exact fb_ | (rw [add_block]; exact fb_) | (show (Addr.add _ _).block ≠ _; rw [add_block]; exact fb_) | (dsimp only; exact fb_)) _).trans (((cell_far (p := ⟨gb298, _, none⟩) (by first | exact fb_ | (rw [add_block]; exact fb_) | (show (Addr.add _ _).block ≠ _; rw [add_block]; exact fb_) | (dsimp only; exact fb_)) _).trans (((cell_far (p := ⟨gb298, _, none⟩) (by first | exact fb_ | (rw [add_block]; exact fb_) | (show (Addr.add _ _).block ≠ _; rw [add_block]; exact fb_) | (dsimp only; exact fb_)) _).trans (((cell_far (p := ⟨gb298, _, none⟩) (by first | exact fb_ | (rw [add_block]; exact fb_) | (show (Addr.add _ _).block ≠ _; rw [add_block]; exact fb_) | (dsimp only; exact fb_)) _).trans (hHeld.2.2.2.2.2.2.2.2.2.2.2.2.2))))))))))))))⟩ (fun hHeld => ?_)
        clear hK K
        refine done_ (done_of HT_.out (by kernel_rfl)) ?_
        rename_i Q_ K_ a_ hh1_ hh2_
        clear hh1_ hh2_
        clear hw296_0 hw296_1 hw296_2 hw296_3 hw296_4 hw296_5 hw296_6 hw297_0 hw297_1 hw297_2 hw297_3 hw297_4 hw297_5 hw297_6 hx296_0 hx296_1 hx296_2 hx296_3 hx296_4 hx296_5 hx296_6 hx297_0 hx297_1 hx297_2 hx297_3 hx297_4 hx297_5 hx297_6 hs25 hfs25 hns25_0 hms25_0 hs26 hfs26 hns26_0 hms26_0 hs27 hfs27 hns27_0 hms27_0 hs28 hfs28 hns28_0 hms28_0 hs29 hfs29 hns29_0 hms29_0 hs30 hfs30 hns30_0 hms30_0 hs31 hfs31 hns31_0 hms31_0 p296 p297 q296 q297 HR296_2 HR297_2 HC296_2 HC297_2 e297 hHeld HT_ HW_
        obtain ⟨W_, hW_⟩ : ∃ W_ : World, W_ = (((((((w24.setCell ⟨gb298, 0, none⟩ (.int .i64 a1)).setCell ⟨gb298, 1, none⟩ (.int .i64 (wrap64 (((rd_T33 l0 a1).f1) + a2)))).setCell ⟨gb298, 2, none⟩ (.slice A3 l3.length c3)).setCell ⟨gb298, 3, none⟩ (.int .i64 0)).setCell ⟨gb298, 4, none⟩ (.int .i64 ((rd_T33 l0 a1).f1))).setCell ⟨gb298, 5, none⟩ (.int .i64 a1)).setCell ⟨gb298, 6, none⟩ (.int .i64 0)) := ⟨_, rfl⟩
        rw [← hW_]
        have n0_ : Aside0 (W_.heap[gb298]? = some (.cells #[.int .i64 a1, .int .i64 (wrap64 (((rd_T33 l0 a1).f1) + a2)), .slice A3 l3.length c3, .int .i64 0, .int .i64 ((rd_T33 l0 a1).f1), .int .i64 a1, .int .i64 0] 33 (0, 0))) := ⟨by rw [hW_]; exact (blk_put (blk_put (blk_put (blk_put (blk_put (blk_put (blk_put BK298.out 0 (.int .i64 a1) rfl) 1 (.int .i64 (wrap64 (((rd_T33 l0 a1).f1) + a2))) rfl) 2 (.slice A3 l3.length c3) rfl) 3 (.int .i64 0) rfl) 4 (.int .i64 ((rd_T33 l0 a1).f1)) rfl) 5 (.int .i64 a1) rfl) 6 (.int .i64 0) rfl)⟩
        have n1_ : Aside0 (W_.heap[gb295]? = some (.cells #[.int .i64 0, .int .i64 0, .slice none 0 0, .int .i64 0, .int .i64 0, .int .i64 0, .int .i64 0] 33 (0, 0))) := ⟨by rw [hW_]; (repeat (refine blk_far ?_ NB295_298.out _)); exact BK295.out⟩
        have n2_ : Aside0 (Below w.heap.size w W_) := ⟨by rw [hW_]; (repeat (refine below_set ?_ GE298.out)); exact HB.out⟩
        clear BK298 BK295 HB HO3 hW_
        have BK298 := n0_
        have BK295 := n1_
        have HB := n2_
        clear n0_ n1_ n2_
        have hcz20_0 : W_.cell? ⟨gb298, 0, none⟩ = some (.int .i64 a1) := (blk_cell BK298.out 0).trans rfl
        have hfz20_0 := blk_frozen BK298.out 0
        have hcz20_1 : W_.cell? ⟨gb298, 1, none⟩ = some (.int .i64 (wrap64 (((rd_T33 l0 a1).f1) + a2))) := (blk_cell BK298.out 1).trans rfl
        have hfz20_1 := blk_frozen BK298.out 1
        have hcz20_2 : W_.cell? ⟨gb298, 2, none⟩ = some (.slice A3 l3.length c3) := (blk_cell BK298.out 2).trans rfl
        have hfz20_2 := blk_frozen BK298.out 2
        have hcz20_3 : W_.cell? ⟨gb298, 3, none⟩ = some (.int .i64 0) := (blk_cell BK298.out 3).trans rfl
        have hfz20_3 := blk_frozen BK298.out 3
        have hcz20_4 : W_.cell? ⟨gb298, 4, none⟩ = some (.int .i64 ((rd_T33 l0 a1).f1)) := (blk_cell BK298.out 4).trans rfl
        have hfz20_4 := blk_frozen BK298.out 4
        have hcz20_5 : W_.cell? ⟨gb298, 5, none⟩ = some (.int .i64 a1) := (blk_cell BK298.out 5).trans rfl
        have hfz20_5 := blk_frozen BK298.out 5
        have hcz20_6 : W_.cell? ⟨gb298, 6, none⟩ = some (.int .i64 0) := (blk_cell BK298.out 6).trans rfl
        have hfz20_6 := blk_frozen BK298.out 6
        have hcz21_0 : W_.cell? ⟨gb295, 0, none⟩ = some (.int .i64 0) := (blk_cell BK295.out 0).trans rfl
        have hfz21_0 := blk_frozen BK295.out 0
        have hcz21_1 : W_.cell? ⟨gb295, 1, none⟩ = some (.int .i64 0) := (blk_cell BK295.out 1).trans rfl
        have hfz21_1 := blk_frozen BK295.out 1
        have hcz21_2 : W_.cell? ⟨gb295, 2, none⟩ = some (.slice none 0 0) := (blk_cell BK295.out 2).trans rfl
        have hfz21_2 := blk_frozen BK295.out 2
        have hcz21_3 : W_.cell? ⟨gb295, 3, none⟩ = some (.int .i64 0) := (blk_cell BK295.out 3).trans rfl
        have hfz21_3 := blk_frozen BK295.out 3
        have hcz21_4 : W_.cell? ⟨gb295, 4, none⟩ = some (.int .i64 0) := (blk_cell BK295.out 4).trans rfl
        have hfz21_4 := blk_frozen BK295.out 4
        have hcz21_5 : W_.cell? ⟨gb295, 5, none⟩ = some (.int .i64 0) := (blk_cell BK295.out 5).trans rfl
        have hfz21_5 := blk_frozen BK295.out 5
        have hcz21_6 : W_.cell? ⟨gb295, 6, none⟩ = some (.int .i64 0) := (blk_cell BK295.out 6).trans rfl
        have hfz21_6 := blk_frozen BK295.out 6
        have hnb19 := NB298_295.out
        have hnc19 := NB295_298.out
        go_wp2
        refine bodyPost_ret (results_cell_row rfl _ _ gb295 33 #[.int .i64 a1, .int .i64 (wrap64 (((rd_T33 l0 a1).f1) + a2)), .slice A3 l3.length c3, .int .i64 0, .int .i64 ((rd_T33 l0 a1).f1), .int .i64 a1, .int .i64 0] (0, 0) _ rfl (by exact (blk_put (blk_put (blk_put (blk_put (blk_put (blk_put (blk_put BK295.out 0 (.int .i64 a1) rfl) 1 (.int .i64 (wrap64 (((rd_T33 l0 a1).f1) + a2))) rfl) 2 (.slice A3 l3.length c3) rfl) 3 (.int .i64 0) rfl) 4 (.int .i64 ((rd_T33 l0 a1).f1)) rfl) 5 (.int .i64 a1) rfl) 6 (.int .i64 0) rfl)) Try.underlying33 rfl (by kernel_rfl)) rfl ?_
        exact ⟨by first | rfl | trivial, by first | rfl | trivial, (below_set (below_set (below_set (below_set (below_set (below_set (below_set HB.out GE295.out) GE295.out) GE295.out) GE295.out) GE295.out) GE295.out) GE295.out)⟩
    · rw [if_neg c7] at H
      exact absurd H (by simp)
  · rw [if_neg c6] at H
    exact absurd H (by simp)

/-! ### spec_l05Drawn: function 24 -/
mutual
def spec_l05Drawn.l0 : Nat → List (S33) → Int → Int → List Int → Int → Int → Option ((List (S33)) × Int × Int)
  | 0, _, _, _, _, _, _ => none
  | k + 1, x3, x4, x5, x1000, x1001, x1002 => (spec_l01Below.f x1000 x1001 x1002 9).bind fun bt308 => (if x5 < bt308.1 then ((spec_l01Once.f x1000 bt308.2.1 bt308.2.2 4).bind fun bt311 => (if bt311.1 = true then ((spec_l01Below.f x1000 bt311.2.1 bt311.2.2 (x3.length : Int)).bind fun bt314 => (spec_l05Drawn.j1 k x3 x4 x5 bt314.1 x1000 bt314.2.1 bt314.2.2)) else (spec_l05Drawn.j1 k x3 x4 x5 (wrap64 ((x3.length : Int) - 1)) x1000 bt311.2.1 bt311.2.2))) else (some (x3, bt308.2.1, bt308.2.2)))
def spec_l05Drawn.j1 : Nat → List (S33) → Int → Int → Int → List Int → Int → Int → Option ((List (S33)) × Int × Int)
  | 0, _, _, _, _, _, _, _ => none
  | k + 1, x3, x4, x5, x6, x1000, x1001, x1002 => (spec_l01Once.f x1000 x1001 x1002 4).bind fun bt317 => (if bt317.1 = true then ((spec_l03Cmds.f k x1000 bt317.2.1 bt317.2.2).bind fun bt320 => ((spec_l05On.f x3 x6 2 bt320.1 x4).bind fun bt325 => ((spec_PutBlock.f k x3 bt325.1 bt325.2.1 bt325.2.2.1 bt325.2.2.2.1 bt325.2.2.2.2.1 bt325.2.2.2.2.2.1 bt325.2.2.2.2.2.2).bind fun bt334 => (spec_l05Drawn.l0 k bt334.1 x4 (wrap64 (x5 + 1)) x1000 bt320.2.1 bt320.2.2)))) else ((spec_l03Cmds.f k x1000 bt317.2.1 bt317.2.2).bind fun bt338 => ((spec_l05On.f x3 x6 1 bt338.1 x4).bind fun bt343 => ((spec_PutBlock.f k x3 bt343.1 bt343.2.1 bt343.2.2.1 bt343.2.2.2.1 bt343.2.2.2.2.1 bt343.2.2.2.2.2.1 bt343.2.2.2.2.2.2).bind fun bt352 => (spec_l05Drawn.l0 k bt352.1 x4 (wrap64 (x5 + 1)) x1000 bt338.2.1 bt338.2.2)))))
end
def spec_l05Drawn.f (k : Nat) (s0_0 : List Int) (s0_1 : Int) (s0_2 : Int) : Option ((List (S33)) × Int × Int) := (spec_TreeNew.f).bind fun t299 => ((spec_l01PickInt.f s0_0 s0_1 s0_2 (([1, 4] : List Int))).bind fun bt305 => (spec_l05Drawn.l0 k t299 bt305.1 0 s0_0 bt305.2.1 bt305.2.2))
theorem spec_l05Drawn.mono_l : ∀ k, (∀ y0 y1 y2 y3 y4 y5, LeO (spec_l05Drawn.l0 k y0 y1 y2 y3 y4 y5) (spec_l05Drawn.l0 (k + 1) y0 y1 y2 y3 y4 y5)) ∧ (∀ y0 y1 y2 y3 y4 y5 y6, LeO (spec_l05Drawn.j1 k y0 y1 y2 y3 y4 y5 y6) (spec_l05Drawn.j1 (k + 1) y0 y1 y2 y3 y4 y5 y6))
  | 0 => ⟨fun _ _ _ _ _ _ r h => by simp [spec_l05Drawn.l0] at h, fun _ _ _ _ _ _ _ r h => by simp [spec_l05Drawn.j1] at h⟩
  | k + 1 => by
    obtain ⟨ih0, ih1⟩ := spec_l05Drawn.mono_l k
    refine ⟨?_, ?_⟩
    · intro y0 y1 y2 y3 y4 y5
      unfold spec_l05Drawn.l0
      repeat' first
      | (with_reducible exact ih0 _ _ _ _ _ _)
      | (with_reducible exact ih1 _ _ _ _ _ _ _)
      | (with_reducible exact spec_PutBlock.mono _ _ _ _ _ _ _ _ _)
      | (with_reducible exact spec_l03Cmds.mono _ _ _ _)
      | (with_reducible exact LeO.refl _)
      | (with_reducible exact LeO.none _)
      | (with_reducible refine LeO.ite ?_ ?_)
      | (with_reducible refine LeO.bind ?_ (fun _ => ?_))
      | exact ih0 _ _ _ _ _ _
      | exact ih1 _ _ _ _ _ _ _
      | exact spec_PutBlock.mono _ _ _ _ _ _ _ _ _
      | exact spec_l03Cmds.mono _ _ _ _
      | exact LeO.none _
      | refine LeO.ite ?_ ?_
      | refine LeO.bind ?_ (fun _ => ?_)
    · intro y0 y1 y2 y3 y4 y5 y6
      unfold spec_l05Drawn.j1
      repeat' first
      | (with_reducible exact ih0 _ _ _ _ _ _)
      | (with_reducible exact ih1 _ _ _ _ _ _ _)
      | (with_reducible exact spec_PutBlock.mono _ _ _ _ _ _ _ _ _)
      | (with_reducible exact spec_l03Cmds.mono _ _ _ _)
      | (with_reducible exact LeO.refl _)
      | (with_reducible exact LeO.none _)
      | (with_reducible refine LeO.ite ?_ ?_)
      | (with_reducible refine LeO.bind ?_ (fun _ => ?_))
      | exact ih0 _ _ _ _ _ _
      | exact ih1 _ _ _ _ _ _ _
      | exact spec_PutBlock.mono _ _ _ _ _ _ _ _ _
      | exact spec_l03Cmds.mono _ _ _ _
      | exact LeO.none _
      | refine LeO.ite ?_ ?_
      | refine LeO.bind ?_ (fun _ => ?_)
theorem spec_l05Drawn.mono : ∀ a0 a1 a2 k, LeO (spec_l05Drawn.f k a0 a1 a2) (spec_l05Drawn.f (k + 1) a0 a1 a2) := by
  intro a0 a1 a2 k
  obtain ⟨ih0, ih1⟩ := spec_l05Drawn.mono_l k
  unfold spec_l05Drawn.f
  repeat' first
      | (with_reducible exact ih0 _ _ _ _ _ _)
      | (with_reducible exact ih1 _ _ _ _ _ _ _)
      | (with_reducible exact spec_PutBlock.mono _ _ _ _ _ _ _ _ _)
      | (with_reducible exact spec_l03Cmds.mono _ _ _ _)
      | (with_reducible exact LeO.refl _)
      | (with_reducible exact LeO.none _)
      | (with_reducible refine LeO.ite ?_ ?_)
      | (with_reducible refine LeO.bind ?_ (fun _ => ?_))
      | exact ih0 _ _ _ _ _ _
      | exact ih1 _ _ _ _ _ _ _
      | exact spec_PutBlock.mono _ _ _ _ _ _ _ _ _
      | exact spec_l03Cmds.mono _ _ _ _
      | exact LeO.none _
      | refine LeO.ite ?_ ?_
      | refine LeO.bind ?_ (fun _ => ?_)
set_option maxHeartbeats 8000000 in
set_option maxRecDepth 100000 in
theorem spec_l05Drawn.calls (k : Nat) (g : Nat) (s0_0 : List Int) (s0_1 : Int) (s0_2 : Int) (r1 : List (S33)) (r2 : Int) (r3 : Int) (w0 w : World) (hI : IsS61 w0 w g s0_0 s0_1 s0_2) (hB : Below w0.heap.size w0 w) (h : spec_l05Drawn.f k s0_0 s0_1 s0_2 = some (r1, r2, r3)) :
    Calls Try.prog 24 #[.pointer (some ⟨g, 0, none⟩)] w fun e w' => ∃ v0_ : Value, e = .returned (v0_) ∧ Kd.N k33 33 w' w.heap.size (fun k_ => (w.heap.size ≤ k_)) v0_ r1 ∧ IsS61 w0 w' g s0_0 r2 r3 ∧ Below w0.heap.size w0 w' ∧ KeepBut w w' g none := by
  have HI0 := Aside0.mk hI
  have HK := Aside0.mk (KeepBut.refl w g none)
  have HL := Aside0.mk hB.size
  clear hI
  have HW0 := Aside0.mk hB.size
  have HB := Aside0.mk hB
  clear hB
  have H : ((spec_TreeNew.f).bind fun t299 => ((spec_l01PickInt.f s0_0 s0_1 s0_2 (([1, 4] : List Int))).bind fun bt305 => (spec_l05Drawn.l0 k t299 bt305.1 0 s0_0 bt305.2.1 bt305.2.2))) = some (r1, r2, r3) := h
  clear h
  replace H := Option.bind_eq_some_iff.mp H
  obtain ⟨t299, A20, H⟩ := H
  replace H : ((spec_l01PickInt.f s0_0 s0_1 s0_2 (([1, 4] : List Int))).bind fun bt305 => (spec_l05Drawn.l0 k t299 bt305.1 0 s0_0 bt305.2.1 bt305.2.2)) = some (r1, r2, r3) := H
  have A2 := Aside0.mk A20
  clear A20
  obtain ⟨y302, hy302⟩ : ∃ y_ : List Int, y_ = (([1, 4] : List Int)) := ⟨_, rfl⟩
  replace H : ((spec_l01PickInt.f s0_0 s0_1 s0_2 y302).bind fun bt305 => (spec_l05Drawn.l0 k t299 bt305.1 0 s0_0 bt305.2.1 bt305.2.2)) = some (r1, r2, r3) := by first | (rw [hy302]; with_reducible exact H) | (have H2_ := (Option.bind_some _ _).symm.trans H; rw [hy302]; with_reducible exact H2_) | (have H2_ := (Option.bind_some _ _).symm.trans H; with_reducible exact H2_) | with_reducible exact H | (rw [hy302]; exact H) | exact H
  have Ny302 := Aside0.mk hy302
  clear hy302
  replace H := Option.bind_eq_some_iff.mp H
  obtain ⟨⟨t305, t306, t307⟩, A30, H⟩ := H
  replace H : (spec_l05Drawn.l0 k t299 t305 0 s0_0 t306 t307) = some (r1, r2, r3) := H
  have A3 := Aside0.mk A30
  clear A30
  have H' := Aside0.mk H
  clear H
  go_enter Try.func24, Try.ntmps24
  go_wp2_with (first | ((with_reducible refine gate_callee (f := 36) rfl ?_); refine goesL_ (some 9) rfl rfl Try.func36 (by kernel_rfl) rfl #[] rfl (by (try simp only [List.map_toArray, List.map_cons, List.map_nil]); first | done | rfl | (simp only [List.length_drop, List.length_take]; rfl)) ?_; (with_reducible refine (spec_TreeNew.calls  t299 _ A2.out).mono ?_); rintro e w4 ⟨v300, rfl, ho0, hb⟩; refine ⟨_, rfl, ?_⟩; have n0_ := Aside0.mk (Kd.N_lower (Kd.N_mono (ok' := fun k_ => (w.heap.size ≤ k_) ∧ k_ ≠ g) ho0 (fun k_ hk_ => ⟨(Nat.le_trans (keep_size (w := w) (g := g) (row := none) (by repeat (first | (with_reducible first | exact HK.out | apply KeepBut.set_ | apply keep_drewN | apply keep_drew | apply keep_alloc) | exact HK.out))) hk_), (IsS61.fresh (by repeat (first | (with_reducible first | exact HI0.out | apply IsS61.alloc | apply IsS61.drewN | apply IsS61.drew | apply IsS61.set_1 | apply IsS61.set_2) | exact HI0.out)) k_ hk_)⟩)) (keep_size (w := w) (g := g) (row := none) (by repeat (first | (with_reducible first | exact HK.out | apply KeepBut.set_ | apply keep_drewN | apply keep_drew | apply keep_alloc) | exact HK.out)))); have n1_ := Aside0.mk (IsS61.below (by repeat (first | (with_reducible first | exact HI0.out | apply IsS61.alloc | apply IsS61.drewN | apply IsS61.drew | apply IsS61.set_1 | apply IsS61.set_2) | exact HI0.out)) hb); have n2_ := Aside0.mk (KeepBut.trans (by repeat (first | (with_reducible first | exact HK.out | apply KeepBut.set_ | apply keep_drewN | apply keep_drew | apply keep_alloc) | exact HK.out)) (KeepBut.of_below hb g none) (.inl rfl)); have n3_ := Aside0.mk (below_step (by repeat (first | (with_reducible first | exact HB.out | apply below_alloc | apply pw_below_drewN | apply below_drew1 | refine below_set ?_ (IsS61.ge HI0.out)) | exact HB.out)) hb); clear HI0; clear HK; clear HB; have HO301 := n0_; have HI0 := n1_; have HK := n2_; have HB := n3_; clear n0_ n1_ n2_ n3_; (try clear hb); (try clear hb2); (try clear hk); (try clear hi); (try clear ho0)) | ((with_reducible refine gate_dst (N := 11) rfl ?_); refine Kd.R_lit (Kd.int .i64) _ 3 ?hg (N := 11) ?hd (xs := ([1, 4] : List Int)) (inner := [.int .i64 1, .int .i64 4]) (ok := fun _ => True) (okp := fun _ => True) ?hr ?hp (fun _ hk => hk) trivial (Below.refl _ _) (Nat.le_refl _) (by simp) ?_; (case hd => rfl); (case hg => rfl); (case hr => first | (go_simp; done) | (go_simp; rfl)); (case hp => exact (Reps.one (show Kd.M (Kd.int .i64) _ _ _ 1 [.int .i64 1] from rfl) (Reps.one (show Kd.M (Kd.int .i64) _ _ _ 4 [.int .i64 4] from rfl) (Reps.none _ _)))); intro v303 w5 ho6 hb hg_ hnew_; clear hg_ hnew_; (first | rw [← Ny302.out] at ho6 | (simp only [Int.reduceToNat] at ho6; rw [← Ny302.out] at ho6)); have n0_ := Aside0.mk (Kd.N_elder' (by (with_reducible repeat (first | apply Kd.N_alloc | apply Kd.N_drewN | apply Kd.N_drew)); exact HO301.out) (Kd.R_base ho6) hb); have n1_ := Aside0.mk (Kd.R_lower (Kd.R_newM (M := fun k_ => (w.heap.size ≤ k_)) ho6 (keep_size (w := w) (g := g) (row := none) (by repeat (first | (with_reducible first | exact HK.out | apply KeepBut.set_ | apply keep_drewN | apply keep_drew | apply keep_alloc) | exact HK.out))) (fun k_ h_ => h_)) (keep_size (w := w) (g := g) (row := none) (by repeat (first | (with_reducible first | exact HK.out | apply KeepBut.set_ | apply keep_drewN | apply keep_drew | apply keep_alloc) | exact HK.out)))); have n2_ := Aside0.mk (IsS61.below (by repeat (first | (with_reducible first | exact HI0.out | apply IsS61.alloc | apply IsS61.drewN | apply IsS61.drew | apply IsS61.set_1 | apply IsS61.set_2) | exact HI0.out)) hb); have n3_ := Aside0.mk (KeepBut.trans (by repeat (first | (with_reducible first | exact HK.out | apply KeepBut.set_ | apply keep_drewN | apply keep_drew | apply keep_alloc) | exact HK.out)) (KeepBut.of_below hb g none) (.inl rfl)); have n4_ := Aside0.mk (below_step (by repeat (first | (with_reducible first | exact HB.out | apply below_alloc | apply pw_below_drewN | apply below_drew1 | refine below_set ?_ (IsS61.ge HI0.out)) | exact HB.out)) hb); clear HO301; clear HI0; clear HK; clear HB; have HO301 := n0_; have HO304 := n1_; have HI0 := n2_; have HK := n3_; have HB := n4_; clear n0_ n1_ n2_ n3_ n4_; clear hb ho6; obtain ⟨Ao7, co7, eo7⟩ := Kd.R_slice HO304.out; subst eo7) | ((with_reducible refine gate_callee (f := 37) rfl ?_); refine goesL_ (some 12) rfl rfl Try.func37 (by kernel_rfl) rfl #[.pointer (some ⟨g, 0, none⟩), .slice Ao7 y302.length co7] rfl (by (try simp only [List.map_toArray, List.map_cons, List.map_nil]); first | done | rfl | (simp only [List.length_drop, List.length_take]; rfl)) ?_; (with_reducible refine (spec_l01PickInt.calls g s0_0 s0_1 s0_2 _ _ y302 t305 t306 t307 w0 _ ?side1 ?side2 ?side3 ?side4 ?side5 A3.out).mono ?_); (case side1 => repeat (first | (with_reducible first | exact HI0.out | apply IsS61.alloc | apply IsS61.drewN | apply IsS61.drew | apply IsS61.set_1 | apply IsS61.set_2) | exact HI0.out)); (case side2 => repeat (first | (with_reducible first | exact HB.out | apply below_alloc | apply pw_below_drewN | apply below_drew1 | refine below_set ?_ (IsS61.ge HI0.out)) | exact HB.out)); (case side3 => repeat (first | exact (Kd.R_reads' HO304.out).2.2 | (with_reducible refine Kd.C_alloc ?_ _) | (with_reducible refine Kd.C_drewN ?_ _) | (with_reducible refine Kd.C_drew ?_))); (case side4 => exact (Kd.R_reads' HO304.out).2.1); (case side5 => exact far_slice (IsS61.own_ne HI0.out HO304.out (by decide))); rintro e w8 ⟨rfl, hi, hb, hk⟩; refine ⟨_, rfl, ?_⟩; have n0_ := Aside0.mk (Kd.N_mono (Kd.N_keep (Kd.N_mono (ok := fun k_ => ((((w.heap.size ≤ k_)) ∧ k_ ≠ g) ∧ some k_ ≠ (.slice Ao7 y302.length co7 : Value).ownBlock)) (by (with_reducible repeat (first | apply Kd.N_alloc | apply Kd.N_drewN | apply Kd.N_drew)); exact HO301.out) (fun k_ hk_ => (⟨hk_, hk_.1.2⟩ : _ ∧ k_ ≠ g))) hk (fun _ h => h.2)) (fun _ h => h.1)); have n1_ := Aside0.mk (Kd.R_mono (Kd.R_keep (IsS61.apart (show IsS61 w0 _ g s0_0 s0_1 s0_2 from by repeat (first | (with_reducible first | exact HI0.out | apply IsS61.alloc | apply IsS61.drewN | apply IsS61.drew | apply IsS61.set_1 | apply IsS61.set_2) | exact HI0.out)) (by (with_reducible repeat (first | apply Kd.R_alloc | apply Kd.R_drewN | apply Kd.R_drew)); exact HO304.out) (by decide)) hk (fun _ h => h.2)) (fun _ h => h.1)); have n2_ := Aside0.mk (KeepBut.trans (by repeat (first | (with_reducible first | exact HK.out | apply KeepBut.set_ | apply keep_drewN | apply keep_drew | apply keep_alloc) | exact HK.out)) hk (.inl rfl)); have n3_ := Aside0.mk (hb); have n4_ := Aside0.mk (hi); clear HO301; clear HO304; clear HK; clear HB; clear HI0; have HO301 := n0_; have HO304 := n1_; have HK := n2_; have HB := n3_; have HI0 := n4_; clear n0_ n1_ n2_ n3_ n4_; (try clear hb); (try clear hb2); (try clear hk); (try clear hi)))
  go_loopg [3, 5] k (fun kq v3 v5 w' => ∃ (x3_1 : List (S33)) (x5_1 : Int) (x1001_1 : Int) (x1002_1 : Int), v5 = .int .i64 x5_1 ∧ Aside0 (spec_l05Drawn.l0 kq x3_1 t305 x5_1 s0_0 x1001_1 x1002_1 = some (r1, r2, r3)) ∧ Aside0 (kq ≤ k) ∧ Aside0 (Kd.N k33 33 w' w.heap.size (fun k_ => (w.heap.size ≤ k_) ∧ k_ ≠ g) v3 x3_1) ∧ Aside0 (IsS61 w0 w' g s0_0 x1001_1 x1002_1) ∧ Aside0 (KeepBut w w' g none) ∧ Aside0 (Below w0.heap.size w0 w'))
  case atStart => exact ⟨(t299), (0), (t306), (t307), (by first | rfl | (simp; done) | (simp [*]; done)), H', ⟨Nat.le_refl _⟩, ⟨by (with_reducible repeat (first | apply Kd.N_alloc | apply Kd.N_drewN | apply Kd.N_drew)); exact Kd.N_mono HO301.out (fun _ hk => ⟨hk.1.1, hk.1.2⟩)⟩, ⟨by repeat (first | (with_reducible first | exact HI0.out | apply IsS61.alloc | apply IsS61.drewN | apply IsS61.drew | apply IsS61.set_1 | apply IsS61.set_2) | exact HI0.out)⟩, ⟨by repeat (first | (with_reducible first | exact HK.out | apply KeepBut.set_ | apply keep_drewN | apply keep_drew | apply keep_alloc) | exact HK.out)⟩, ⟨by repeat (first | (with_reducible first | exact HB.out | apply below_alloc | apply pw_below_drewN | apply below_drew1 | refine below_set ?_ (IsS61.ge HI0.out)) | exact HB.out)⟩⟩
  case round =>
    clear H'
    try clear c2
    try clear p2
    try clear c3
    obtain ⟨x3_1, x5_1, x1001_1, x1002_1, rfl, HA, HK1, HO_3, HI0, HK, HB⟩ := hrel
    cases gk with
    | zero => exact absurd HA.out (by simp [spec_l05Drawn.l0])
    | succ k1 =>
      have H := HA.out
      clear HA
      simp only [spec_l05Drawn.l0] at H
      replace H := Option.bind_eq_some_iff.mp H
      obtain ⟨⟨t308, t309, t310⟩, A90, H⟩ := H
      replace H : (if x5_1 < t308 then ((spec_l01Once.f s0_0 t309 t310 4).bind fun bt311 => (if bt311.1 = true then ((spec_l01Below.f s0_0 bt311.2.1 bt311.2.2 (x3_1.length : Int)).bind fun bt314 => (spec_l05Drawn.j1 k1 x3_1 t305 x5_1 bt314.1 s0_0 bt314.2.1 bt314.2.2)) else (spec_l05Drawn.j1 k1 x3_1 t305 x5_1 (wrap64 ((x3_1.length : Int) - 1)) s0_0 bt311.2.1 bt311.2.2))) else (some (x3_1, t309, t310))) = some (r1, r2, r3) := H
      have A9 := Aside0.mk A90
      clear A90
      by_cases c10 : x5_1 < t308
      · rw [if_pos c10] at H
        have c10b0 : decide (x5_1 < t308) = true := decide_eq_true c10
        clear c10
        replace H := Option.bind_eq_some_iff.mp H
        obtain ⟨⟨t311, t312, t313⟩, A110, H⟩ := H
        replace H : (if t311 = true then ((spec_l01Below.f s0_0 t312 t313 (x3_1.length : Int)).bind fun bt314 => (spec_l05Drawn.j1 k1 x3_1 t305 x5_1 bt314.1 s0_0 bt314.2.1 bt314.2.2)) else (spec_l05Drawn.j1 k1 x3_1 t305 x5_1 (wrap64 ((x3_1.length : Int) - 1)) s0_0 t312 t313)) = some (r1, r2, r3) := H
        have A11 := Aside0.mk A110
        clear A110
        have HC12 := Aside0.mk H
        clear H
        go_upto_if 23 with (first | ((with_reducible refine gate_callee (f := 27) rfl ?_); refine goesL_ (some 15) rfl rfl Try.func27 (by kernel_rfl) rfl #[.pointer (some ⟨g, 0, none⟩), .int .i64 9] rfl (by (try simp only [List.map_toArray, List.map_cons, List.map_nil]); first | done | rfl | (simp only [List.length_drop, List.length_take]; rfl)) ?_; (with_reducible refine (spec_l01Below.calls g s0_0 x1001_1 x1002_1 9 t308 t309 t310 w0 _ ?side1 ?side2 A9.out).mono ?_); (case side1 => repeat (first | (with_reducible first | exact HI0.out | apply IsS61.alloc | apply IsS61.drewN | apply IsS61.drew | apply IsS61.set_1 | apply IsS61.set_2) | exact HI0.out)); (case side2 => repeat (first | (with_reducible first | exact HB.out | apply below_alloc | apply pw_below_drewN | apply below_drew1 | refine below_set ?_ (IsS61.ge HI0.out)) | exact HB.out)); rintro e w13 ⟨rfl, hi, hb, hk⟩; refine ⟨_, rfl, ?_⟩; have n0_ := Aside0.mk (Kd.N_mono (Kd.N_keep (Kd.N_mono (ok := fun k_ => (((w.heap.size ≤ k_)) ∧ k_ ≠ g)) (by (with_reducible repeat (first | apply Kd.N_alloc | apply Kd.N_drewN | apply Kd.N_drew)); exact HO_3.out) (fun k_ hk_ => (⟨hk_, hk_.2⟩ : _ ∧ k_ ≠ g))) hk (fun _ h => h.2)) (fun _ h => h.1)); have n1_ := Aside0.mk (KeepBut.trans (by repeat (first | (with_reducible first | exact HK.out | apply KeepBut.set_ | apply keep_drewN | apply keep_drew | apply keep_alloc) | exact HK.out)) hk (.inl rfl)); have n2_ := Aside0.mk (hb); have n3_ := Aside0.mk (hi); clear HO_3; clear HK; clear HB; clear HI0; have HO_3 := n0_; have HK := n1_; have HB := n2_; have HI0 := n3_; clear n0_ n1_ n2_ n3_; (try clear hb); (try clear hb2); (try clear hk); (try clear hi); obtain ⟨Ao14, co14, eo14⟩ := Kd.N_slice HO_3.out; subst eo14) | ((with_reducible refine gate_callee (f := 33) rfl ?_); refine goesL_ (some 23) rfl rfl Try.func33 (by kernel_rfl) rfl #[.pointer (some ⟨g, 0, none⟩), .int .i64 4] rfl (by (try simp only [List.map_toArray, List.map_cons, List.map_nil]); first | done | rfl | (simp only [List.length_drop, List.length_take]; rfl)) ?_; (with_reducible refine (spec_l01Once.calls g s0_0 t309 t310 4 t311 t312 t313 w0 _ ?side1 ?side2 A11.out).mono ?_); (case side1 => repeat (first | (with_reducible first | exact HI0.out | apply IsS61.alloc | apply IsS61.drewN | apply IsS61.drew | apply IsS61.set_1 | apply IsS61.set_2) | exact HI0.out)); (case side2 => repeat (first | (with_reducible first | exact HB.out | apply below_alloc | apply pw_below_drewN | apply below_drew1 | refine below_set ?_ (IsS61.ge HI0.out)) | exact HB.out)); rintro e w15 ⟨rfl, hi, hb, hk⟩; refine ⟨_, rfl, ?_⟩; have n0_ := Aside0.mk (Kd.N_mono (Kd.N_keep (Kd.N_mono (ok := fun k_ => (((w.heap.size ≤ k_)) ∧ k_ ≠ g)) (by (with_reducible repeat (first | apply Kd.N_alloc | apply Kd.N_drewN | apply Kd.N_drew)); exact HO_3.out) (fun k_ hk_ => (⟨hk_, hk_.2⟩ : _ ∧ k_ ≠ g))) hk (fun _ h => h.2)) (fun _ h => h.1)); have n1_ := Aside0.mk (KeepBut.trans (by repeat (first | (with_reducible first | exact HK.out | apply KeepBut.set_ | apply keep_drewN | apply keep_drew | apply keep_alloc) | exact HK.out)) hk (.inl rfl)); have n2_ := Aside0.mk (hb); have n3_ := Aside0.mk (hi); clear HO_3; clear HK; clear HB; clear HI0; have HO_3 := n0_; have HK := n1_; have HB := n2_; have HI0 := n3_; clear n0_ n1_ n2_ n3_; (try clear hb); (try clear hb2); (try clear hk); (try clear hi)))
        (try simp only [Act.put, List.setIfInBounds_toArray, List.set_cons_zero, List.set_cons_succ])
        go_cut [6] (fun v6 wc => ∃ (kq : Nat) (x6_11 : Int) (x1001_11 : Int) (x1002_11 : Int), v6 = .int .i64 x6_11 ∧ Aside0 (spec_l05Drawn.j1 kq x3_1 t305 x5_1 x6_11 s0_0 x1001_11 x1002_11 = some (r1, r2, r3)) ∧ Aside0 (kq ≤ k1) ∧ Aside0 (Kd.N k33 33 wc w.heap.size (fun k_ => (w.heap.size ≤ k_) ∧ k_ ≠ g) (.slice Ao14 x3_1.length co14) x3_1) ∧ Aside0 (IsS61 w0 wc g s0_0 x1001_11 x1002_11) ∧ Aside0 (KeepBut w wc g none) ∧ Aside0 (Below w0.heap.size w0 wc))
        case first =>
          have H := HC12.out
          clear HC12
          by_cases c16 : t311 = true
          · subst c16
            have H1 : ((spec_l01Below.f s0_0 t312 t313 (x3_1.length : Int)).bind fun bt314 => (spec_l05Drawn.j1 k1 x3_1 t305 x5_1 bt314.1 s0_0 bt314.2.1 bt314.2.2)) = some (r1, r2, r3) := by rw [if_pos rfl] at H; exact H
            clear H
            have H := H1
            clear H1
            replace H := Option.bind_eq_some_iff.mp H
            obtain ⟨⟨t314, t315, t316⟩, A170, H⟩ := H
            replace H : (spec_l05Drawn.j1 k1 x3_1 t305 x5_1 t314 s0_0 t315 t316) = some (r1, r2, r3) := H
            have A17 := Aside0.mk A170
            clear A170
            have H' := Aside0.mk H
            clear H
            go_wp2_with (first | ((with_reducible refine gate_callee (f := 27) rfl ?_); refine goesL_ (some 27) rfl rfl Try.func27 (by kernel_rfl) rfl #[.pointer (some ⟨g, 0, none⟩), .int .i64 (x3_1.length : Int)] rfl (by (try simp only [List.map_toArray, List.map_cons, List.map_nil]); first | done | rfl | (simp only [List.length_drop, List.length_take]; rfl)) ?_; (with_reducible refine (spec_l01Below.calls g s0_0 t312 t313 (x3_1.length : Int) t314 t315 t316 w0 _ ?side1 ?side2 A17.out).mono ?_); (case side1 => repeat (first | (with_reducible first | exact HI0.out | apply IsS61.alloc | apply IsS61.drewN | apply IsS61.drew | apply IsS61.set_1 | apply IsS61.set_2) | exact HI0.out)); (case side2 => repeat (first | (with_reducible first | exact HB.out | apply below_alloc | apply pw_below_drewN | apply below_drew1 | refine below_set ?_ (IsS61.ge HI0.out)) | exact HB.out)); rintro e w18 ⟨rfl, hi, hb, hk⟩; refine ⟨_, rfl, ?_⟩; have n0_ := Aside0.mk (Kd.N_mono (Kd.N_keep (Kd.N_mono (ok := fun k_ => (((w.heap.size ≤ k_)) ∧ k_ ≠ g)) (by (with_reducible repeat (first | apply Kd.N_alloc | apply Kd.N_drewN | apply Kd.N_drew)); exact HO_3.out) (fun k_ hk_ => (⟨hk_, hk_.2⟩ : _ ∧ k_ ≠ g))) hk (fun _ h => h.2)) (fun _ h => h.1)); have n1_ := Aside0.mk (KeepBut.trans (by repeat (first | (with_reducible first | exact HK.out | apply KeepBut.set_ | apply keep_drewN | apply keep_drew | apply keep_alloc) | exact HK.out)) hk (.inl rfl)); have n2_ := Aside0.mk (hb); have n3_ := Aside0.mk (hi); clear HO_3; clear HK; clear HB; clear HI0; have HO_3 := n0_; have HK := n1_; have HB := n2_; have HI0 := n3_; clear n0_ n1_ n2_ n3_; (try clear hb); (try clear hb2); (try clear hk); (try clear hi)))
            go_meet
            case rel => exact ⟨_, (t314), (t315), (t316), (by first | rfl | (simp; done) | (simp [*]; done)), H', ⟨by have := HK1.out; first | omega | exact Nat.le_refl _⟩, ⟨by (with_reducible repeat (first | apply Kd.N_alloc | apply Kd.N_drewN | apply Kd.N_drew)); exact HO_3.out⟩, ⟨by repeat (first | (with_reducible first | exact HI0.out | apply IsS61.alloc | apply IsS61.drewN | apply IsS61.drew | apply IsS61.set_1 | apply IsS61.set_2) | exact HI0.out)⟩, ⟨by repeat (first | (with_reducible first | exact HK.out | apply KeepBut.set_ | apply keep_drewN | apply keep_drew | apply keep_alloc) | exact HK.out)⟩, ⟨by repeat (first | (with_reducible first | exact HB.out | apply below_alloc | apply pw_below_drewN | apply below_drew1 | refine below_set ?_ (IsS61.ge HI0.out)) | exact HB.out)⟩⟩
          · replace c16 := Bool.eq_false_iff.mpr c16
            subst c16
            have H1 : (spec_l05Drawn.j1 k1 x3_1 t305 x5_1 (wrap64 ((x3_1.length : Int) - 1)) s0_0 t312 t313) = some (r1, r2, r3) := by rw [if_neg (show ¬ (false = true) by decide)] at H; exact H
            clear H
            have H := H1
            clear H1
            have H' := Aside0.mk H
            clear H
            go_wp2
            go_meet
            case rel => exact ⟨_, (wrap64 ((x3_1.length : Int) - 1)), (t312), (t313), (by first | rfl | (simp; done) | (simp [*]; done)), H', ⟨by have := HK1.out; first | omega | exact Nat.le_refl _⟩, ⟨by (with_reducible repeat (first | apply Kd.N_alloc | apply Kd.N_drewN | apply Kd.N_drew)); exact HO_3.out⟩, ⟨by repeat (first | (with_reducible first | exact HI0.out | apply IsS61.alloc | apply IsS61.drewN | apply IsS61.drew | apply IsS61.set_1 | apply IsS61.set_2) | exact HI0.out)⟩, ⟨by repeat (first | (with_reducible first | exact HK.out | apply KeepBut.set_ | apply keep_drewN | apply keep_drew | apply keep_alloc) | exact HK.out)⟩, ⟨by repeat (first | (with_reducible first | exact HB.out | apply below_alloc | apply pw_below_drewN | apply below_drew1 | refine below_set ?_ (IsS61.ge HI0.out)) | exact HB.out)⟩⟩
        case rest =>
          clear HC12
          try clear c1
          try clear c2
          try clear p2
          try clear c3
          try clear p6
          try clear c10
          try clear c10b0
          try clear c16
          try clear p2
          obtain ⟨kq, x6_11, x1001_11, x1002_11, rfl, HA, HJ11, HO_3, HI0, HK, HB⟩ := hcut
          cases kq with
          | zero => exact absurd HA.out (by simp [spec_l05Drawn.j1])
          | succ kj11 =>
            have H := HA.out
            clear HA
            simp only [spec_l05Drawn.j1] at H
            replace H := Option.bind_eq_some_iff.mp H
            obtain ⟨⟨t317, t318, t319⟩, A190, H⟩ := H
            replace H : (if t317 = true then ((spec_l03Cmds.f kj11 s0_0 t318 t319).bind fun bt320 => ((spec_l05On.f x3_1 x6_11 2 bt320.1 t305).bind fun bt325 => ((spec_PutBlock.f kj11 x3_1 bt325.1 bt325.2.1 bt325.2.2.1 bt325.2.2.2.1 bt325.2.2.2.2.1 bt325.2.2.2.2.2.1 bt325.2.2.2.2.2.2).bind fun bt334 => (spec_l05Drawn.l0 kj11 bt334.1 t305 (wrap64 (x5_1 + 1)) s0_0 bt320.2.1 bt320.2.2)))) else ((spec_l03Cmds.f kj11 s0_0 t318 t319).bind fun bt338 => ((spec_l05On.f x3_1 x6_11 1 bt338.1 t305).bind fun bt343 => ((spec_PutBlock.f kj11 x3_1 bt343.1 bt343.2.1 bt343.2.2.1 bt343.2.2.2.1 bt343.2.2.2.2.1 bt343.2.2.2.2.2.1 bt343.2.2.2.2.2.2).bind fun bt352 => (spec_l05Drawn.l0 kj11 bt352.1 t305 (wrap64 (x5_1 + 1)) s0_0 bt338.2.1 bt338.2.2))))) = some (r1, r2, r3) := H
            have A19 := Aside0.mk A190
            clear A190
            by_cases c20 : t317 = true
            · subst c20
              have H1 : ((spec_l03Cmds.f kj11 s0_0 t318 t319).bind fun bt320 => ((spec_l05On.f x3_1 x6_11 2 bt320.1 t305).bind fun bt325 => ((spec_PutBlock.f kj11 x3_1 bt325.1 bt325.2.1 bt325.2.2.1 bt325.2.2.2.1 bt325.2.2.2.2.1 bt325.2.2.2.2.2.1 bt325.2.2.2.2.2.2).bind fun bt334 => (spec_l05Drawn.l0 kj11 bt334.1 t305 (wrap64 (x5_1 + 1)) s0_0 bt320.2.1 bt320.2.2)))) = some (r1, r2, r3) := by rw [if_pos rfl] at H; exact H
              clear H
              have H := H1
              clear H1
              replace H := Option.bind_eq_some_iff.mp H
              obtain ⟨⟨t320, t323, t324⟩, A210, H⟩ := H
              replace H : ((spec_l05On.f x3_1 x6_11 2 t320 t305).bind fun bt325 => ((spec_PutBlock.f kj11 x3_1 bt325.1 bt325.2.1 bt325.2.2.1 bt325.2.2.2.1 bt325.2.2.2.2.1 bt325.2.2.2.2.2.1 bt325.2.2.2.2.2.2).bind fun bt334 => (spec_l05Drawn.l0 kj11 bt334.1 t305 (wrap64 (x5_1 + 1)) s0_0 t323 t324))) = some (r1, r2, r3) := H
              have A21 := Aside0.mk A210
              clear A210
              replace H := Option.bind_eq_some_iff.mp H
              obtain ⟨⟨t325, t326, t327, t330, t331, t332, t333⟩, A220, H⟩ := H
              replace H : ((spec_PutBlock.f kj11 x3_1 t325 t326 t327 t330 t331 t332 t333).bind fun bt334 => (spec_l05Drawn.l0 kj11 bt334.1 t305 (wrap64 (x5_1 + 1)) s0_0 t323 t324)) = some (r1, r2, r3) := H
              have A22 := Aside0.mk A220
              clear A220
              replace H := Option.bind_eq_some_iff.mp H
              obtain ⟨⟨t334, t337⟩, A230, H⟩ := H
              replace H : (spec_l05Drawn.l0 kj11 t334 t305 (wrap64 (x5_1 + 1)) s0_0 t323 t324) = some (r1, r2, r3) := H
              have A23 := Aside0.mk A230
              clear A230
              have H' := Aside0.mk H
              clear H
              go_wp2_with (first | ((with_reducible refine gate_callee (f := 33) rfl ?_); refine goesL_ (some 29) rfl rfl Try.func33 (by kernel_rfl) rfl #[.pointer (some ⟨g, 0, none⟩), .int .i64 4] rfl (by (try simp only [List.map_toArray, List.map_cons, List.map_nil]); first | done | rfl | (simp only [List.length_drop, List.length_take]; rfl)) ?_; (with_reducible refine (spec_l01Once.calls g s0_0 x1001_11 x1002_11 4 true t318 t319 w0 _ ?side1 ?side2 A19.out).mono ?_); (case side1 => repeat (first | (with_reducible first | exact HI0.out | apply IsS61.alloc | apply IsS61.drewN | apply IsS61.drew | apply IsS61.set_1 | apply IsS61.set_2) | exact HI0.out)); (case side2 => repeat (first | (with_reducible first | exact HB.out | apply below_alloc | apply pw_below_drewN | apply below_drew1 | refine below_set ?_ (IsS61.ge HI0.out)) | exact HB.out)); rintro e w24 ⟨rfl, hi, hb, hk⟩; refine ⟨_, rfl, ?_⟩; have n0_ := Aside0.mk (Kd.N_mono (Kd.N_keep (Kd.N_mono (ok := fun k_ => (((w.heap.size ≤ k_)) ∧ k_ ≠ g)) (by (with_reducible repeat (first | apply Kd.N_alloc | apply Kd.N_drewN | apply Kd.N_drew)); exact HO_3.out) (fun k_ hk_ => (⟨hk_, hk_.2⟩ : _ ∧ k_ ≠ g))) hk (fun _ h => h.2)) (fun _ h => h.1)); have n1_ := Aside0.mk (KeepBut.trans (by repeat (first | (with_reducible first | exact HK.out | apply KeepBut.set_ | apply keep_drewN | apply keep_drew | apply keep_alloc) | exact HK.out)) hk (.inl rfl)); have n2_ := Aside0.mk (hb); have n3_ := Aside0.mk (hi); clear HO_3; clear HK; clear HB; clear HI0; have HO_3 := n0_; have HK := n1_; have HB := n2_; have HI0 := n3_; clear n0_ n1_ n2_ n3_; (try clear hb); (try clear hb2); (try clear hk); (try clear hi)) | ((with_reducible refine gate_callee (f := 38) rfl ?_); refine goesL_ (some 31) rfl rfl Try.func38 (by kernel_rfl) rfl #[.pointer (some ⟨g, 0, none⟩)] rfl (by (try simp only [List.map_toArray, List.map_cons, List.map_nil]); first | done | rfl | (simp only [List.length_drop, List.length_take]; rfl)) ?_; (with_reducible refine (spec_l03Cmds.calls kj11 g s0_0 t318 t319 t320 t323 t324 w0 _ ?side1 ?side2 A21.out).mono ?_); (case side1 => repeat (first | (with_reducible first | exact HI0.out | apply IsS61.alloc | apply IsS61.drewN | apply IsS61.drew | apply IsS61.set_1 | apply IsS61.set_2) | exact HI0.out)); (case side2 => repeat (first | (with_reducible first | exact HB.out | apply below_alloc | apply pw_below_drewN | apply below_drew1 | refine below_set ?_ (IsS61.ge HI0.out)) | exact HB.out)); rintro e w25 ⟨v321, rfl, ho0, hi, hb, hk⟩; refine ⟨_, rfl, ?_⟩; have n0_ := Aside0.mk (Kd.N_mono (Kd.N_told (Kd.N_oldK (Kd.N_mono (ok := fun k_ => (((w.heap.size ≤ k_)) ∧ k_ ≠ g)) (by (with_reducible repeat (first | apply Kd.N_alloc | apply Kd.N_drewN | apply Kd.N_drew)); exact HO_3.out) (fun k_ hk_ => (⟨hk_, hk_.2⟩ : _ ∧ k_ ≠ g))) hk) (Kd.R_base ho0)) (fun _ h_ => h_.1)); have n1_ := Aside0.mk (Kd.R_lower (Kd.R_newM (M := fun k_ => (w.heap.size ≤ k_)) ho0 (keep_size (w := w) (g := g) (row := none) (by repeat (first | (with_reducible first | exact HK.out | apply KeepBut.set_ | apply keep_drewN | apply keep_drew | apply keep_alloc) | exact HK.out))) (fun k_ h_ => h_)) (keep_size (w := w) (g := g) (row := none) (by repeat (first | (with_reducible first | exact HK.out | apply KeepBut.set_ | apply keep_drewN | apply keep_drew | apply keep_alloc) | exact HK.out)))); have n2_ := Aside0.mk (KeepBut.trans (by repeat (first | (with_reducible first | exact HK.out | apply KeepBut.set_ | apply keep_drewN | apply keep_drew | apply keep_alloc) | exact HK.out)) hk (.inl rfl)); have n3_ := Aside0.mk (hb); have n4_ := Aside0.mk (hi); clear HO_3; clear HK; clear HB; clear HI0; have HO_3 := n0_; have HO322 := n1_; have HK := n2_; have HB := n3_; have HI0 := n4_; clear n0_ n1_ n2_ n3_ n4_; (try clear hb); (try clear hb2); (try clear hk); (try clear hi); (try clear ho0); obtain ⟨Ao26, co26, eo26⟩ := Kd.R_slice HO322.out; subst eo26) | ((with_reducible refine gate_callee (f := 40) rfl ?_); refine goesL_ (some 39) rfl rfl Try.func40 (by kernel_rfl) rfl #[.slice Ao14 x3_1.length co14, .int .i64 x6_11, .int .i64 2, .slice Ao26 t320.length co26, .int .i64 t305] rfl (by (try simp only [List.map_toArray, List.map_cons, List.map_nil]); first | done | rfl | (simp only [List.length_drop, List.length_take]; rfl)) ?_; (with_reducible refine (spec_l05On.calls _ _ x3_1 x6_11 2 _ _ t320 t305 t325 t326 t327 t330 t331 t332 t333 _ ?side1 ?side2 A22.out).mono ?_); (case side1 => repeat (first | exact (Kd.N_reads' HO_3.out).2.2 | (with_reducible refine Kd.C_alloc ?_ _) | (with_reducible refine Kd.C_drewN ?_ _) | (with_reducible refine Kd.C_drew ?_))); (case side2 => exact (Kd.N_reads' HO_3.out).2.1); rintro e w27 ⟨rfl, rfl, hb⟩; refine ⟨_, rfl, ?_⟩; have n0_ := Aside0.mk (Kd.N_below (by (with_reducible repeat (first | apply Kd.N_alloc | apply Kd.N_drewN | apply Kd.N_drew)); exact HO_3.out) hb); have n1_ := Aside0.mk (Kd.R_below (by (with_reducible repeat (first | apply Kd.R_alloc | apply Kd.R_drewN | apply Kd.R_drew)); exact HO322.out) hb); have n2_ := trivial; have n3_ := Aside0.mk (IsS61.below (by repeat (first | (with_reducible first | exact HI0.out | apply IsS61.alloc | apply IsS61.drewN | apply IsS61.drew | apply IsS61.set_1 | apply IsS61.set_2) | exact HI0.out)) hb); have n4_ := Aside0.mk (KeepBut.trans (by repeat (first | (with_reducible first | exact HK.out | apply KeepBut.set_ | apply keep_drewN | apply keep_drew | apply keep_alloc) | exact HK.out)) (KeepBut.of_below hb g none) (.inl rfl)); have n5_ := Aside0.mk (below_step (by repeat (first | (with_reducible first | exact HB.out | apply below_alloc | apply pw_below_drewN | apply below_drew1 | refine below_set ?_ (IsS61.ge HI0.out)) | exact HB.out)) hb); clear HO_3; clear HO322; clear HI0; clear HK; clear HB; have HO_3 := n0_; have HO322 := n1_; have HO329 := n2_; have HI0 := n3_; have HK := n4_; have HB := n5_; clear n0_ n1_ n2_ n3_ n4_ n5_; (try clear hb); (try clear hb2); (try clear hk); (try clear hi); (try clear ho0)) | ((with_reducible refine gate_callee (f := 39) rfl ?_); refine goesL_ (some 40) rfl rfl Try.func39 (by kernel_rfl) rfl #[.slice Ao14 x3_1.length co14, .agg #[.int .i64 t325, .int .i64 t326, .slice Ao26 t320.length co26, .int .i64 t330, .int .i64 t331, .int .i64 t332, .int .i64 t333]] rfl (by (try simp only [List.map_toArray, List.map_cons, List.map_nil]); first | done | rfl | (simp only [List.length_drop, List.length_take]; rfl)) ?_; (with_reducible refine (spec_PutBlock.calls kj11 _ _ x3_1 t325 t326 _ _ t320 t330 t331 t332 t333 t334 t337 _ ?side1 ?side2 ?side3 ?side4 A23.out).mono ?_); (case side1 => repeat (first | exact (Kd.N_reads' HO_3.out).2.2 | (with_reducible refine Kd.C_alloc ?_ _) | (with_reducible refine Kd.C_drewN ?_ _) | (with_reducible refine Kd.C_drew ?_))); (case side2 => exact (Kd.N_reads' HO_3.out).2.1); (case side3 => repeat (first | exact (Kd.R_reads' HO322.out).2.2 | (with_reducible refine Kd.C_alloc ?_ _) | (with_reducible refine Kd.C_drewN ?_ _) | (with_reducible refine Kd.C_drew ?_))); (case side4 => exact (Kd.R_reads' HO322.out).2.1); rintro e w29 ⟨v335, rfl, ho0, hb⟩; refine ⟨_, rfl, ?_⟩; have n0_ := Aside0.mk (Kd.N_elder' (by (with_reducible repeat (first | apply Kd.N_alloc | apply Kd.N_drewN | apply Kd.N_drew)); exact HO_3.out) (Kd.N_base (Kd.S_N (Kd.S_bound ho0))) hb); have n1_ := Aside0.mk (Kd.R_below (by (with_reducible repeat (first | apply Kd.R_alloc | apply Kd.R_drewN | apply Kd.R_drew)); exact HO322.out) hb); have n2_ := trivial; have n3_ := Aside0.mk (Kd.N_lower (Kd.N_mono (ok' := fun k_ => (w.heap.size ≤ k_) ∧ some k_ ≠ (.slice Ao14 x3_1.length co14 : Value).ownBlock ∧ some k_ ≠ (.slice Ao26 t320.length co26 : Value).ownBlock ∧ k_ ≠ g) (Kd.S_N (Kd.S_bound ho0)) (fun k_ hk_ => ⟨(Nat.le_trans (keep_size (w := w) (g := g) (row := none) (by repeat (first | (with_reducible first | exact HK.out | apply KeepBut.set_ | apply keep_drewN | apply keep_drew | apply keep_alloc) | exact HK.out))) hk_.2.1), (Kd.fresh' (Kd.N_lt (by (with_reducible repeat (first | apply Kd.N_alloc | apply Kd.N_drewN | apply Kd.N_drew)); exact HO_3.out)) k_ hk_.2.1), (Kd.fresh' (Kd.R_lt (by (with_reducible repeat (first | apply Kd.R_alloc | apply Kd.R_drewN | apply Kd.R_drew)); exact HO322.out)) k_ hk_.2.1), (IsS61.fresh (by repeat (first | (with_reducible first | exact HI0.out | apply IsS61.alloc | apply IsS61.drewN | apply IsS61.drew | apply IsS61.set_1 | apply IsS61.set_2) | exact HI0.out)) k_ hk_.2.1)⟩)) (keep_size (w := w) (g := g) (row := none) (by repeat (first | (with_reducible first | exact HK.out | apply KeepBut.set_ | apply keep_drewN | apply keep_drew | apply keep_alloc) | exact HK.out)))); have n4_ := Aside0.mk (IsS61.below (by repeat (first | (with_reducible first | exact HI0.out | apply IsS61.alloc | apply IsS61.drewN | apply IsS61.drew | apply IsS61.set_1 | apply IsS61.set_2) | exact HI0.out)) hb); have n5_ := Aside0.mk (KeepBut.trans (by repeat (first | (with_reducible first | exact HK.out | apply KeepBut.set_ | apply keep_drewN | apply keep_drew | apply keep_alloc) | exact HK.out)) (KeepBut.of_below hb g none) (.inl rfl)); have n6_ := Aside0.mk (below_step (by repeat (first | (with_reducible first | exact HB.out | apply below_alloc | apply pw_below_drewN | apply below_drew1 | refine below_set ?_ (IsS61.ge HI0.out)) | exact HB.out)) hb); clear HO_3; clear HO322; clear HO329; clear HI0; clear HK; clear HB; have HO_3 := n0_; have HO322 := n1_; have HO329 := n2_; have HO336 := n3_; have HI0 := n4_; have HK := n5_; have HB := n6_; clear n0_ n1_ n2_ n3_ n4_ n5_ n6_; (try clear hb); (try clear hb2); (try clear hk); (try clear hi); (try clear ho0)))
              go_roundg kj11
              case measure => have := HK1.out; have := HJ11.out; omega
              case rel => exact ⟨(t334), (wrap64 (x5_1 + 1)), (t323), (t324), (by first | rfl | (simp; done) | (simp [*]; done)), H', ⟨by have := HK1.out; have := HJ11.out; omega⟩, ⟨by (with_reducible repeat (first | apply Kd.N_alloc | apply Kd.N_drewN | apply Kd.N_drew)); exact Kd.N_mono HO336.out (fun _ hk => ⟨hk.1, hk.2.2.2⟩)⟩, ⟨by repeat (first | (with_reducible first | exact HI0.out | apply IsS61.alloc | apply IsS61.drewN | apply IsS61.drew | apply IsS61.set_1 | apply IsS61.set_2) | exact HI0.out)⟩, ⟨by repeat (first | (with_reducible first | exact HK.out | apply KeepBut.set_ | apply keep_drewN | apply keep_drew | apply keep_alloc) | exact HK.out)⟩, ⟨by repeat (first | (with_reducible first | exact HB.out | apply below_alloc | apply pw_below_drewN | apply below_drew1 | refine below_set ?_ (IsS61.ge HI0.out)) | exact HB.out)⟩⟩
            · replace c20 := Bool.eq_false_iff.mpr c20
              subst c20
              have H1 : ((spec_l03Cmds.f kj11 s0_0 t318 t319).bind fun bt338 => ((spec_l05On.f x3_1 x6_11 1 bt338.1 t305).bind fun bt343 => ((spec_PutBlock.f kj11 x3_1 bt343.1 bt343.2.1 bt343.2.2.1 bt343.2.2.2.1 bt343.2.2.2.2.1 bt343.2.2.2.2.2.1 bt343.2.2.2.2.2.2).bind fun bt352 => (spec_l05Drawn.l0 kj11 bt352.1 t305 (wrap64 (x5_1 + 1)) s0_0 bt338.2.1 bt338.2.2)))) = some (r1, r2, r3) := by rw [if_neg (show ¬ (false = true) by decide)] at H; exact H
              clear H
              have H := H1
              clear H1
              replace H := Option.bind_eq_some_iff.mp H
              obtain ⟨⟨t338, t341, t342⟩, A300, H⟩ := H
              replace H : ((spec_l05On.f x3_1 x6_11 1 t338 t305).bind fun bt343 => ((spec_PutBlock.f kj11 x3_1 bt343.1 bt343.2.1 bt343.2.2.1 bt343.2.2.2.1 bt343.2.2.2.2.1 bt343.2.2.2.2.2.1 bt343.2.2.2.2.2.2).bind fun bt352 => (spec_l05Drawn.l0 kj11 bt352.1 t305 (wrap64 (x5_1 + 1)) s0_0 t341 t342))) = some (r1, r2, r3) := H
              have A30 := Aside0.mk A300
              clear A300
              replace H := Option.bind_eq_some_iff.mp H
              obtain ⟨⟨t343, t344, t345, t348, t349, t350, t351⟩, A310, H⟩ := H
              replace H : ((spec_PutBlock.f kj11 x3_1 t343 t344 t345 t348 t349 t350 t351).bind fun bt352 => (spec_l05Drawn.l0 kj11 bt352.1 t305 (wrap64 (x5_1 + 1)) s0_0 t341 t342)) = some (r1, r2, r3) := H
              have A31 := Aside0.mk A310
              clear A310
              replace H := Option.bind_eq_some_iff.mp H
              obtain ⟨⟨t352, t355⟩, A320, H⟩ := H
              replace H : (spec_l05Drawn.l0 kj11 t352 t305 (wrap64 (x5_1 + 1)) s0_0 t341 t342) = some (r1, r2, r3) := H
              have A32 := Aside0.mk A320
              clear A320
              have H' := Aside0.mk H
              clear H
              go_wp2_with (first | ((with_reducible refine gate_callee (f := 33) rfl ?_); refine goesL_ (some 29) rfl rfl Try.func33 (by kernel_rfl) rfl #[.pointer (some ⟨g, 0, none⟩), .int .i64 4] rfl (by (try simp only [List.map_toArray, List.map_cons, List.map_nil]); first | done | rfl | (simp only [List.length_drop, List.length_take]; rfl)) ?_; (with_reducible refine (spec_l01Once.calls g s0_0 x1001_11 x1002_11 4 false t318 t319 w0 _ ?side1 ?side2 A19.out).mono ?_); (case side1 => repeat (first | (with_reducible first | exact HI0.out | apply IsS61.alloc | apply IsS61.drewN | apply IsS61.drew | apply IsS61.set_1 | apply IsS61.set_2) | exact HI0.out)); (case side2 => repeat (first | (with_reducible first | exact HB.out | apply below_alloc | apply pw_below_drewN | apply below_drew1 | refine below_set ?_ (IsS61.ge HI0.out)) | exact HB.out)); rintro e w33 ⟨rfl, hi, hb, hk⟩; refine ⟨_, rfl, ?_⟩; have n0_ := Aside0.mk (Kd.N_mono (Kd.N_keep (Kd.N_mono (ok := fun k_ => (((w.heap.size ≤ k_)) ∧ k_ ≠ g)) (by (with_reducible repeat (first | apply Kd.N_alloc | apply Kd.N_drewN | apply Kd.N_drew)); exact HO_3.out) (fun k_ hk_ => (⟨hk_, hk_.2⟩ : _ ∧ k_ ≠ g))) hk (fun _ h => h.2)) (fun _ h => h.1)); have n1_ := Aside0.mk (KeepBut.trans (by repeat (first | (with_reducible first | exact HK.out | apply KeepBut.set_ | apply keep_drewN | apply keep_drew | apply keep_alloc) | exact HK.out)) hk (.inl rfl)); have n2_ := Aside0.mk (hb); have n3_ := Aside0.mk (hi); clear HO_3; clear HK; clear HB; clear HI0; have HO_3 := n0_; have HK := n1_; have HB := n2_; have HI0 := n3_; clear n0_ n1_ n2_ n3_; (try clear hb); (try clear hb2); (try clear hk); (try clear hi)) | ((with_reducible refine gate_callee (f := 38) rfl ?_); refine goesL_ (some 31) rfl rfl Try.func38 (by kernel_rfl) rfl #[.pointer (some ⟨g, 0, none⟩)] rfl (by (try simp only [List.map_toArray, List.map_cons, List.map_nil]); first | done | rfl | (simp only [List.length_drop, List.length_take]; rfl)) ?_; (with_reducible refine (spec_l03Cmds.calls kj11 g s0_0 t318 t319 t338 t341 t342 w0 _ ?side1 ?side2 A30.out).mono ?_); (case side1 => repeat (first | (with_reducible first | exact HI0.out | apply IsS61.alloc | apply IsS61.drewN | apply IsS61.drew | apply IsS61.set_1 | apply IsS61.set_2) | exact HI0.out)); (case side2 => repeat (first | (with_reducible first | exact HB.out | apply below_alloc | apply pw_below_drewN | apply below_drew1 | refine below_set ?_ (IsS61.ge HI0.out)) | exact HB.out)); rintro e w34 ⟨v339, rfl, ho0, hi, hb, hk⟩; refine ⟨_, rfl, ?_⟩; have n0_ := Aside0.mk (Kd.N_mono (Kd.N_told (Kd.N_oldK (Kd.N_mono (ok := fun k_ => (((w.heap.size ≤ k_)) ∧ k_ ≠ g)) (by (with_reducible repeat (first | apply Kd.N_alloc | apply Kd.N_drewN | apply Kd.N_drew)); exact HO_3.out) (fun k_ hk_ => (⟨hk_, hk_.2⟩ : _ ∧ k_ ≠ g))) hk) (Kd.R_base ho0)) (fun _ h_ => h_.1)); have n1_ := Aside0.mk (Kd.R_lower (Kd.R_newM (M := fun k_ => (w.heap.size ≤ k_)) ho0 (keep_size (w := w) (g := g) (row := none) (by repeat (first | (with_reducible first | exact HK.out | apply KeepBut.set_ | apply keep_drewN | apply keep_drew | apply keep_alloc) | exact HK.out))) (fun k_ h_ => h_)) (keep_size (w := w) (g := g) (row := none) (by repeat (first | (with_reducible first | exact HK.out | apply KeepBut.set_ | apply keep_drewN | apply keep_drew | apply keep_alloc) | exact HK.out)))); have n2_ := Aside0.mk (KeepBut.trans (by repeat (first | (with_reducible first | exact HK.out | apply KeepBut.set_ | apply keep_drewN | apply keep_drew | apply keep_alloc) | exact HK.out)) hk (.inl rfl)); have n3_ := Aside0.mk (hb); have n4_ := Aside0.mk (hi); clear HO_3; clear HK; clear HB; clear HI0; have HO_3 := n0_; have HO340 := n1_; have HK := n2_; have HB := n3_; have HI0 := n4_; clear n0_ n1_ n2_ n3_ n4_; (try clear hb); (try clear hb2); (try clear hk); (try clear hi); (try clear ho0); obtain ⟨Ao35, co35, eo35⟩ := Kd.R_slice HO340.out; subst eo35) | ((with_reducible refine gate_callee (f := 40) rfl ?_); refine goesL_ (some 39) rfl rfl Try.func40 (by kernel_rfl) rfl #[.slice Ao14 x3_1.length co14, .int .i64 x6_11, .int .i64 1, .slice Ao35 t338.length co35, .int .i64 t305] rfl (by (try simp only [List.map_toArray, List.map_cons, List.map_nil]); first | done | rfl | (simp only [List.length_drop, List.length_take]; rfl)) ?_; (with_reducible refine (spec_l05On.calls _ _ x3_1 x6_11 1 _ _ t338 t305 t343 t344 t345 t348 t349 t350 t351 _ ?side1 ?side2 A31.out).mono ?_); (case side1 => repeat (first | exact (Kd.N_reads' HO_3.out).2.2 | (with_reducible refine Kd.C_alloc ?_ _) | (with_reducible refine Kd.C_drewN ?_ _) | (with_reducible refine Kd.C_drew ?_))); (case side2 => exact (Kd.N_reads' HO_3.out).2.1); rintro e w36 ⟨rfl, rfl, hb⟩; refine ⟨_, rfl, ?_⟩; have n0_ := Aside0.mk (Kd.N_below (by (with_reducible repeat (first | apply Kd.N_alloc | apply Kd.N_drewN | apply Kd.N_drew)); exact HO_3.out) hb); have n1_ := Aside0.mk (Kd.R_below (by (with_reducible repeat (first | apply Kd.R_alloc | apply Kd.R_drewN | apply Kd.R_drew)); exact HO340.out) hb); have n2_ := trivial; have n3_ := Aside0.mk (IsS61.below (by repeat (first | (with_reducible first | exact HI0.out | apply IsS61.alloc | apply IsS61.drewN | apply IsS61.drew | apply IsS61.set_1 | apply IsS61.set_2) | exact HI0.out)) hb); have n4_ := Aside0.mk (KeepBut.trans (by repeat (first | (with_reducible first | exact HK.out | apply KeepBut.set_ | apply keep_drewN | apply keep_drew | apply keep_alloc) | exact HK.out)) (KeepBut.of_below hb g none) (.inl rfl)); have n5_ := Aside0.mk (below_step (by repeat (first | (with_reducible first | exact HB.out | apply below_alloc | apply pw_below_drewN | apply below_drew1 | refine below_set ?_ (IsS61.ge HI0.out)) | exact HB.out)) hb); clear HO_3; clear HO340; clear HI0; clear HK; clear HB; have HO_3 := n0_; have HO340 := n1_; have HO347 := n2_; have HI0 := n3_; have HK := n4_; have HB := n5_; clear n0_ n1_ n2_ n3_ n4_ n5_; (try clear hb); (try clear hb2); (try clear hk); (try clear hi); (try clear ho0)) | ((with_reducible refine gate_callee (f := 39) rfl ?_); refine goesL_ (some 40) rfl rfl Try.func39 (by kernel_rfl) rfl #[.slice Ao14 x3_1.length co14, .agg #[.int .i64 t343, .int .i64 t344, .slice Ao35 t338.length co35, .int .i64 t348, .int .i64 t349, .int .i64 t350, .int .i64 t351]] rfl (by (try simp only [List.map_toArray, List.map_cons, List.map_nil]); first | done | rfl | (simp only [List.length_drop, List.length_take]; rfl)) ?_; (with_reducible refine (spec_PutBlock.calls kj11 _ _ x3_1 t343 t344 _ _ t338 t348 t349 t350 t351 t352 t355 _ ?side1 ?side2 ?side3 ?side4 A32.out).mono ?_); (case side1 => repeat (first | exact (Kd.N_reads' HO_3.out).2.2 | (with_reducible refine Kd.C_alloc ?_ _) | (with_reducible refine Kd.C_drewN ?_ _) | (with_reducible refine Kd.C_drew ?_))); (case side2 => exact (Kd.N_reads' HO_3.out).2.1); (case side3 => repeat (first | exact (Kd.R_reads' HO340.out).2.2 | (with_reducible refine Kd.C_alloc ?_ _) | (with_reducible refine Kd.C_drewN ?_ _) | (with_reducible refine Kd.C_drew ?_))); (case side4 => exact (Kd.R_reads' HO340.out).2.1); rintro e w38 ⟨v353, rfl, ho0, hb⟩; refine ⟨_, rfl, ?_⟩; have n0_ := Aside0.mk (Kd.N_elder' (by (with_reducible repeat (first | apply Kd.N_alloc | apply Kd.N_drewN | apply Kd.N_drew)); exact HO_3.out) (Kd.N_base (Kd.S_N (Kd.S_bound ho0))) hb); have n1_ := Aside0.mk (Kd.R_below (by (with_reducible repeat (first | apply Kd.R_alloc | apply Kd.R_drewN | apply Kd.R_drew)); exact HO340.out) hb); have n2_ := trivial; have n3_ := Aside0.mk (Kd.N_lower (Kd.N_mono (ok' := fun k_ => (w.heap.size ≤ k_) ∧ some k_ ≠ (.slice Ao14 x3_1.length co14 : Value).ownBlock ∧ some k_ ≠ (.slice Ao35 t338.length co35 : Value).ownBlock ∧ k_ ≠ g) (Kd.S_N (Kd.S_bound ho0)) (fun k_ hk_ => ⟨(Nat.le_trans (keep_size (w := w) (g := g) (row := none) (by repeat (first | (with_reducible first | exact HK.out | apply KeepBut.set_ | apply keep_drewN | apply keep_drew | apply keep_alloc) | exact HK.out))) hk_.2.1), (Kd.fresh' (Kd.N_lt (by (with_reducible repeat (first | apply Kd.N_alloc | apply Kd.N_drewN | apply Kd.N_drew)); exact HO_3.out)) k_ hk_.2.1), (Kd.fresh' (Kd.R_lt (by (with_reducible repeat (first | apply Kd.R_alloc | apply Kd.R_drewN | apply Kd.R_drew)); exact HO340.out)) k_ hk_.2.1), (IsS61.fresh (by repeat (first | (with_reducible first | exact HI0.out | apply IsS61.alloc | apply IsS61.drewN | apply IsS61.drew | apply IsS61.set_1 | apply IsS61.set_2) | exact HI0.out)) k_ hk_.2.1)⟩)) (keep_size (w := w) (g := g) (row := none) (by repeat (first | (with_reducible first | exact HK.out | apply KeepBut.set_ | apply keep_drewN | apply keep_drew | apply keep_alloc) | exact HK.out)))); have n4_ := Aside0.mk (IsS61.below (by repeat (first | (with_reducible first | exact HI0.out | apply IsS61.alloc | apply IsS61.drewN | apply IsS61.drew | apply IsS61.set_1 | apply IsS61.set_2) | exact HI0.out)) hb); have n5_ := Aside0.mk (KeepBut.trans (by repeat (first | (with_reducible first | exact HK.out | apply KeepBut.set_ | apply keep_drewN | apply keep_drew | apply keep_alloc) | exact HK.out)) (KeepBut.of_below hb g none) (.inl rfl)); have n6_ := Aside0.mk (below_step (by repeat (first | (with_reducible first | exact HB.out | apply below_alloc | apply pw_below_drewN | apply below_drew1 | refine below_set ?_ (IsS61.ge HI0.out)) | exact HB.out)) hb); clear HO_3; clear HO340; clear HO347; clear HI0; clear HK; clear HB; have HO_3 := n0_; have HO340 := n1_; have HO347 := n2_; have HO354 := n3_; have HI0 := n4_; have HK := n5_; have HB := n6_; clear n0_ n1_ n2_ n3_ n4_ n5_ n6_; (try clear hb); (try clear hb2); (try clear hk); (try clear hi); (try clear ho0)))
              go_roundg kj11
              case measure => have := HK1.out; have := HJ11.out; omega
              case rel => exact ⟨(t352), (wrap64 (x5_1 + 1)), (t341), (t342), (by first | rfl | (simp; done) | (simp [*]; done)), H', ⟨by have := HK1.out; have := HJ11.out; omega⟩, ⟨by (with_reducible repeat (first | apply Kd.N_alloc | apply Kd.N_drewN | apply Kd.N_drew)); exact Kd.N_mono HO354.out (fun _ hk => ⟨hk.1, hk.2.2.2⟩)⟩, ⟨by repeat (first | (with_reducible first | exact HI0.out | apply IsS61.alloc | apply IsS61.drewN | apply IsS61.drew | apply IsS61.set_1 | apply IsS61.set_2) | exact HI0.out)⟩, ⟨by repeat (first | (with_reducible first | exact HK.out | apply KeepBut.set_ | apply keep_drewN | apply keep_drew | apply keep_alloc) | exact HK.out)⟩, ⟨by repeat (first | (with_reducible first | exact HB.out | apply below_alloc | apply pw_below_drewN | apply below_drew1 | refine below_set ?_ (IsS61.ge HI0.out)) | exact HB.out)⟩⟩
      · rw [if_neg c10] at H
        have c10b0 : decide (x5_1 < t308) = false := decide_eq_false c10
        clear c10
        simp only [Option.some.injEq, Prod.mk.injEq] at H
        obtain ⟨rfl, rfl, rfl⟩ := H
        go_wp2_with (first | ((with_reducible refine gate_callee (f := 27) rfl ?_); refine goesL_ (some 15) rfl rfl Try.func27 (by kernel_rfl) rfl #[.pointer (some ⟨g, 0, none⟩), .int .i64 9] rfl (by (try simp only [List.map_toArray, List.map_cons, List.map_nil]); first | done | rfl | (simp only [List.length_drop, List.length_take]; rfl)) ?_; (with_reducible refine (spec_l01Below.calls g s0_0 x1001_1 x1002_1 9 t308 t309 t310 w0 _ ?side1 ?side2 A9.out).mono ?_); (case side1 => repeat (first | (with_reducible first | exact HI0.out | apply IsS61.alloc | apply IsS61.drewN | apply IsS61.drew | apply IsS61.set_1 | apply IsS61.set_2) | exact HI0.out)); (case side2 => repeat (first | (with_reducible first | exact HB.out | apply below_alloc | apply pw_below_drewN | apply below_drew1 | refine below_set ?_ (IsS61.ge HI0.out)) | exact HB.out)); rintro e w39 ⟨rfl, hi, hb, hk⟩; refine ⟨_, rfl, ?_⟩; have n0_ := Aside0.mk (Kd.N_mono (Kd.N_keep (Kd.N_mono (ok := fun k_ => (((w.heap.size ≤ k_)) ∧ k_ ≠ g)) (by (with_reducible repeat (first | apply Kd.N_alloc | apply Kd.N_drewN | apply Kd.N_drew)); exact HO_3.out) (fun k_ hk_ => (⟨hk_, hk_.2⟩ : _ ∧ k_ ≠ g))) hk (fun _ h => h.2)) (fun _ h => h.1)); have n1_ := Aside0.mk (KeepBut.trans (by repeat (first | (with_reducible first | exact HK.out | apply KeepBut.set_ | apply keep_drewN | apply keep_drew | apply keep_alloc) | exact HK.out)) hk (.inl rfl)); have n2_ := Aside0.mk (hb); have n3_ := Aside0.mk (hi); clear HO_3; clear HK; clear HB; clear HI0; have HO_3 := n0_; have HK := n1_; have HB := n2_; have HI0 := n3_; clear n0_ n1_ n2_ n3_; (try clear hb); (try clear hb2); (try clear hk); (try clear hi)))
        go_ret
        exact ⟨_, by first | rfl | (simp [errW_none, errW_some] <;> rfl) | (simp [*, errW_none, errW_some] <;> rfl), by (with_reducible repeat (first | apply Kd.N_alloc | apply Kd.N_drewN | apply Kd.N_drew)); exact Kd.N_mono HO_3.out (fun _ hk => hk.1), by repeat (first | (with_reducible first | exact HI0.out | apply IsS61.alloc | apply IsS61.drewN | apply IsS61.drew | apply IsS61.set_1 | apply IsS61.set_2) | exact HI0.out), by repeat (first | (with_reducible first | exact HB.out | apply below_alloc | apply pw_below_drewN | apply below_drew1 | refine below_set ?_ (IsS61.ge HI0.out)) | exact HB.out), by repeat (first | (with_reducible first | exact HK.out | apply KeepBut.set_ | apply keep_drewN | apply keep_drew | apply keep_alloc) | exact HK.out)⟩

end Go.Proofs.Ytjbbdjdbffaidaa.QFnStandsTold
