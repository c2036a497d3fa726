/- The law FnTurned of the given program is walked over the contracts of what it calls. Conditions: what reading tells of the argument, and the plain answers named in the statement. -/
import Derived.Test.YtgglelndefbdkaaQFnTurnedx1
import Derived.Test.YtgglelndefbdkaaQFnTurnedx2
import Derived.StillTailTactics
import Derived.Lib.ConvBytes
import Derived.Laws.IdiomStrings
set_option linter.unusedVariables false
set_option linter.unusedSimpArgs false
namespace Go.Proofs.Ytgglelndefbdkaa.QFnTurned
open Go.RowKit Go.Proofs.YtgglelndefbdkaaW.PrintWords Go.Proofs.YtgglelndefbdkaaW.PrintLast Go.Proofs.YtgglelndefbdkaaW.PrintMore
/-- The place of the byte that is another. -/
def place (t : ByteArray) (p : List Int) : Nat := (Int.tmod (rd p 0) (t.size : Int)).toNat
/-- What the byte is then. -/
def newb (t : ByteArray) (p : List Int) : Int := Go.bits .xor .u8 (bt t (place t p : Int)) (wrap64 (1 + (rd p 1).tmod 255) % 256)
def turn (t : ByteArray) (i : Nat) (v : Int) : ByteArray := ⟨(t.data.toList.set i (UInt8.ofNat v.toNat)).toArray⟩
theorem bits_u8_range (op : BinOp) (x y : Int) : 0 ≤ Go.bits op .u8 x y ∧ Go.bits op .u8 x y ≤ 255 := by
  unfold Go.bits
  rw [IntKind.wrap_u8]
  omega
theorem back (W : World) (g : Nat) (t : ByteArray) (i : Nat) (hi : i < t.size) (v : Int) (hv : 0 ≤ v ∧ v ≤ 255) (cap : Nat) (hc : ∀ (j : Nat), j < t.size → W.cell? ⟨g, j, none⟩ = some (.int .u8 (bt t (j : Int)))) :
    (convert 25 9 (.slice (some ⟨g, 0, none⟩) t.size cap)).run Try.prog (W.setCell ⟨g, i, none⟩ (.int .u8 v)) = .ok (.string (turn t i v)) (W.setCell ⟨g, i, none⟩ (.int .u8 v)) := by
  have hl : (t.data.toList.set i (UInt8.ofNat v.toNat)).length = t.size := by rw [List.length_set]; exact data_length t
  have h := run_convert_bytes_back (P := Try.prog) (W.setCell ⟨g, i, none⟩ (.int .u8 v)) 25 9 5 ⟨g, 0, none⟩ cap (t.data.toList.set i (UInt8.ofNat v.toNat)) Try.underlying25 Try.underlying5 Try.underlying9 (fun j hj => by
    have hj2 : j < t.size := hl ▸ hj
    rw [add_plain]
    by_cases e : j = i
    · subst e
      rw [World.cell?_setCell_same _ _ _ (hc j hj2), List.getElem_set_self]
      have : ((UInt8.ofNat v.toNat).toNat : Int) = v := by
        rw [UInt8.toNat_ofNat']
        omega
      rw [this]
    · rw [World.cell?_setCell_other _ _ _ _ (by intro q; injection q with _ q _; exact e q.symm), hc j hj2, List.getElem_set_ne (fun q => e q.symm)]
      have h' : j < t.data.toList.length := by rw [data_length]; exact hj2
      rw [← rd_bytesOf]
      simp [rd, bytesOf, List.getD_eq_getElem?_getD, List.getElem?_eq_getElem h'])
  rw [hl] at h
  exact h
theorem bytesWorld_bt (w : World) (e : TypeId) (s : ByteArray) (j : Nat) (hj : j < s.size) : (Lib.bytesWorld w e s).cell? ⟨w.heap.size, j, none⟩ = some (.int .u8 (bt s (j : Int))) := by
  rw [Lib.bytesWorld_cell w e s j hj]
  have h' : j < s.data.toList.length := by rw [data_length]; exact hj
  rw [← rd_bytesOf]
  simp [rd, bytesOf, List.getD_eq_getElem?_getD, List.getElem?_eq_getElem h']
theorem bytesWorld_frozen (w : World) (e : TypeId) (s : ByteArray) (j : Nat) (hj : j < s.size) : (Lib.bytesWorld w e s).frozen? ⟨w.heap.size, j, none⟩ = false := by
  have hsz : j < (Lib.bytesCells w e s).size := by
    simp [Lib.bytesCells]
    have : s.data.size = s.size := rfl
    omega
  simp [World.frozen?, Lib.bytesWorld_at_new]
  omega
theorem wrap_idW {x : Int} (h0 : -9223372036854775808 ≤ x) (h1 : x ≤ 9223372036854775807) : wrap64 x = x := by
  unfold wrap64
  omega
set_option maxHeartbeats 8000000 in
set_option maxRecDepth 100000 in
theorem walk (k : Nat) (A0 : Option Addr) (c0 : Nat) (l0 : List Int) (w : World) (hr0 : Kd.C (Kd.int .u8) w A0 l0.length l0) (hc0 : l0.length ≤ c0)
    (s t : ByteArray) (p : List Int) (h1 : laws_big.f l0 = some false) (h2 : spec_DrawSumOf.f k l0 = some s) (h3 : spec_DrawPlaces.f k l0 = some p) (hp : p.length = 12) (p0 : 0 ≤ rd p 0) (p1 : 0 ≤ rd p 1)
    (h4 : impl_Sealed.f k s = some (t, true)) (h5 : impl_Unsealed.f k t = some (s, true)) (hz : t.size = s.size + 4) (hs : s.size ≤ 140737488351232)
    (u : ByteArray) (x y : Int) (h6 : impl_Unsealed.f k (turn t (place t p) (newb t p)) = some (u, false)) (h7 : impl_SumOf.f k s = some x) (h8 : impl_SumMore.f k x (⟨#[120]⟩ : ByteArray) = some y) (h9 : impl_SumOf.f k (s ++ (⟨#[120]⟩ : ByteArray)) = some y) :
    Calls Try.prog 4 #[.slice A0 l0.length c0] w fun e w' => e = .returned (.bool true) ∧ Below w.heap.size w w' := by
  have HR0 := Aside0.mk hr0
  have HC0 := Aside0.mk hc0
  have A1 := Aside0.mk h1
  have A2 := Aside0.mk h2
  have A3 := Aside0.mk h3
  have A4 := Aside0.mk h4
  have A5 := Aside0.mk h5
  have A6 := Aside0.mk h6
  have A7 := Aside0.mk h7
  have A8 := Aside0.mk h8
  have A9 := Aside0.mk h9
  clear h6 h7 h8 h9
  have HP := Aside0.mk hp
  have HZ := Aside0.mk hz
  have HS := Aside0.mk hs
  have P0 := Aside0.mk p0
  have P1 := Aside0.mk p1
  clear hr0 hc0 h1 h2 h3 h4 h5 hp hz hs p0 p1
  have HB := Aside0.mk (Below.refl w.heap.size w)
  have e1 : (s.toList != s.toList) = false := bne_self_eq_false _
  have e2 : ((t.size : Int) != wrap64 ((s.size : Int) + 4)) = false := by
    have := HZ.out
    have := HS.out
    rw [Go.Proofs.Ytgglelndefbdkaa.QFnTurned.wrap_idW (by omega) (by omega)]
    simp
    omega
  have ht0 : ¬ t = ByteArray.empty := by
    rintro rfl
    have := HZ.out
    simp at this
  have ht1 : ¬ (t.size : Int) = 0 := by
    have := HZ.out
    omega
  have kb := fun W => print_bytes (P := Try.prog) 9 25 5 Try.underlying9 Try.underlying25 Try.underlying5 t W
  go_enter Try.func4, Try.ntmps4
  go_wp2_with (first | ((with_reducible refine gate_callee (f := 7) rfl ?_); refine goesL_ (some 14) rfl rfl Try.func7 (by kernel_rfl) rfl #[.slice A0 l0.length c0] rfl (by (try simp only [List.map_toArray, List.map_cons, List.map_nil]); first | done | rfl | (simp only [List.length_drop, List.length_take]; rfl)) ?_; (with_reducible refine (laws_big.calls _ _ l0 false _ ?side1 ?side2 A1.out).mono ?_); (case side1 => repeat (first | exact HR0.out | exact (Kd.C_below HR0.out HB.out) | (with_reducible refine Kd.C_alloc ?_ _) | (with_reducible refine Kd.C_drewN ?_ _) | (with_reducible refine Kd.C_drew ?_))); (case side2 => exact HC0.out); rintro e w' ⟨rfl, ⟨nd, rfl⟩⟩; refine ⟨_, rfl, ?_⟩) | ((with_reducible refine gate_callee (f := 8) rfl ?_); refine goesL_ (some 16) rfl rfl Try.func8 (by kernel_rfl) rfl #[.slice A0 l0.length c0] rfl (by (try simp only [List.map_toArray, List.map_cons, List.map_nil]); first | done | rfl | (simp only [List.length_drop, List.length_take]; rfl)) ?_; (with_reducible refine (spec_DrawSumOf.calls k _ _ l0 s _ ?side1 ?side2 A2.out).mono ?_); (case side1 => repeat (first | exact HR0.out | exact (Kd.C_below HR0.out HB.out) | (with_reducible refine Kd.C_alloc ?_ _) | (with_reducible refine Kd.C_drewN ?_ _) | (with_reducible refine Kd.C_drew ?_))); (case side2 => exact HC0.out); rintro e w1 ⟨rfl, hb⟩; refine ⟨_, rfl, ?_⟩; have n0_ := Aside0.mk (below_step (by repeat (first | (with_reducible first | exact HB.out | apply below_alloc | apply pw_below_drewN | apply below_drew1) | exact HB.out)) hb); clear HB; have HB := n0_; clear n0_ hb) | ((with_reducible refine gate_callee (f := 9) rfl ?_); refine goesL_ (some 18) rfl rfl Try.func9 (by kernel_rfl) rfl #[.slice A0 l0.length c0] rfl (by (try simp only [List.map_toArray, List.map_cons, List.map_nil]); first | done | rfl | (simp only [List.length_drop, List.length_take]; rfl)) ?_; (with_reducible refine (spec_DrawPlaces.calls k _ _ l0 p _ ?side1 ?side2 A3.out).mono ?_); (case side1 => repeat (first | exact HR0.out | exact (Kd.C_below HR0.out HB.out) | (with_reducible refine Kd.C_alloc ?_ _) | (with_reducible refine Kd.C_drewN ?_ _) | (with_reducible refine Kd.C_drew ?_))); (case side2 => exact HC0.out); rintro e w2 ⟨v0, rfl, ho, hb⟩; refine ⟨_, rfl, ?_⟩; have HO := Aside0.mk (Kd.R_lower ho (below_size (by repeat (first | (with_reducible first | exact HB.out | apply below_alloc | apply pw_below_drewN | apply below_drew1) | exact HB.out)))); clear ho; have n0_ := Aside0.mk (below_step (by repeat (first | (with_reducible first | exact HB.out | apply below_alloc | apply pw_below_drewN | apply below_drew1) | exact HB.out)) hb); clear HB; have HB := n0_; clear n0_ hb; obtain ⟨Ap, cp, ep⟩ := Kd.R_slice HO.out; subst ep) | ((with_reducible refine gate_callee (f := 10) rfl ?_); refine goesL_ (some 21) rfl rfl Try.func10 (by kernel_rfl) rfl #[.string s] rfl (by (try simp only [List.map_toArray, List.map_cons, List.map_nil]); first | done | rfl | (simp only [List.length_drop, List.length_take]; rfl)) ?_; (with_reducible refine (impl_Sealed.calls k s t true _ A4.out).mono ?_); rintro e w3 ⟨rfl, hb⟩; refine ⟨_, rfl, ?_⟩; have n1_ := Aside0.mk (Kd.R_below (by (with_reducible repeat (first | apply Kd.R_alloc | apply Kd.R_drewN | apply Kd.R_drew)); exact HO.out) hb); clear HO; have HO := n1_; clear n1_; have n0_ := Aside0.mk (below_step (by repeat (first | (with_reducible first | exact HB.out | apply below_alloc | apply pw_below_drewN | apply below_drew1) | exact HB.out)) hb); clear HB; have HB := n0_; clear n0_ hb) | ((with_reducible refine gate_callee (f := 11) rfl ?_); refine goesL_ (some 26) rfl rfl Try.func11 (by kernel_rfl) rfl #[.string t] rfl (by (try simp only [List.map_toArray, List.map_cons, List.map_nil]); first | done | rfl | (simp only [List.length_drop, List.length_take]; rfl)) ?_; (with_reducible refine (impl_Unsealed.calls k t s true _ A5.out).mono ?_); rintro e w4 ⟨rfl, hb⟩; refine ⟨_, rfl, ?_⟩; have n1_ := Aside0.mk (Kd.R_below (by (with_reducible repeat (first | apply Kd.R_alloc | apply Kd.R_drewN | apply Kd.R_drew)); exact HO.out) hb); clear HO; have HO := n1_; clear n1_; have n0_ := Aside0.mk (below_step (by repeat (first | (with_reducible first | exact HB.out | apply below_alloc | apply pw_below_drewN | apply below_drew1) | exact HB.out)) hb); clear HB; have HB := n0_; clear n0_ hb; have hbw := bytes_below (Below.refl w4.heap.size w4) (Nat.le_refl _) 5 t; have kb4 := kb w4; have hcell := fun (j : Nat) (hj : j < t.size) => bytesWorld_bt w4 5 t j hj; have hfroz := fun (j : Nat) (hj : j < t.size) => bytesWorld_frozen w4 5 t j hj; obtain ⟨W5, hW5⟩ : ∃ W5 : World, W5 = Lib.bytesWorld w4 5 t := ⟨_, rfl⟩; rw [← hW5] at hbw kb4 hcell hfroz; clear hW5 kb; have n0_ := Aside0.mk (Kd.R_below HO.out hbw); clear HO; have HO := n0_; clear n0_; have n0_ := Aside0.mk (below_step HB.out hbw); have HG := Aside0.mk (below_size HB.out); clear HB; have HB := n0_; clear n0_ hbw; have HCELL := Aside0.mk hcell; have HFROZ := Aside0.mk hfroz; clear hcell hfroz; obtain ⟨ad, ea, hc0⟩ := Kd.at_int (Kd.R_reads' HO.out).2.2 0 (by decide) (by have := HP.out; omega); cases ea; obtain ⟨ad', ea, hc1⟩ := Kd.at_int (Kd.R_reads' HO.out).2.2 1 (by decide) (by have := HP.out; omega); cases ea; rw [show ((0 : Int)).toNat = 0 from rfl, Addr.add_zero'] at hc0; rw [show ((1 : Int)).toNat = 1 from rfl] at hc1; have hc2 := hc1; simp only [Nat.reduceMul, Nat.reduceEqDiff, Go.Addr.add, ↓reduceIte, Nat.one_ne_zero] at hc2; have hq0 : 0 < p.length := (by have := HP.out; omega); have hq1 : 1 < p.length := (by have := HP.out; omega)))
  obtain ⟨i, hi, hil⟩ : ∃ i : Nat, Int.tmod (rd p 0) (t.size : Int) = (i : Int) ∧ i < t.size := by
    have h0 := P0.out
    have hpos : (0 : Int) < (t.size : Int) := by omega
    have a0 := Int.emod_nonneg (rd p 0) ht1
    have a1 := Int.emod_lt_of_pos (rd p 0) hpos
    rw [Int.tmod_eq_emod_of_nonneg h0]
    exact ⟨(rd p 0 % (t.size : Int)).toNat, by omega, by omega⟩
  have HPL : Aside0 (place t p = i) := ⟨by unfold place; rw [hi]; rfl⟩
  simp only [hi]
  have hx0 := HCELL.out i hil
  have hf0 := HFROZ.out i hil
  have hi0 : (0 : Int) ≤ (i : Int) := by omega
  have hi1 : (i : Int) < (t.size : Int) := by omega
  clear hi
  have hx1 : W5.drew.cell? ⟨w4.heap.size, i, none⟩ = some (.int .u8 (bt t (i : Int))) := hx0
  have hf1 : W5.drew.frozen? ⟨w4.heap.size, i, none⟩ = false := hf0
  have hc3 : W5.drew.cell? ⟨ad.block, ad.off + 1, none⟩ = some (.int .i64 (rd p 1)) := hc2
  have hc4 : W5.drew.cell? (ad.add 1) = some (.int .i64 (rd p 1)) := hc1
  have n0_ := Aside0.mk (below_drew1 HB.out)
  have HCELL2 := Aside0.mk (show ∀ (j : Nat), j < t.size → W5.drew.cell? ⟨w4.heap.size, j, none⟩ = some (.int .u8 (bt t (j : Int))) from HCELL.out)
  clear HB hx0 hf0 hc0 hc1 hc2 HO HCELL HFROZ
  have HB := n0_
  clear n0_
  refine wp_region_still_tail 14 (by kernel_rfl) (by kernel_rfl) ?_
  change wpStill Try.prog _ W5.drew (fun a' => wpList Try.prog _ _ _ a' W5.drew) _ _
  generalize W5.drew = W6 at hx1 hf1 hc3 hc4 HB HCELL2 ⊢
  simp only [List.take_succ_cons, List.take_zero, List.drop_succ_cons, List.drop_zero]
  have hq2 : (1 : Int) < (p.length : Int) := by omega
  have hq3 : decide ((1 : Int) < (p.length : Int)) = true := decide_eq_true hq2
  have hq4 : ¬ (p.length : Int) ≤ 1 := by omega
  have hq5 : ¬ p.length ≤ 1 := by omega
  repeat still_step
  try refine wpStill_nil ?_
  go_wp2
  have hvd : Go.bits .xor .u8 (bt t (i : Int)) (wrap64 (1 + (rd p 1).tmod 255) % 256) = newb t p := by
    unfold newb
    rw [HPL.out]
  have hv := bits_u8_range .xor (bt t (i : Int)) (wrap64 (1 + (rd p 1).tmod 255) % 256)
  rw [hvd] at hv
  have kb2 := back W6 w4.heap.size t i hil (newb t p) hv (grownCap w4 t.size 0 5) HCELL2.out
  have A6b := A6.out
  rw [HPL.out] at A6b
  rw [hvd]
  clear A6
  have A6 := Aside0.mk A6b
  clear A6b hvd hv
  have n0_ : Aside0 (Below w.heap.size w (W6.setCell ⟨w4.heap.size, i, none⟩ (.int .u8 (newb t p)))) := ⟨below_set HB.out HG.out⟩
  clear HB HCELL2 hx1 hf1 hc3 hc4
  generalize W6.setCell ⟨w4.heap.size, i, none⟩ (.int .u8 (newb t p)) = W7 at n0_ kb2 ⊢
  generalize turn t i (newb t p) = tb at kb2 A6
  have HB := n0_
  clear n0_
  have hs1 : (s.size + (⟨#[120]⟩ : ByteArray).size ≤ 9223372036854775807) = True := eq_true (by have := HS.out; have e : (⟨#[120]⟩ : ByteArray).size = 1 := rfl; omega)
  have hs2 : s.size + 1 ≤ 9223372036854775807 := by have := HS.out; omega
  rw [kb2]
  go_wp2_with (first | ((with_reducible refine gate_callee (f := 11) rfl ?_); refine goesL_ (some 73) rfl rfl Try.func11 (by kernel_rfl) rfl #[.string tb] rfl (by (try simp only [List.map_toArray, List.map_cons, List.map_nil]); first | done | rfl | (simp only [List.length_drop, List.length_take]; rfl)) ?_; (with_reducible refine (impl_Unsealed.calls k tb u false _ A6.out).mono ?_); rintro e w5 ⟨rfl, hb⟩; refine ⟨_, rfl, ?_⟩; have n0_ := Aside0.mk (below_step (by repeat (first | (with_reducible first | exact HB.out | apply below_alloc | apply pw_below_drewN | apply below_drew1) | exact HB.out)) hb); clear HB; have HB := n0_; clear n0_ hb) | ((with_reducible refine (impl_SumOf.calls k s x _ A7.out).mono ?_); rintro e w' ⟨rfl, ⟨nd, rfl⟩⟩) | ((with_reducible refine (impl_SumMore.calls k x (⟨#[120]⟩ : ByteArray) y _ A8.out).mono ?_); rintro e w' ⟨rfl, ⟨nd, rfl⟩⟩) | ((with_reducible refine (impl_SumOf.calls k (s ++ (⟨#[120]⟩ : ByteArray)) y _ A9.out).mono ?_); rintro e w' ⟨rfl, ⟨nd, rfl⟩⟩))
  go_ret
  exact ⟨rfl, by repeat (first | (with_reducible first | exact HB.out | apply below_alloc | apply pw_below_drewN | apply below_drew1) | exact HB.out)⟩
set_option maxHeartbeats 8000000 in
set_option maxRecDepth 100000 in
theorem walk_big (A0 : Option Addr) (c0 : Nat) (l0 : List Int) (w : World) (hr0 : Kd.C (Kd.int .u8) w A0 l0.length l0) (hc0 : l0.length ≤ c0) (h1 : laws_big.f l0 = some true) :
    Calls Try.prog 4 #[.slice A0 l0.length c0] w fun e w' => e = .returned (.bool true) ∧ Below w.heap.size w w' := by
  have HR0 := Aside0.mk hr0
  have HC0 := Aside0.mk hc0
  have A1 := Aside0.mk h1
  clear hr0 hc0 h1
  have HB := Aside0.mk (Below.refl w.heap.size w)
  go_enter Try.func4, Try.ntmps4
  go_wp2_with (first | ((with_reducible refine gate_callee (f := 7) rfl ?_); refine goesL_ (some 14) rfl rfl Try.func7 (by kernel_rfl) rfl #[.slice A0 l0.length c0] rfl (by (try simp only [List.map_toArray, List.map_cons, List.map_nil]); first | done | rfl | (simp only [List.length_drop, List.length_take]; rfl)) ?_; (with_reducible refine (laws_big.calls _ _ l0 true _ ?side1 ?side2 A1.out).mono ?_); (case side1 => repeat (first | exact HR0.out | exact (Kd.C_below HR0.out HB.out) | (with_reducible refine Kd.C_alloc ?_ _) | (with_reducible refine Kd.C_drewN ?_ _) | (with_reducible refine Kd.C_drew ?_))); (case side2 => exact HC0.out); rintro e w' ⟨rfl, ⟨nd, rfl⟩⟩; refine ⟨_, rfl, ?_⟩))
  go_ret
  exact ⟨rfl, by repeat (first | (with_reducible first | exact HB.out | apply below_alloc | apply pw_below_drewN | apply below_drew1) | exact HB.out)⟩
/-- What the plain half tells. -/
def laws_FnTurned.Told (k : Nat) (l0 : List Int) : Prop := laws_big.f l0 = some true ∨ laws_big.f l0 = some false ∧ ∃ (s t : ByteArray) (p : List Int) (u : ByteArray) (x y : Int), spec_DrawSumOf.f k l0 = some s ∧ spec_DrawPlaces.f k l0 = some p ∧ p.length = 12 ∧ 0 ≤ rd p 0 ∧ 0 ≤ rd p 1 ∧
  impl_Sealed.f k s = some (t, true) ∧ impl_Unsealed.f k t = some (s, true) ∧ t.size = s.size + 4 ∧ s.size ≤ 140737488351232 ∧ impl_Unsealed.f k (turn t (place t p) (newb t p)) = some (u, false) ∧
  impl_SumOf.f k s = some x ∧ impl_SumMore.f k x (⟨#[120]⟩ : ByteArray) = some y ∧ impl_SumOf.f k (s ++ (⟨#[120]⟩ : ByteArray)) = some y
theorem laws_FnTurned.told (k : Nat) (A0 : Option Addr) (c0 : Nat) (l0 : List Int) (w : World) (hr0 : Kd.C (Kd.int .u8) w A0 l0.length l0) (hc0 : l0.length ≤ c0) (h : laws_FnTurned.Told k l0) :
    Calls Try.prog 4 #[.slice A0 l0.length c0] w fun e w' => e = .returned (.bool true) ∧ Below w.heap.size w w' := by
  rcases h with h | ⟨h1, s, t, p, u, x, y, h2, h3, hp, p0, p1, h4, h5, hz, hs, h6, h7, h8, h9⟩
  · exact walk_big A0 c0 l0 w hr0 hc0 h
  · exact walk k A0 c0 l0 w hr0 hc0 s t p h1 h2 h3 hp p0 p1 h4 h5 hz hs u x y h6 h7 h8 h9
end Go.Proofs.Ytgglelndefbdkaa.QFnTurned
