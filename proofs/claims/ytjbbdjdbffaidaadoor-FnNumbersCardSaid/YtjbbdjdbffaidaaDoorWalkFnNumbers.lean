/- The law FnNumbers of the given program is walked. Conditions: the table of powers of ten and the two errors read as the program's text lays them; what the law's own calls answer. -/
import Derived.Test.YtjbbdjdbffaidaaDoorQFnNumbersx
import Derived.Test.YtjbbdjdbffaidaaDoorWalkReadDecimal
namespace Go.Proofs.YtjbbdjdbffaidaaDoor.WalkFnNumbers
open Go.RowKit Go.Proofs.YtjbbdjdbffaidaaDoor.QFnNumbers Go.Proofs.YtjbbdjdbffaidaaDoorW.PrintWords Go.Proofs.YtjbbdjdbffaidaaDoorW.PrintLast Go.Proofs.YtjbbdjdbffaidaaDoorW.PrintMore Go.Proofs.YtjbbdjdbffaidaaDoor.WalkDecimal Go.Proofs.YtjbbdjdbffaidaaDoor.WalkReadDecimal
set_option linter.unusedVariables false
set_option maxHeartbeats 8000000 in
set_option maxRecDepth 100000 in
theorem walk_loLong (k : Nat) (A0 : Option Addr) (c0 : Nat) (l0 : List Int) (w : World) (hr0 : Kd.C (Kd.int .u8) w A0 l0.length l0) (hc0 : l0.length ≤ c0) (hp : Pow w) (he : Errs w)
    (n0 : Int) (s g t0 a h : ByteArray) (hq : n0 < 0) (ht : t0.size > 300) (hs : s.size ≤ 1000) (hn : 0 ≤ (12345 : Int) ∧ (12345 : Int) ≤ 1000000000) (h1 : laws_big.f l0 = some false) (h2 : spec_DrawVarText.f k l0 = some n0) (h3 : impl_VarText.f k (12345 : Int) = some (s, true)) (h4 : impl_ReadVar.f k (((⟨#[120]⟩ : ByteArray) ++ s) ++ (⟨#[121]⟩ : ByteArray)) 1 = some ((12345 : Int), (s.size : Int) + 1, true))
    (hg : numeral (12345 : Int) = g) (hl : g.size ≤ 140737488351232) (h5 : ends g = ((12345 : Int), true)) (h6 : spec_DrawHex.f k l0 = some t0) (h7 : impl_ShortText.f k (⟨#[97, 98, 99]⟩ : ByteArray) = some (a, true)) (h8 : impl_ReadShort.f k a 0 = some ((⟨#[97, 98, 99]⟩ : ByteArray), (a.size : Int), true)) (h9 : impl_Hex.f k (⟨#[97, 98, 99]⟩ : ByteArray) = some (h, true)) (h10 : impl_Unhex.f k h = some ((⟨#[97, 98, 99]⟩ : ByteArray), true)) :
    Calls Tryd.prog 6 #[.slice A0 l0.length c0] w fun e w' => e = .returned (.bool true) ∧ Below w.heap.size w w' := by
  have HR0 := Aside0.mk hr0
  have HC0 := Aside0.mk hc0
  have HP := Aside0.mk hp
  have HE := Aside0.mk he
  have HG := Aside0.mk hg
  have HL := Aside0.mk hl
  have HN := Aside0.mk hn
  have A1 := Aside0.mk h1
  have A2 := Aside0.mk h2
  have A3 := Aside0.mk h3
  have A4 := Aside0.mk h4
  have A5 := Aside0.mk h5
  have A6 := Aside0.mk h6
  have A7 := Aside0.mk h7
  have A8 := Aside0.mk h8
  have A9 := Aside0.mk h9
  have A10 := Aside0.mk h10
  have z1 : ((⟨#[120]⟩ : ByteArray) ++ s).size = 1 + s.size := by rw [ByteArray.size_append]; rfl
  have z2 : (((⟨#[120]⟩ : ByteArray) ++ s) ++ (⟨#[121]⟩ : ByteArray)).size = 1 + s.size + 1 := by rw [ByteArray.size_append, z1]; rfl
  have b1 : (9223372036854775807 < 1 + s.size) = False := eq_false (by omega)
  have b2 : (9223372036854775807 < 1 + s.size + 1) = False := eq_false (by omega)
  have b3 : wrap64 ((s.size : Int) + 1) = (s.size : Int) + 1 := by unfold wrap64; omega
  have HB := Aside0.mk (Below.refl w.heap.size w)
  have q0 : decide (n0 < 0) = true := decide_eq_true hq
  clear hq
  have r0 : decide (300 < (t0.size : Int)) = true := decide_eq_true (by omega)
  have r1 : decide (300 < t0.size) = true := decide_eq_true ht
  clear ht
  clear hr0 hc0 hp he hg hl hn hs h1 h2 h3 h4 h5 h6 h7 h8 h9 h10
  go_enter Tryd.func6, Tryd.ntmps6
  go_wp2_with (first | ((with_reducible refine gate_callee (f := 16) rfl ?_); refine goesL_ (some 22) rfl rfl Tryd.func16 (by kernel_rfl) rfl #[.slice A0 l0.length c0] rfl (by (try simp only [List.map_toArray, List.map_cons, List.map_nil]); first | done | rfl) ?_; (refine (laws_big.calls _ _ l0 false _ (Kd.C_below HR0.out HB.out) HC0.out A1.out).mono ?_); rintro e w' ⟨rfl, hd⟩; refine ⟨_, rfl, ?_⟩; have n0_ := Aside0.mk (HB.out.trans (((Drawn0.below hd)).mono HB.out.size)); clear HB; have HB := n0_; clear n0_ hd) | ((with_reducible refine gate_callee (f := 17) rfl ?_); refine goesL_ (some 24) rfl rfl Tryd.func17 (by kernel_rfl) rfl #[.slice A0 l0.length c0] rfl (by (try simp only [List.map_toArray, List.map_cons, List.map_nil]); first | done | rfl) ?_; (refine (spec_DrawVarText.calls k _ _ l0 n0 _ (Kd.C_below HR0.out HB.out) HC0.out A2.out).mono ?_); rintro e w' ⟨rfl, hd⟩; refine ⟨_, rfl, ?_⟩; have n0_ := Aside0.mk (HB.out.trans ((hd).mono HB.out.size)); clear HB; have HB := n0_; clear n0_ hd) | ((with_reducible refine gate_callee (f := 18) rfl ?_); refine goesL_ (some 33) rfl rfl Tryd.func18 (by kernel_rfl) rfl #[.int .i64 (12345 : Int)] rfl (by (try simp only [List.map_toArray, List.map_cons, List.map_nil]); first | done | rfl) ?_; (refine (impl_VarText.calls k _ s true _ A3.out).mono ?_); rintro e w' ⟨rfl, hd⟩; refine ⟨_, rfl, ?_⟩; have n0_ := Aside0.mk (HB.out.trans ((hd).mono HB.out.size)); clear HB; have HB := n0_; clear n0_ hd) | ((with_reducible refine gate_callee (f := 19) rfl ?_); refine goesL_ (some 40) rfl rfl Tryd.func19 (by kernel_rfl) rfl #[.string (((⟨#[120]⟩ : ByteArray) ++ s) ++ (⟨#[121]⟩ : ByteArray)), .int .i64 1] rfl (by (try simp only [List.map_toArray, List.map_cons, List.map_nil]); first | done | rfl) ?_; (refine (impl_ReadVar.calls k _ 1 (12345 : Int) ((s.size : Int) + 1) true _ A4.out).mono ?_); rintro e w' ⟨rfl, hd⟩; refine ⟨_, rfl, ?_⟩; have n0_ := Aside0.mk (HB.out.trans (((Drawn0.below hd)).mono HB.out.size)); clear HB; have HB := n0_; clear n0_ hd) | ((with_reducible refine gate_callee (f := 8) rfl ?_); refine goesL_ (some 46) rfl rfl Tryd.func8 (by kernel_rfl) rfl #[.int .i64 (12345 : Int)] rfl (by (try simp only [List.map_toArray, List.map_cons, List.map_nil]); first | done | rfl) ?_; (refine (impl_Decimal.calls (12345 : Int) (by have := HN.out; omega) (by have := HN.out; omega) _ (HP.out.below HB.out)).mono ?_); rw [HG.out]; rintro e w' ⟨rfl, hd⟩; refine ⟨_, rfl, ?_⟩; have n0_ := Aside0.mk (HB.out.trans (hd.mono HB.out.size)); clear HB; have HB := n0_; clear n0_ hd) | ((with_reducible refine gate_callee (f := 15) rfl ?_); refine goesL_ (some 47) rfl rfl Tryd.func15 (by kernel_rfl) rfl #[.string g] rfl (by (try simp only [List.map_toArray, List.map_cons, List.map_nil]); first | done | rfl) ?_; (refine (impl_ReadDecimal.calls g HL.out _ (HP.out.below HB.out) (HE.out.below HB.out)).mono ?_); rw [A5.out]; rintro e w' ⟨rfl, hd⟩; refine ⟨_, rfl, ?_⟩; have n0_ := Aside0.mk (HB.out.trans (hd.mono HB.out.size)); clear HB; have HB := n0_; clear n0_ hd) | ((with_reducible refine gate_callee (f := 20) rfl ?_); refine goesL_ (some 51) rfl rfl Tryd.func20 (by kernel_rfl) rfl #[.slice A0 l0.length c0] rfl (by (try simp only [List.map_toArray, List.map_cons, List.map_nil]); first | done | rfl) ?_; (refine (spec_DrawHex.calls k _ _ l0 t0 _ (Kd.C_below HR0.out HB.out) HC0.out A6.out).mono ?_); rintro e w' ⟨rfl, hd⟩; refine ⟨_, rfl, ?_⟩; have n0_ := Aside0.mk (HB.out.trans ((hd).mono HB.out.size)); clear HB; have HB := n0_; clear n0_ hd) | ((with_reducible refine gate_callee (f := 21) rfl ?_); refine goesL_ (some 57) rfl rfl Tryd.func21 (by kernel_rfl) rfl #[.string (⟨#[97, 98, 99]⟩ : ByteArray)] rfl (by (try simp only [List.map_toArray, List.map_cons, List.map_nil]); first | done | rfl) ?_; (refine (impl_ShortText.calls k _ a true _ A7.out).mono ?_); rintro e w' ⟨rfl, hd⟩; refine ⟨_, rfl, ?_⟩; have n0_ := Aside0.mk (HB.out.trans ((hd).mono HB.out.size)); clear HB; have HB := n0_; clear n0_ hd) | ((with_reducible refine gate_callee (f := 22) rfl ?_); refine goesL_ (some 62) rfl rfl Tryd.func22 (by kernel_rfl) rfl #[.string a, .int .i64 0] rfl (by (try simp only [List.map_toArray, List.map_cons, List.map_nil]); first | done | rfl) ?_; (refine (impl_ReadShort.calls k a 0 (⟨#[97, 98, 99]⟩ : ByteArray) (a.size : Int) true _ A8.out).mono ?_); rintro e w' ⟨rfl, hd⟩; refine ⟨_, rfl, ?_⟩; have n0_ := Aside0.mk (HB.out.trans (((Drawn0.below hd)).mono HB.out.size)); clear HB; have HB := n0_; clear n0_ hd) | ((with_reducible refine gate_callee (f := 23) rfl ?_); refine goesL_ (some 68) rfl rfl Tryd.func23 (by kernel_rfl) rfl #[.string (⟨#[97, 98, 99]⟩ : ByteArray)] rfl (by (try simp only [List.map_toArray, List.map_cons, List.map_nil]); first | done | rfl) ?_; (refine (impl_Hex.calls k _ h true _ A9.out).mono ?_); rintro e w' ⟨rfl, hd⟩; refine ⟨_, rfl, ?_⟩; have n0_ := Aside0.mk (HB.out.trans ((hd).mono HB.out.size)); clear HB; have HB := n0_; clear n0_ hd) | ((with_reducible refine gate_callee (f := 24) rfl ?_); refine goesL_ (some 73) rfl rfl Tryd.func24 (by kernel_rfl) rfl #[.string h] rfl (by (try simp only [List.map_toArray, List.map_cons, List.map_nil]); first | done | rfl) ?_; (refine (impl_Unhex.calls k h (⟨#[97, 98, 99]⟩ : ByteArray) true _ A10.out).mono ?_); rintro e w' ⟨rfl, hd⟩; refine ⟨_, rfl, ?_⟩; have n0_ := Aside0.mk (HB.out.trans ((hd).mono HB.out.size)); clear HB; have HB := n0_; clear n0_ hd))
  go_ret
  exact ⟨rfl, HB.out⟩
set_option maxHeartbeats 8000000 in
set_option maxRecDepth 100000 in
theorem walk_loFit (k : Nat) (A0 : Option Addr) (c0 : Nat) (l0 : List Int) (w : World) (hr0 : Kd.C (Kd.int .u8) w A0 l0.length l0) (hc0 : l0.length ≤ c0) (hp : Pow w) (he : Errs w)
    (n0 : Int) (s g t0 a h : ByteArray) (hq : n0 < 0) (ht : t0.size ≤ 300) (hs : s.size ≤ 1000) (hn : 0 ≤ (12345 : Int) ∧ (12345 : Int) ≤ 1000000000) (h1 : laws_big.f l0 = some false) (h2 : spec_DrawVarText.f k l0 = some n0) (h3 : impl_VarText.f k (12345 : Int) = some (s, true)) (h4 : impl_ReadVar.f k (((⟨#[120]⟩ : ByteArray) ++ s) ++ (⟨#[121]⟩ : ByteArray)) 1 = some ((12345 : Int), (s.size : Int) + 1, true))
    (hg : numeral (12345 : Int) = g) (hl : g.size ≤ 140737488351232) (h5 : ends g = ((12345 : Int), true)) (h6 : spec_DrawHex.f k l0 = some t0) (h7 : impl_ShortText.f k t0 = some (a, true)) (h8 : impl_ReadShort.f k a 0 = some (t0, (a.size : Int), true)) (h9 : impl_Hex.f k t0 = some (h, true)) (h10 : impl_Unhex.f k h = some (t0, true)) :
    Calls Tryd.prog 6 #[.slice A0 l0.length c0] w fun e w' => e = .returned (.bool true) ∧ Below w.heap.size w w' := by
  have HR0 := Aside0.mk hr0
  have HC0 := Aside0.mk hc0
  have HP := Aside0.mk hp
  have HE := Aside0.mk he
  have HG := Aside0.mk hg
  have HL := Aside0.mk hl
  have HN := Aside0.mk hn
  have A1 := Aside0.mk h1
  have A2 := Aside0.mk h2
  have A3 := Aside0.mk h3
  have A4 := Aside0.mk h4
  have A5 := Aside0.mk h5
  have A6 := Aside0.mk h6
  have A7 := Aside0.mk h7
  have A8 := Aside0.mk h8
  have A9 := Aside0.mk h9
  have A10 := Aside0.mk h10
  have z1 : ((⟨#[120]⟩ : ByteArray) ++ s).size = 1 + s.size := by rw [ByteArray.size_append]; rfl
  have z2 : (((⟨#[120]⟩ : ByteArray) ++ s) ++ (⟨#[121]⟩ : ByteArray)).size = 1 + s.size + 1 := by rw [ByteArray.size_append, z1]; rfl
  have b1 : (9223372036854775807 < 1 + s.size) = False := eq_false (by omega)
  have b2 : (9223372036854775807 < 1 + s.size + 1) = False := eq_false (by omega)
  have b3 : wrap64 ((s.size : Int) + 1) = (s.size : Int) + 1 := by unfold wrap64; omega
  have HB := Aside0.mk (Below.refl w.heap.size w)
  have q0 : decide (n0 < 0) = true := decide_eq_true hq
  clear hq
  have r0 : decide (300 < (t0.size : Int)) = false := decide_eq_false (by omega)
  have r1 : decide (300 < t0.size) = false := decide_eq_false (by omega)
  clear ht
  clear hr0 hc0 hp he hg hl hn hs h1 h2 h3 h4 h5 h6 h7 h8 h9 h10
  go_enter Tryd.func6, Tryd.ntmps6
  go_wp2_with (first | ((with_reducible refine gate_callee (f := 16) rfl ?_); refine goesL_ (some 22) rfl rfl Tryd.func16 (by kernel_rfl) rfl #[.slice A0 l0.length c0] rfl (by (try simp only [List.map_toArray, List.map_cons, List.map_nil]); first | done | rfl) ?_; (refine (laws_big.calls _ _ l0 false _ (Kd.C_below HR0.out HB.out) HC0.out A1.out).mono ?_); rintro e w' ⟨rfl, hd⟩; refine ⟨_, rfl, ?_⟩; have n0_ := Aside0.mk (HB.out.trans (((Drawn0.below hd)).mono HB.out.size)); clear HB; have HB := n0_; clear n0_ hd) | ((with_reducible refine gate_callee (f := 17) rfl ?_); refine goesL_ (some 24) rfl rfl Tryd.func17 (by kernel_rfl) rfl #[.slice A0 l0.length c0] rfl (by (try simp only [List.map_toArray, List.map_cons, List.map_nil]); first | done | rfl) ?_; (refine (spec_DrawVarText.calls k _ _ l0 n0 _ (Kd.C_below HR0.out HB.out) HC0.out A2.out).mono ?_); rintro e w' ⟨rfl, hd⟩; refine ⟨_, rfl, ?_⟩; have n0_ := Aside0.mk (HB.out.trans ((hd).mono HB.out.size)); clear HB; have HB := n0_; clear n0_ hd) | ((with_reducible refine gate_callee (f := 18) rfl ?_); refine goesL_ (some 33) rfl rfl Tryd.func18 (by kernel_rfl) rfl #[.int .i64 (12345 : Int)] rfl (by (try simp only [List.map_toArray, List.map_cons, List.map_nil]); first | done | rfl) ?_; (refine (impl_VarText.calls k _ s true _ A3.out).mono ?_); rintro e w' ⟨rfl, hd⟩; refine ⟨_, rfl, ?_⟩; have n0_ := Aside0.mk (HB.out.trans ((hd).mono HB.out.size)); clear HB; have HB := n0_; clear n0_ hd) | ((with_reducible refine gate_callee (f := 19) rfl ?_); refine goesL_ (some 40) rfl rfl Tryd.func19 (by kernel_rfl) rfl #[.string (((⟨#[120]⟩ : ByteArray) ++ s) ++ (⟨#[121]⟩ : ByteArray)), .int .i64 1] rfl (by (try simp only [List.map_toArray, List.map_cons, List.map_nil]); first | done | rfl) ?_; (refine (impl_ReadVar.calls k _ 1 (12345 : Int) ((s.size : Int) + 1) true _ A4.out).mono ?_); rintro e w' ⟨rfl, hd⟩; refine ⟨_, rfl, ?_⟩; have n0_ := Aside0.mk (HB.out.trans (((Drawn0.below hd)).mono HB.out.size)); clear HB; have HB := n0_; clear n0_ hd) | ((with_reducible refine gate_callee (f := 8) rfl ?_); refine goesL_ (some 46) rfl rfl Tryd.func8 (by kernel_rfl) rfl #[.int .i64 (12345 : Int)] rfl (by (try simp only [List.map_toArray, List.map_cons, List.map_nil]); first | done | rfl) ?_; (refine (impl_Decimal.calls (12345 : Int) (by have := HN.out; omega) (by have := HN.out; omega) _ (HP.out.below HB.out)).mono ?_); rw [HG.out]; rintro e w' ⟨rfl, hd⟩; refine ⟨_, rfl, ?_⟩; have n0_ := Aside0.mk (HB.out.trans (hd.mono HB.out.size)); clear HB; have HB := n0_; clear n0_ hd) | ((with_reducible refine gate_callee (f := 15) rfl ?_); refine goesL_ (some 47) rfl rfl Tryd.func15 (by kernel_rfl) rfl #[.string g] rfl (by (try simp only [List.map_toArray, List.map_cons, List.map_nil]); first | done | rfl) ?_; (refine (impl_ReadDecimal.calls g HL.out _ (HP.out.below HB.out) (HE.out.below HB.out)).mono ?_); rw [A5.out]; rintro e w' ⟨rfl, hd⟩; refine ⟨_, rfl, ?_⟩; have n0_ := Aside0.mk (HB.out.trans (hd.mono HB.out.size)); clear HB; have HB := n0_; clear n0_ hd) | ((with_reducible refine gate_callee (f := 20) rfl ?_); refine goesL_ (some 51) rfl rfl Tryd.func20 (by kernel_rfl) rfl #[.slice A0 l0.length c0] rfl (by (try simp only [List.map_toArray, List.map_cons, List.map_nil]); first | done | rfl) ?_; (refine (spec_DrawHex.calls k _ _ l0 t0 _ (Kd.C_below HR0.out HB.out) HC0.out A6.out).mono ?_); rintro e w' ⟨rfl, hd⟩; refine ⟨_, rfl, ?_⟩; have n0_ := Aside0.mk (HB.out.trans ((hd).mono HB.out.size)); clear HB; have HB := n0_; clear n0_ hd) | ((with_reducible refine gate_callee (f := 21) rfl ?_); refine goesL_ (some 57) rfl rfl Tryd.func21 (by kernel_rfl) rfl #[.string t0] rfl (by (try simp only [List.map_toArray, List.map_cons, List.map_nil]); first | done | rfl) ?_; (refine (impl_ShortText.calls k _ a true _ A7.out).mono ?_); rintro e w' ⟨rfl, hd⟩; refine ⟨_, rfl, ?_⟩; have n0_ := Aside0.mk (HB.out.trans ((hd).mono HB.out.size)); clear HB; have HB := n0_; clear n0_ hd) | ((with_reducible refine gate_callee (f := 22) rfl ?_); refine goesL_ (some 62) rfl rfl Tryd.func22 (by kernel_rfl) rfl #[.string a, .int .i64 0] rfl (by (try simp only [List.map_toArray, List.map_cons, List.map_nil]); first | done | rfl) ?_; (refine (impl_ReadShort.calls k a 0 t0 (a.size : Int) true _ A8.out).mono ?_); rintro e w' ⟨rfl, hd⟩; refine ⟨_, rfl, ?_⟩; have n0_ := Aside0.mk (HB.out.trans (((Drawn0.below hd)).mono HB.out.size)); clear HB; have HB := n0_; clear n0_ hd) | ((with_reducible refine gate_callee (f := 23) rfl ?_); refine goesL_ (some 68) rfl rfl Tryd.func23 (by kernel_rfl) rfl #[.string t0] rfl (by (try simp only [List.map_toArray, List.map_cons, List.map_nil]); first | done | rfl) ?_; (refine (impl_Hex.calls k _ h true _ A9.out).mono ?_); rintro e w' ⟨rfl, hd⟩; refine ⟨_, rfl, ?_⟩; have n0_ := Aside0.mk (HB.out.trans ((hd).mono HB.out.size)); clear HB; have HB := n0_; clear n0_ hd) | ((with_reducible refine gate_callee (f := 24) rfl ?_); refine goesL_ (some 73) rfl rfl Tryd.func24 (by kernel_rfl) rfl #[.string h] rfl (by (try simp only [List.map_toArray, List.map_cons, List.map_nil]); first | done | rfl) ?_; (refine (impl_Unhex.calls k h t0 true _ A10.out).mono ?_); rintro e w' ⟨rfl, hd⟩; refine ⟨_, rfl, ?_⟩; have n0_ := Aside0.mk (HB.out.trans ((hd).mono HB.out.size)); clear HB; have HB := n0_; clear n0_ hd))
  go_ret
  exact ⟨rfl, HB.out⟩
set_option maxHeartbeats 8000000 in
set_option maxRecDepth 100000 in
theorem walk_hiLong (k : Nat) (A0 : Option Addr) (c0 : Nat) (l0 : List Int) (w : World) (hr0 : Kd.C (Kd.int .u8) w A0 l0.length l0) (hc0 : l0.length ≤ c0) (hp : Pow w) (he : Errs w)
    (n0 : Int) (s g t0 a h : ByteArray) (hq : 0 ≤ n0 ∧ n0 > 1000000000) (ht : t0.size > 300) (hs : s.size ≤ 1000) (hn : 0 ≤ (12345 : Int) ∧ (12345 : Int) ≤ 1000000000) (h1 : laws_big.f l0 = some false) (h2 : spec_DrawVarText.f k l0 = some n0) (h3 : impl_VarText.f k (12345 : Int) = some (s, true)) (h4 : impl_ReadVar.f k (((⟨#[120]⟩ : ByteArray) ++ s) ++ (⟨#[121]⟩ : ByteArray)) 1 = some ((12345 : Int), (s.size : Int) + 1, true))
    (hg : numeral (12345 : Int) = g) (hl : g.size ≤ 140737488351232) (h5 : ends g = ((12345 : Int), true)) (h6 : spec_DrawHex.f k l0 = some t0) (h7 : impl_ShortText.f k (⟨#[97, 98, 99]⟩ : ByteArray) = some (a, true)) (h8 : impl_ReadShort.f k a 0 = some ((⟨#[97, 98, 99]⟩ : ByteArray), (a.size : Int), true)) (h9 : impl_Hex.f k (⟨#[97, 98, 99]⟩ : ByteArray) = some (h, true)) (h10 : impl_Unhex.f k h = some ((⟨#[97, 98, 99]⟩ : ByteArray), true)) :
    Calls Tryd.prog 6 #[.slice A0 l0.length c0] w fun e w' => e = .returned (.bool true) ∧ Below w.heap.size w w' := by
  have HR0 := Aside0.mk hr0
  have HC0 := Aside0.mk hc0
  have HP := Aside0.mk hp
  have HE := Aside0.mk he
  have HG := Aside0.mk hg
  have HL := Aside0.mk hl
  have HN := Aside0.mk hn
  have A1 := Aside0.mk h1
  have A2 := Aside0.mk h2
  have A3 := Aside0.mk h3
  have A4 := Aside0.mk h4
  have A5 := Aside0.mk h5
  have A6 := Aside0.mk h6
  have A7 := Aside0.mk h7
  have A8 := Aside0.mk h8
  have A9 := Aside0.mk h9
  have A10 := Aside0.mk h10
  have z1 : ((⟨#[120]⟩ : ByteArray) ++ s).size = 1 + s.size := by rw [ByteArray.size_append]; rfl
  have z2 : (((⟨#[120]⟩ : ByteArray) ++ s) ++ (⟨#[121]⟩ : ByteArray)).size = 1 + s.size + 1 := by rw [ByteArray.size_append, z1]; rfl
  have b1 : (9223372036854775807 < 1 + s.size) = False := eq_false (by omega)
  have b2 : (9223372036854775807 < 1 + s.size + 1) = False := eq_false (by omega)
  have b3 : wrap64 ((s.size : Int) + 1) = (s.size : Int) + 1 := by unfold wrap64; omega
  have HB := Aside0.mk (Below.refl w.heap.size w)
  have q0 : decide (n0 < 0) = false := decide_eq_false (by omega)
  have q1 : decide (1000000000 < n0) = true := decide_eq_true (by omega)
  clear hq
  have r0 : decide (300 < (t0.size : Int)) = true := decide_eq_true (by omega)
  have r1 : decide (300 < t0.size) = true := decide_eq_true ht
  clear ht
  clear hr0 hc0 hp he hg hl hn hs h1 h2 h3 h4 h5 h6 h7 h8 h9 h10
  go_enter Tryd.func6, Tryd.ntmps6
  go_wp2_with (first | ((with_reducible refine gate_callee (f := 16) rfl ?_); refine goesL_ (some 22) rfl rfl Tryd.func16 (by kernel_rfl) rfl #[.slice A0 l0.length c0] rfl (by (try simp only [List.map_toArray, List.map_cons, List.map_nil]); first | done | rfl) ?_; (refine (laws_big.calls _ _ l0 false _ (Kd.C_below HR0.out HB.out) HC0.out A1.out).mono ?_); rintro e w' ⟨rfl, hd⟩; refine ⟨_, rfl, ?_⟩; have n0_ := Aside0.mk (HB.out.trans (((Drawn0.below hd)).mono HB.out.size)); clear HB; have HB := n0_; clear n0_ hd) | ((with_reducible refine gate_callee (f := 17) rfl ?_); refine goesL_ (some 24) rfl rfl Tryd.func17 (by kernel_rfl) rfl #[.slice A0 l0.length c0] rfl (by (try simp only [List.map_toArray, List.map_cons, List.map_nil]); first | done | rfl) ?_; (refine (spec_DrawVarText.calls k _ _ l0 n0 _ (Kd.C_below HR0.out HB.out) HC0.out A2.out).mono ?_); rintro e w' ⟨rfl, hd⟩; refine ⟨_, rfl, ?_⟩; have n0_ := Aside0.mk (HB.out.trans ((hd).mono HB.out.size)); clear HB; have HB := n0_; clear n0_ hd) | ((with_reducible refine gate_callee (f := 18) rfl ?_); refine goesL_ (some 33) rfl rfl Tryd.func18 (by kernel_rfl) rfl #[.int .i64 (12345 : Int)] rfl (by (try simp only [List.map_toArray, List.map_cons, List.map_nil]); first | done | rfl) ?_; (refine (impl_VarText.calls k _ s true _ A3.out).mono ?_); rintro e w' ⟨rfl, hd⟩; refine ⟨_, rfl, ?_⟩; have n0_ := Aside0.mk (HB.out.trans ((hd).mono HB.out.size)); clear HB; have HB := n0_; clear n0_ hd) | ((with_reducible refine gate_callee (f := 19) rfl ?_); refine goesL_ (some 40) rfl rfl Tryd.func19 (by kernel_rfl) rfl #[.string (((⟨#[120]⟩ : ByteArray) ++ s) ++ (⟨#[121]⟩ : ByteArray)), .int .i64 1] rfl (by (try simp only [List.map_toArray, List.map_cons, List.map_nil]); first | done | rfl) ?_; (refine (impl_ReadVar.calls k _ 1 (12345 : Int) ((s.size : Int) + 1) true _ A4.out).mono ?_); rintro e w' ⟨rfl, hd⟩; refine ⟨_, rfl, ?_⟩; have n0_ := Aside0.mk (HB.out.trans (((Drawn0.below hd)).mono HB.out.size)); clear HB; have HB := n0_; clear n0_ hd) | ((with_reducible refine gate_callee (f := 8) rfl ?_); refine goesL_ (some 46) rfl rfl Tryd.func8 (by kernel_rfl) rfl #[.int .i64 (12345 : Int)] rfl (by (try simp only [List.map_toArray, List.map_cons, List.map_nil]); first | done | rfl) ?_; (refine (impl_Decimal.calls (12345 : Int) (by have := HN.out; omega) (by have := HN.out; omega) _ (HP.out.below HB.out)).mono ?_); rw [HG.out]; rintro e w' ⟨rfl, hd⟩; refine ⟨_, rfl, ?_⟩; have n0_ := Aside0.mk (HB.out.trans (hd.mono HB.out.size)); clear HB; have HB := n0_; clear n0_ hd) | ((with_reducible refine gate_callee (f := 15) rfl ?_); refine goesL_ (some 47) rfl rfl Tryd.func15 (by kernel_rfl) rfl #[.string g] rfl (by (try simp only [List.map_toArray, List.map_cons, List.map_nil]); first | done | rfl) ?_; (refine (impl_ReadDecimal.calls g HL.out _ (HP.out.below HB.out) (HE.out.below HB.out)).mono ?_); rw [A5.out]; rintro e w' ⟨rfl, hd⟩; refine ⟨_, rfl, ?_⟩; have n0_ := Aside0.mk (HB.out.trans (hd.mono HB.out.size)); clear HB; have HB := n0_; clear n0_ hd) | ((with_reducible refine gate_callee (f := 20) rfl ?_); refine goesL_ (some 51) rfl rfl Tryd.func20 (by kernel_rfl) rfl #[.slice A0 l0.length c0] rfl (by (try simp only [List.map_toArray, List.map_cons, List.map_nil]); first | done | rfl) ?_; (refine (spec_DrawHex.calls k _ _ l0 t0 _ (Kd.C_below HR0.out HB.out) HC0.out A6.out).mono ?_); rintro e w' ⟨rfl, hd⟩; refine ⟨_, rfl, ?_⟩; have n0_ := Aside0.mk (HB.out.trans ((hd).mono HB.out.size)); clear HB; have HB := n0_; clear n0_ hd) | ((with_reducible refine gate_callee (f := 21) rfl ?_); refine goesL_ (some 57) rfl rfl Tryd.func21 (by kernel_rfl) rfl #[.string (⟨#[97, 98, 99]⟩ : ByteArray)] rfl (by (try simp only [List.map_toArray, List.map_cons, List.map_nil]); first | done | rfl) ?_; (refine (impl_ShortText.calls k _ a true _ A7.out).mono ?_); rintro e w' ⟨rfl, hd⟩; refine ⟨_, rfl, ?_⟩; have n0_ := Aside0.mk (HB.out.trans ((hd).mono HB.out.size)); clear HB; have HB := n0_; clear n0_ hd) | ((with_reducible refine gate_callee (f := 22) rfl ?_); refine goesL_ (some 62) rfl rfl Tryd.func22 (by kernel_rfl) rfl #[.string a, .int .i64 0] rfl (by (try simp only [List.map_toArray, List.map_cons, List.map_nil]); first | done | rfl) ?_; (refine (impl_ReadShort.calls k a 0 (⟨#[97, 98, 99]⟩ : ByteArray) (a.size : Int) true _ A8.out).mono ?_); rintro e w' ⟨rfl, hd⟩; refine ⟨_, rfl, ?_⟩; have n0_ := Aside0.mk (HB.out.trans (((Drawn0.below hd)).mono HB.out.size)); clear HB; have HB := n0_; clear n0_ hd) | ((with_reducible refine gate_callee (f := 23) rfl ?_); refine goesL_ (some 68) rfl rfl Tryd.func23 (by kernel_rfl) rfl #[.string (⟨#[97, 98, 99]⟩ : ByteArray)] rfl (by (try simp only [List.map_toArray, List.map_cons, List.map_nil]); first | done | rfl) ?_; (refine (impl_Hex.calls k _ h true _ A9.out).mono ?_); rintro e w' ⟨rfl, hd⟩; refine ⟨_, rfl, ?_⟩; have n0_ := Aside0.mk (HB.out.trans ((hd).mono HB.out.size)); clear HB; have HB := n0_; clear n0_ hd) | ((with_reducible refine gate_callee (f := 24) rfl ?_); refine goesL_ (some 73) rfl rfl Tryd.func24 (by kernel_rfl) rfl #[.string h] rfl (by (try simp only [List.map_toArray, List.map_cons, List.map_nil]); first | done | rfl) ?_; (refine (impl_Unhex.calls k h (⟨#[97, 98, 99]⟩ : ByteArray) true _ A10.out).mono ?_); rintro e w' ⟨rfl, hd⟩; refine ⟨_, rfl, ?_⟩; have n0_ := Aside0.mk (HB.out.trans ((hd).mono HB.out.size)); clear HB; have HB := n0_; clear n0_ hd))
  go_ret
  exact ⟨rfl, HB.out⟩
set_option maxHeartbeats 8000000 in
set_option maxRecDepth 100000 in
theorem walk_hiFit (k : Nat) (A0 : Option Addr) (c0 : Nat) (l0 : List Int) (w : World) (hr0 : Kd.C (Kd.int .u8) w A0 l0.length l0) (hc0 : l0.length ≤ c0) (hp : Pow w) (he : Errs w)
    (n0 : Int) (s g t0 a h : ByteArray) (hq : 0 ≤ n0 ∧ n0 > 1000000000) (ht : t0.size ≤ 300) (hs : s.size ≤ 1000) (hn : 0 ≤ (12345 : Int) ∧ (12345 : Int) ≤ 1000000000) (h1 : laws_big.f l0 = some false) (h2 : spec_DrawVarText.f k l0 = some n0) (h3 : impl_VarText.f k (12345 : Int) = some (s, true)) (h4 : impl_ReadVar.f k (((⟨#[120]⟩ : ByteArray) ++ s) ++ (⟨#[121]⟩ : ByteArray)) 1 = some ((12345 : Int), (s.size : Int) + 1, true))
    (hg : numeral (12345 : Int) = g) (hl : g.size ≤ 140737488351232) (h5 : ends g = ((12345 : Int), true)) (h6 : spec_DrawHex.f k l0 = some t0) (h7 : impl_ShortText.f k t0 = some (a, true)) (h8 : impl_ReadShort.f k a 0 = some (t0, (a.size : Int), true)) (h9 : impl_Hex.f k t0 = some (h, true)) (h10 : impl_Unhex.f k h = some (t0, true)) :
    Calls Tryd.prog 6 #[.slice A0 l0.length c0] w fun e w' => e = .returned (.bool true) ∧ Below w.heap.size w w' := by
  have HR0 := Aside0.mk hr0
  have HC0 := Aside0.mk hc0
  have HP := Aside0.mk hp
  have HE := Aside0.mk he
  have HG := Aside0.mk hg
  have HL := Aside0.mk hl
  have HN := Aside0.mk hn
  have A1 := Aside0.mk h1
  have A2 := Aside0.mk h2
  have A3 := Aside0.mk h3
  have A4 := Aside0.mk h4
  have A5 := Aside0.mk h5
  have A6 := Aside0.mk h6
  have A7 := Aside0.mk h7
  have A8 := Aside0.mk h8
  have A9 := Aside0.mk h9
  have A10 := Aside0.mk h10
  have z1 : ((⟨#[120]⟩ : ByteArray) ++ s).size = 1 + s.size := by rw [ByteArray.size_append]; rfl
  have z2 : (((⟨#[120]⟩ : ByteArray) ++ s) ++ (⟨#[121]⟩ : ByteArray)).size = 1 + s.size + 1 := by rw [ByteArray.size_append, z1]; rfl
  have b1 : (9223372036854775807 < 1 + s.size) = False := eq_false (by omega)
  have b2 : (9223372036854775807 < 1 + s.size + 1) = False := eq_false (by omega)
  have b3 : wrap64 ((s.size : Int) + 1) = (s.size : Int) + 1 := by unfold wrap64; omega
  have HB := Aside0.mk (Below.refl w.heap.size w)
  have q0 : decide (n0 < 0) = false := decide_eq_false (by omega)
  have q1 : decide (1000000000 < n0) = true := decide_eq_true (by omega)
  clear hq
  have r0 : decide (300 < (t0.size : Int)) = false := decide_eq_false (by omega)
  have r1 : decide (300 < t0.size) = false := decide_eq_false (by omega)
  clear ht
  clear hr0 hc0 hp he hg hl hn hs h1 h2 h3 h4 h5 h6 h7 h8 h9 h10
  go_enter Tryd.func6, Tryd.ntmps6
  go_wp2_with (first | ((with_reducible refine gate_callee (f := 16) rfl ?_); refine goesL_ (some 22) rfl rfl Tryd.func16 (by kernel_rfl) rfl #[.slice A0 l0.length c0] rfl (by (try simp only [List.map_toArray, List.map_cons, List.map_nil]); first | done | rfl) ?_; (refine (laws_big.calls _ _ l0 false _ (Kd.C_below HR0.out HB.out) HC0.out A1.out).mono ?_); rintro e w' ⟨rfl, hd⟩; refine ⟨_, rfl, ?_⟩; have n0_ := Aside0.mk (HB.out.trans (((Drawn0.below hd)).mono HB.out.size)); clear HB; have HB := n0_; clear n0_ hd) | ((with_reducible refine gate_callee (f := 17) rfl ?_); refine goesL_ (some 24) rfl rfl Tryd.func17 (by kernel_rfl) rfl #[.slice A0 l0.length c0] rfl (by (try simp only [List.map_toArray, List.map_cons, List.map_nil]); first | done | rfl) ?_; (refine (spec_DrawVarText.calls k _ _ l0 n0 _ (Kd.C_below HR0.out HB.out) HC0.out A2.out).mono ?_); rintro e w' ⟨rfl, hd⟩; refine ⟨_, rfl, ?_⟩; have n0_ := Aside0.mk (HB.out.trans ((hd).mono HB.out.size)); clear HB; have HB := n0_; clear n0_ hd) | ((with_reducible refine gate_callee (f := 18) rfl ?_); refine goesL_ (some 33) rfl rfl Tryd.func18 (by kernel_rfl) rfl #[.int .i64 (12345 : Int)] rfl (by (try simp only [List.map_toArray, List.map_cons, List.map_nil]); first | done | rfl) ?_; (refine (impl_VarText.calls k _ s true _ A3.out).mono ?_); rintro e w' ⟨rfl, hd⟩; refine ⟨_, rfl, ?_⟩; have n0_ := Aside0.mk (HB.out.trans ((hd).mono HB.out.size)); clear HB; have HB := n0_; clear n0_ hd) | ((with_reducible refine gate_callee (f := 19) rfl ?_); refine goesL_ (some 40) rfl rfl Tryd.func19 (by kernel_rfl) rfl #[.string (((⟨#[120]⟩ : ByteArray) ++ s) ++ (⟨#[121]⟩ : ByteArray)), .int .i64 1] rfl (by (try simp only [List.map_toArray, List.map_cons, List.map_nil]); first | done | rfl) ?_; (refine (impl_ReadVar.calls k _ 1 (12345 : Int) ((s.size : Int) + 1) true _ A4.out).mono ?_); rintro e w' ⟨rfl, hd⟩; refine ⟨_, rfl, ?_⟩; have n0_ := Aside0.mk (HB.out.trans (((Drawn0.below hd)).mono HB.out.size)); clear HB; have HB := n0_; clear n0_ hd) | ((with_reducible refine gate_callee (f := 8) rfl ?_); refine goesL_ (some 46) rfl rfl Tryd.func8 (by kernel_rfl) rfl #[.int .i64 (12345 : Int)] rfl (by (try simp only [List.map_toArray, List.map_cons, List.map_nil]); first | done | rfl) ?_; (refine (impl_Decimal.calls (12345 : Int) (by have := HN.out; omega) (by have := HN.out; omega) _ (HP.out.below HB.out)).mono ?_); rw [HG.out]; rintro e w' ⟨rfl, hd⟩; refine ⟨_, rfl, ?_⟩; have n0_ := Aside0.mk (HB.out.trans (hd.mono HB.out.size)); clear HB; have HB := n0_; clear n0_ hd) | ((with_reducible refine gate_callee (f := 15) rfl ?_); refine goesL_ (some 47) rfl rfl Tryd.func15 (by kernel_rfl) rfl #[.string g] rfl (by (try simp only [List.map_toArray, List.map_cons, List.map_nil]); first | done | rfl) ?_; (refine (impl_ReadDecimal.calls g HL.out _ (HP.out.below HB.out) (HE.out.below HB.out)).mono ?_); rw [A5.out]; rintro e w' ⟨rfl, hd⟩; refine ⟨_, rfl, ?_⟩; have n0_ := Aside0.mk (HB.out.trans (hd.mono HB.out.size)); clear HB; have HB := n0_; clear n0_ hd) | ((with_reducible refine gate_callee (f := 20) rfl ?_); refine goesL_ (some 51) rfl rfl Tryd.func20 (by kernel_rfl) rfl #[.slice A0 l0.length c0] rfl (by (try simp only [List.map_toArray, List.map_cons, List.map_nil]); first | done | rfl) ?_; (refine (spec_DrawHex.calls k _ _ l0 t0 _ (Kd.C_below HR0.out HB.out) HC0.out A6.out).mono ?_); rintro e w' ⟨rfl, hd⟩; refine ⟨_, rfl, ?_⟩; have n0_ := Aside0.mk (HB.out.trans ((hd).mono HB.out.size)); clear HB; have HB := n0_; clear n0_ hd) | ((with_reducible refine gate_callee (f := 21) rfl ?_); refine goesL_ (some 57) rfl rfl Tryd.func21 (by kernel_rfl) rfl #[.string t0] rfl (by (try simp only [List.map_toArray, List.map_cons, List.map_nil]); first | done | rfl) ?_; (refine (impl_ShortText.calls k _ a true _ A7.out).mono ?_); rintro e w' ⟨rfl, hd⟩; refine ⟨_, rfl, ?_⟩; have n0_ := Aside0.mk (HB.out.trans ((hd).mono HB.out.size)); clear HB; have HB := n0_; clear n0_ hd) | ((with_reducible refine gate_callee (f := 22) rfl ?_); refine goesL_ (some 62) rfl rfl Tryd.func22 (by kernel_rfl) rfl #[.string a, .int .i64 0] rfl (by (try simp only [List.map_toArray, List.map_cons, List.map_nil]); first | done | rfl) ?_; (refine (impl_ReadShort.calls k a 0 t0 (a.size : Int) true _ A8.out).mono ?_); rintro e w' ⟨rfl, hd⟩; refine ⟨_, rfl, ?_⟩; have n0_ := Aside0.mk (HB.out.trans (((Drawn0.below hd)).mono HB.out.size)); clear HB; have HB := n0_; clear n0_ hd) | ((with_reducible refine gate_callee (f := 23) rfl ?_); refine goesL_ (some 68) rfl rfl Tryd.func23 (by kernel_rfl) rfl #[.string t0] rfl (by (try simp only [List.map_toArray, List.map_cons, List.map_nil]); first | done | rfl) ?_; (refine (impl_Hex.calls k _ h true _ A9.out).mono ?_); rintro e w' ⟨rfl, hd⟩; refine ⟨_, rfl, ?_⟩; have n0_ := Aside0.mk (HB.out.trans ((hd).mono HB.out.size)); clear HB; have HB := n0_; clear n0_ hd) | ((with_reducible refine gate_callee (f := 24) rfl ?_); refine goesL_ (some 73) rfl rfl Tryd.func24 (by kernel_rfl) rfl #[.string h] rfl (by (try simp only [List.map_toArray, List.map_cons, List.map_nil]); first | done | rfl) ?_; (refine (impl_Unhex.calls k h t0 true _ A10.out).mono ?_); rintro e w' ⟨rfl, hd⟩; refine ⟨_, rfl, ?_⟩; have n0_ := Aside0.mk (HB.out.trans ((hd).mono HB.out.size)); clear HB; have HB := n0_; clear n0_ hd))
  go_ret
  exact ⟨rfl, HB.out⟩
set_option maxHeartbeats 8000000 in
set_option maxRecDepth 100000 in
theorem walk_inLong (k : Nat) (A0 : Option Addr) (c0 : Nat) (l0 : List Int) (w : World) (hr0 : Kd.C (Kd.int .u8) w A0 l0.length l0) (hc0 : l0.length ≤ c0) (hp : Pow w) (he : Errs w)
    (n0 : Int) (s g t0 a h : ByteArray) (hq : 0 ≤ n0 ∧ n0 ≤ 1000000000) (ht : t0.size > 300) (hs : s.size ≤ 1000) (hn : 0 ≤ n0 ∧ n0 ≤ 1000000000) (h1 : laws_big.f l0 = some false) (h2 : spec_DrawVarText.f k l0 = some n0) (h3 : impl_VarText.f k n0 = some (s, true)) (h4 : impl_ReadVar.f k (((⟨#[120]⟩ : ByteArray) ++ s) ++ (⟨#[121]⟩ : ByteArray)) 1 = some (n0, (s.size : Int) + 1, true))
    (hg : numeral n0 = g) (hl : g.size ≤ 140737488351232) (h5 : ends g = (n0, true)) (h6 : spec_DrawHex.f k l0 = some t0) (h7 : impl_ShortText.f k (⟨#[97, 98, 99]⟩ : ByteArray) = some (a, true)) (h8 : impl_ReadShort.f k a 0 = some ((⟨#[97, 98, 99]⟩ : ByteArray), (a.size : Int), true)) (h9 : impl_Hex.f k (⟨#[97, 98, 99]⟩ : ByteArray) = some (h, true)) (h10 : impl_Unhex.f k h = some ((⟨#[97, 98, 99]⟩ : ByteArray), true)) :
    Calls Tryd.prog 6 #[.slice A0 l0.length c0] w fun e w' => e = .returned (.bool true) ∧ Below w.heap.size w w' := by
  have HR0 := Aside0.mk hr0
  have HC0 := Aside0.mk hc0
  have HP := Aside0.mk hp
  have HE := Aside0.mk he
  have HG := Aside0.mk hg
  have HL := Aside0.mk hl
  have HN := Aside0.mk hn
  have A1 := Aside0.mk h1
  have A2 := Aside0.mk h2
  have A3 := Aside0.mk h3
  have A4 := Aside0.mk h4
  have A5 := Aside0.mk h5
  have A6 := Aside0.mk h6
  have A7 := Aside0.mk h7
  have A8 := Aside0.mk h8
  have A9 := Aside0.mk h9
  have A10 := Aside0.mk h10
  have z1 : ((⟨#[120]⟩ : ByteArray) ++ s).size = 1 + s.size := by rw [ByteArray.size_append]; rfl
  have z2 : (((⟨#[120]⟩ : ByteArray) ++ s) ++ (⟨#[121]⟩ : ByteArray)).size = 1 + s.size + 1 := by rw [ByteArray.size_append, z1]; rfl
  have b1 : (9223372036854775807 < 1 + s.size) = False := eq_false (by omega)
  have b2 : (9223372036854775807 < 1 + s.size + 1) = False := eq_false (by omega)
  have b3 : wrap64 ((s.size : Int) + 1) = (s.size : Int) + 1 := by unfold wrap64; omega
  have HB := Aside0.mk (Below.refl w.heap.size w)
  have q0 : decide (n0 < 0) = false := decide_eq_false (by omega)
  have q1 : decide (1000000000 < n0) = false := decide_eq_false (by omega)
  clear hq
  have r0 : decide (300 < (t0.size : Int)) = true := decide_eq_true (by omega)
  have r1 : decide (300 < t0.size) = true := decide_eq_true ht
  clear ht
  clear hr0 hc0 hp he hg hl hn hs h1 h2 h3 h4 h5 h6 h7 h8 h9 h10
  go_enter Tryd.func6, Tryd.ntmps6
  go_wp2_with (first | ((with_reducible refine gate_callee (f := 16) rfl ?_); refine goesL_ (some 22) rfl rfl Tryd.func16 (by kernel_rfl) rfl #[.slice A0 l0.length c0] rfl (by (try simp only [List.map_toArray, List.map_cons, List.map_nil]); first | done | rfl) ?_; (refine (laws_big.calls _ _ l0 false _ (Kd.C_below HR0.out HB.out) HC0.out A1.out).mono ?_); rintro e w' ⟨rfl, hd⟩; refine ⟨_, rfl, ?_⟩; have n0_ := Aside0.mk (HB.out.trans (((Drawn0.below hd)).mono HB.out.size)); clear HB; have HB := n0_; clear n0_ hd) | ((with_reducible refine gate_callee (f := 17) rfl ?_); refine goesL_ (some 24) rfl rfl Tryd.func17 (by kernel_rfl) rfl #[.slice A0 l0.length c0] rfl (by (try simp only [List.map_toArray, List.map_cons, List.map_nil]); first | done | rfl) ?_; (refine (spec_DrawVarText.calls k _ _ l0 n0 _ (Kd.C_below HR0.out HB.out) HC0.out A2.out).mono ?_); rintro e w' ⟨rfl, hd⟩; refine ⟨_, rfl, ?_⟩; have n0_ := Aside0.mk (HB.out.trans ((hd).mono HB.out.size)); clear HB; have HB := n0_; clear n0_ hd) | ((with_reducible refine gate_callee (f := 18) rfl ?_); refine goesL_ (some 33) rfl rfl Tryd.func18 (by kernel_rfl) rfl #[.int .i64 n0] rfl (by (try simp only [List.map_toArray, List.map_cons, List.map_nil]); first | done | rfl) ?_; (refine (impl_VarText.calls k _ s true _ A3.out).mono ?_); rintro e w' ⟨rfl, hd⟩; refine ⟨_, rfl, ?_⟩; have n0_ := Aside0.mk (HB.out.trans ((hd).mono HB.out.size)); clear HB; have HB := n0_; clear n0_ hd) | ((with_reducible refine gate_callee (f := 19) rfl ?_); refine goesL_ (some 40) rfl rfl Tryd.func19 (by kernel_rfl) rfl #[.string (((⟨#[120]⟩ : ByteArray) ++ s) ++ (⟨#[121]⟩ : ByteArray)), .int .i64 1] rfl (by (try simp only [List.map_toArray, List.map_cons, List.map_nil]); first | done | rfl) ?_; (refine (impl_ReadVar.calls k _ 1 n0 ((s.size : Int) + 1) true _ A4.out).mono ?_); rintro e w' ⟨rfl, hd⟩; refine ⟨_, rfl, ?_⟩; have n0_ := Aside0.mk (HB.out.trans (((Drawn0.below hd)).mono HB.out.size)); clear HB; have HB := n0_; clear n0_ hd) | ((with_reducible refine gate_callee (f := 8) rfl ?_); refine goesL_ (some 46) rfl rfl Tryd.func8 (by kernel_rfl) rfl #[.int .i64 n0] rfl (by (try simp only [List.map_toArray, List.map_cons, List.map_nil]); first | done | rfl) ?_; (refine (impl_Decimal.calls n0 (by have := HN.out; omega) (by have := HN.out; omega) _ (HP.out.below HB.out)).mono ?_); rw [HG.out]; rintro e w' ⟨rfl, hd⟩; refine ⟨_, rfl, ?_⟩; have n0_ := Aside0.mk (HB.out.trans (hd.mono HB.out.size)); clear HB; have HB := n0_; clear n0_ hd) | ((with_reducible refine gate_callee (f := 15) rfl ?_); refine goesL_ (some 47) rfl rfl Tryd.func15 (by kernel_rfl) rfl #[.string g] rfl (by (try simp only [List.map_toArray, List.map_cons, List.map_nil]); first | done | rfl) ?_; (refine (impl_ReadDecimal.calls g HL.out _ (HP.out.below HB.out) (HE.out.below HB.out)).mono ?_); rw [A5.out]; rintro e w' ⟨rfl, hd⟩; refine ⟨_, rfl, ?_⟩; have n0_ := Aside0.mk (HB.out.trans (hd.mono HB.out.size)); clear HB; have HB := n0_; clear n0_ hd) | ((with_reducible refine gate_callee (f := 20) rfl ?_); refine goesL_ (some 51) rfl rfl Tryd.func20 (by kernel_rfl) rfl #[.slice A0 l0.length c0] rfl (by (try simp only [List.map_toArray, List.map_cons, List.map_nil]); first | done | rfl) ?_; (refine (spec_DrawHex.calls k _ _ l0 t0 _ (Kd.C_below HR0.out HB.out) HC0.out A6.out).mono ?_); rintro e w' ⟨rfl, hd⟩; refine ⟨_, rfl, ?_⟩; have n0_ := Aside0.mk (HB.out.trans ((hd).mono HB.out.size)); clear HB; have HB := n0_; clear n0_ hd) | ((with_reducible refine gate_callee (f := 21) rfl ?_); refine goesL_ (some 57) rfl rfl Tryd.func21 (by kernel_rfl) rfl #[.string (⟨#[97, 98, 99]⟩ : ByteArray)] rfl (by (try simp only [List.map_toArray, List.map_cons, List.map_nil]); first | done | rfl) ?_; (refine (impl_ShortText.calls k _ a true _ A7.out).mono ?_); rintro e w' ⟨rfl, hd⟩; refine ⟨_, rfl, ?_⟩; have n0_ := Aside0.mk (HB.out.trans ((hd).mono HB.out.size)); clear HB; have HB := n0_; clear n0_ hd) | ((with_reducible refine gate_callee (f := 22) rfl ?_); refine goesL_ (some 62) rfl rfl Tryd.func22 (by kernel_rfl) rfl #[.string a, .int .i64 0] rfl (by (try simp only [List.map_toArray, List.map_cons, List.map_nil]); first | done | rfl) ?_; (refine (impl_ReadShort.calls k a 0 (⟨#[97, 98, 99]⟩ : ByteArray) (a.size : Int) true _ A8.out).mono ?_); rintro e w' ⟨rfl, hd⟩; refine ⟨_, rfl, ?_⟩; have n0_ := Aside0.mk (HB.out.trans (((Drawn0.below hd)).mono HB.out.size)); clear HB; have HB := n0_; clear n0_ hd) | ((with_reducible refine gate_callee (f := 23) rfl ?_); refine goesL_ (some 68) rfl rfl Tryd.func23 (by kernel_rfl) rfl #[.string (⟨#[97, 98, 99]⟩ : ByteArray)] rfl (by (try simp only [List.map_toArray, List.map_cons, List.map_nil]); first | done | rfl) ?_; (refine (impl_Hex.calls k _ h true _ A9.out).mono ?_); rintro e w' ⟨rfl, hd⟩; refine ⟨_, rfl, ?_⟩; have n0_ := Aside0.mk (HB.out.trans ((hd).mono HB.out.size)); clear HB; have HB := n0_; clear n0_ hd) | ((with_reducible refine gate_callee (f := 24) rfl ?_); refine goesL_ (some 73) rfl rfl Tryd.func24 (by kernel_rfl) rfl #[.string h] rfl (by (try simp only [List.map_toArray, List.map_cons, List.map_nil]); first | done | rfl) ?_; (refine (impl_Unhex.calls k h (⟨#[97, 98, 99]⟩ : ByteArray) true _ A10.out).mono ?_); rintro e w' ⟨rfl, hd⟩; refine ⟨_, rfl, ?_⟩; have n0_ := Aside0.mk (HB.out.trans ((hd).mono HB.out.size)); clear HB; have HB := n0_; clear n0_ hd))
  go_ret
  exact ⟨rfl, HB.out⟩
set_option maxHeartbeats 8000000 in
set_option maxRecDepth 100000 in
theorem walk_inFit (k : Nat) (A0 : Option Addr) (c0 : Nat) (l0 : List Int) (w : World) (hr0 : Kd.C (Kd.int .u8) w A0 l0.length l0) (hc0 : l0.length ≤ c0) (hp : Pow w) (he : Errs w)
    (n0 : Int) (s g t0 a h : ByteArray) (hq : 0 ≤ n0 ∧ n0 ≤ 1000000000) (ht : t0.size ≤ 300) (hs : s.size ≤ 1000) (hn : 0 ≤ n0 ∧ n0 ≤ 1000000000) (h1 : laws_big.f l0 = some false) (h2 : spec_DrawVarText.f k l0 = some n0) (h3 : impl_VarText.f k n0 = some (s, true)) (h4 : impl_ReadVar.f k (((⟨#[120]⟩ : ByteArray) ++ s) ++ (⟨#[121]⟩ : ByteArray)) 1 = some (n0, (s.size : Int) + 1, true))
    (hg : numeral n0 = g) (hl : g.size ≤ 140737488351232) (h5 : ends g = (n0, true)) (h6 : spec_DrawHex.f k l0 = some t0) (h7 : impl_ShortText.f k t0 = some (a, true)) (h8 : impl_ReadShort.f k a 0 = some (t0, (a.size : Int), true)) (h9 : impl_Hex.f k t0 = some (h, true)) (h10 : impl_Unhex.f k h = some (t0, true)) :
    Calls Tryd.prog 6 #[.slice A0 l0.length c0] w fun e w' => e = .returned (.bool true) ∧ Below w.heap.size w w' := by
  have HR0 := Aside0.mk hr0
  have HC0 := Aside0.mk hc0
  have HP := Aside0.mk hp
  have HE := Aside0.mk he
  have HG := Aside0.mk hg
  have HL := Aside0.mk hl
  have HN := Aside0.mk hn
  have A1 := Aside0.mk h1
  have A2 := Aside0.mk h2
  have A3 := Aside0.mk h3
  have A4 := Aside0.mk h4
  have A5 := Aside0.mk h5
  have A6 := Aside0.mk h6
  have A7 := Aside0.mk h7
  have A8 := Aside0.mk h8
  have A9 := Aside0.mk h9
  have A10 := Aside0.mk h10
  have z1 : ((⟨#[120]⟩ : ByteArray) ++ s).size = 1 + s.size := by rw [ByteArray.size_append]; rfl
  have z2 : (((⟨#[120]⟩ : ByteArray) ++ s) ++ (⟨#[121]⟩ : ByteArray)).size = 1 + s.size + 1 := by rw [ByteArray.size_append, z1]; rfl
  have b1 : (9223372036854775807 < 1 + s.size) = False := eq_false (by omega)
  have b2 : (9223372036854775807 < 1 + s.size + 1) = False := eq_false (by omega)
  have b3 : wrap64 ((s.size : Int) + 1) = (s.size : Int) + 1 := by unfold wrap64; omega
  have HB := Aside0.mk (Below.refl w.heap.size w)
  have q0 : decide (n0 < 0) = false := decide_eq_false (by omega)
  have q1 : decide (1000000000 < n0) = false := decide_eq_false (by omega)
  clear hq
  have r0 : decide (300 < (t0.size : Int)) = false := decide_eq_false (by omega)
  have r1 : decide (300 < t0.size) = false := decide_eq_false (by omega)
  clear ht
  clear hr0 hc0 hp he hg hl hn hs h1 h2 h3 h4 h5 h6 h7 h8 h9 h10
  go_enter Tryd.func6, Tryd.ntmps6
  go_wp2_with (first | ((with_reducible refine gate_callee (f := 16) rfl ?_); refine goesL_ (some 22) rfl rfl Tryd.func16 (by kernel_rfl) rfl #[.slice A0 l0.length c0] rfl (by (try simp only [List.map_toArray, List.map_cons, List.map_nil]); first | done | rfl) ?_; (refine (laws_big.calls _ _ l0 false _ (Kd.C_below HR0.out HB.out) HC0.out A1.out).mono ?_); rintro e w' ⟨rfl, hd⟩; refine ⟨_, rfl, ?_⟩; have n0_ := Aside0.mk (HB.out.trans (((Drawn0.below hd)).mono HB.out.size)); clear HB; have HB := n0_; clear n0_ hd) | ((with_reducible refine gate_callee (f := 17) rfl ?_); refine goesL_ (some 24) rfl rfl Tryd.func17 (by kernel_rfl) rfl #[.slice A0 l0.length c0] rfl (by (try simp only [List.map_toArray, List.map_cons, List.map_nil]); first | done | rfl) ?_; (refine (spec_DrawVarText.calls k _ _ l0 n0 _ (Kd.C_below HR0.out HB.out) HC0.out A2.out).mono ?_); rintro e w' ⟨rfl, hd⟩; refine ⟨_, rfl, ?_⟩; have n0_ := Aside0.mk (HB.out.trans ((hd).mono HB.out.size)); clear HB; have HB := n0_; clear n0_ hd) | ((with_reducible refine gate_callee (f := 18) rfl ?_); refine goesL_ (some 33) rfl rfl Tryd.func18 (by kernel_rfl) rfl #[.int .i64 n0] rfl (by (try simp only [List.map_toArray, List.map_cons, List.map_nil]); first | done | rfl) ?_; (refine (impl_VarText.calls k _ s true _ A3.out).mono ?_); rintro e w' ⟨rfl, hd⟩; refine ⟨_, rfl, ?_⟩; have n0_ := Aside0.mk (HB.out.trans ((hd).mono HB.out.size)); clear HB; have HB := n0_; clear n0_ hd) | ((with_reducible refine gate_callee (f := 19) rfl ?_); refine goesL_ (some 40) rfl rfl Tryd.func19 (by kernel_rfl) rfl #[.string (((⟨#[120]⟩ : ByteArray) ++ s) ++ (⟨#[121]⟩ : ByteArray)), .int .i64 1] rfl (by (try simp only [List.map_toArray, List.map_cons, List.map_nil]); first | done | rfl) ?_; (refine (impl_ReadVar.calls k _ 1 n0 ((s.size : Int) + 1) true _ A4.out).mono ?_); rintro e w' ⟨rfl, hd⟩; refine ⟨_, rfl, ?_⟩; have n0_ := Aside0.mk (HB.out.trans (((Drawn0.below hd)).mono HB.out.size)); clear HB; have HB := n0_; clear n0_ hd) | ((with_reducible refine gate_callee (f := 8) rfl ?_); refine goesL_ (some 46) rfl rfl Tryd.func8 (by kernel_rfl) rfl #[.int .i64 n0] rfl (by (try simp only [List.map_toArray, List.map_cons, List.map_nil]); first | done | rfl) ?_; (refine (impl_Decimal.calls n0 (by have := HN.out; omega) (by have := HN.out; omega) _ (HP.out.below HB.out)).mono ?_); rw [HG.out]; rintro e w' ⟨rfl, hd⟩; refine ⟨_, rfl, ?_⟩; have n0_ := Aside0.mk (HB.out.trans (hd.mono HB.out.size)); clear HB; have HB := n0_; clear n0_ hd) | ((with_reducible refine gate_callee (f := 15) rfl ?_); refine goesL_ (some 47) rfl rfl Tryd.func15 (by kernel_rfl) rfl #[.string g] rfl (by (try simp only [List.map_toArray, List.map_cons, List.map_nil]); first | done | rfl) ?_; (refine (impl_ReadDecimal.calls g HL.out _ (HP.out.below HB.out) (HE.out.below HB.out)).mono ?_); rw [A5.out]; rintro e w' ⟨rfl, hd⟩; refine ⟨_, rfl, ?_⟩; have n0_ := Aside0.mk (HB.out.trans (hd.mono HB.out.size)); clear HB; have HB := n0_; clear n0_ hd) | ((with_reducible refine gate_callee (f := 20) rfl ?_); refine goesL_ (some 51) rfl rfl Tryd.func20 (by kernel_rfl) rfl #[.slice A0 l0.length c0] rfl (by (try simp only [List.map_toArray, List.map_cons, List.map_nil]); first | done | rfl) ?_; (refine (spec_DrawHex.calls k _ _ l0 t0 _ (Kd.C_below HR0.out HB.out) HC0.out A6.out).mono ?_); rintro e w' ⟨rfl, hd⟩; refine ⟨_, rfl, ?_⟩; have n0_ := Aside0.mk (HB.out.trans ((hd).mono HB.out.size)); clear HB; have HB := n0_; clear n0_ hd) | ((with_reducible refine gate_callee (f := 21) rfl ?_); refine goesL_ (some 57) rfl rfl Tryd.func21 (by kernel_rfl) rfl #[.string t0] rfl (by (try simp only [List.map_toArray, List.map_cons, List.map_nil]); first | done | rfl) ?_; (refine (impl_ShortText.calls k _ a true _ A7.out).mono ?_); rintro e w' ⟨rfl, hd⟩; refine ⟨_, rfl, ?_⟩; have n0_ := Aside0.mk (HB.out.trans ((hd).mono HB.out.size)); clear HB; have HB := n0_; clear n0_ hd) | ((with_reducible refine gate_callee (f := 22) rfl ?_); refine goesL_ (some 62) rfl rfl Tryd.func22 (by kernel_rfl) rfl #[.string a, .int .i64 0] rfl (by (try simp only [List.map_toArray, List.map_cons, List.map_nil]); first | done | rfl) ?_; (refine (impl_ReadShort.calls k a 0 t0 (a.size : Int) true _ A8.out).mono ?_); rintro e w' ⟨rfl, hd⟩; refine ⟨_, rfl, ?_⟩; have n0_ := Aside0.mk (HB.out.trans (((Drawn0.below hd)).mono HB.out.size)); clear HB; have HB := n0_; clear n0_ hd) | ((with_reducible refine gate_callee (f := 23) rfl ?_); refine goesL_ (some 68) rfl rfl Tryd.func23 (by kernel_rfl) rfl #[.string t0] rfl (by (try simp only [List.map_toArray, List.map_cons, List.map_nil]); first | done | rfl) ?_; (refine (impl_Hex.calls k _ h true _ A9.out).mono ?_); rintro e w' ⟨rfl, hd⟩; refine ⟨_, rfl, ?_⟩; have n0_ := Aside0.mk (HB.out.trans ((hd).mono HB.out.size)); clear HB; have HB := n0_; clear n0_ hd) | ((with_reducible refine gate_callee (f := 24) rfl ?_); refine goesL_ (some 73) rfl rfl Tryd.func24 (by kernel_rfl) rfl #[.string h] rfl (by (try simp only [List.map_toArray, List.map_cons, List.map_nil]); first | done | rfl) ?_; (refine (impl_Unhex.calls k h t0 true _ A10.out).mono ?_); rintro e w' ⟨rfl, hd⟩; refine ⟨_, rfl, ?_⟩; have n0_ := Aside0.mk (HB.out.trans ((hd).mono HB.out.size)); clear HB; have HB := n0_; clear n0_ hd))
  go_ret
  exact ⟨rfl, HB.out⟩
set_option maxHeartbeats 8000000 in
set_option maxRecDepth 100000 in
theorem walk_big (A0 : Option Addr) (c0 : Nat) (l0 : List Int) (w : World) (hr0 : Kd.C (Kd.int .u8) w A0 l0.length l0) (hc0 : l0.length ≤ c0) (h1 : laws_big.f l0 = some true) :
    Calls Tryd.prog 6 #[.slice A0 l0.length c0] w fun e w' => e = .returned (.bool true) ∧ Below w.heap.size w w' := by
  have HR0 := Aside0.mk hr0
  have HC0 := Aside0.mk hc0
  have A1 := Aside0.mk h1
  have HB := Aside0.mk (Below.refl w.heap.size w)
  clear hr0 hc0 h1
  go_enter Tryd.func6, Tryd.ntmps6
  go_wp2_with (first | ((with_reducible refine gate_callee (f := 16) rfl ?_); refine goesL_ (some 22) rfl rfl Tryd.func16 (by kernel_rfl) rfl #[.slice A0 l0.length c0] rfl (by (try simp only [List.map_toArray, List.map_cons, List.map_nil]); first | done | rfl) ?_; (refine (laws_big.calls _ _ l0 true _ (Kd.C_below HR0.out HB.out) HC0.out A1.out).mono ?_); rintro e w' ⟨rfl, hd⟩; refine ⟨_, rfl, ?_⟩; have n0_ := Aside0.mk (HB.out.trans (((Drawn0.below hd)).mono HB.out.size)); clear HB; have HB := n0_; clear n0_ hd))
  go_ret
  exact ⟨rfl, HB.out⟩
end Go.Proofs.YtjbbdjdbffaidaaDoor.WalkFnNumbers
