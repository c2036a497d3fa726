/- For every input that the statement reads, the law FnQuorums of the given program returns true and leaves its arguments as they were. Conditions: none but the statement's own. -/
import Derived.Test.YtggnchbalheicaaQFnQuorumsx2
import Derived.Test.YtggnchbalheicaaLib
set_option linter.unusedVariables false
set_option linter.unusedSimpArgs false
namespace Go.Proofs.Ytggnchbalheicaa.Pure
open Go.RowKit Go.Proofs.Ytggnchbalheicaa.QFnQuorums Go.Proofs.YtggnchbalheicaaW.PrintWords Go.Proofs.YtggnchbalheicaaW.PrintLast Go.Proofs.YtggnchbalheicaaW.PrintMore Go.Proofs.Ytggnchbalheicaa.Lib

theorem impl_CountOf_l0 (x : Int) (hx : 0 < x) (hx1 : x ≤ 9223372036854775807) (d : Nat) : ∀ i : Nat, i + d = 7 → Ev (fun k => impl_CountOf.l0 k x (cntTo i x) (i : Int)) (cntTo 7 x) := by
  induction d with
  | zero =>
    intro i hi
    obtain rfl : i = 7 := by omega
    refine Ev.shift ?_
    simp only [impl_CountOf.l0, show ¬ ((7 : Nat) : Int) < 7 from by omega, ↓reduceIte]
    exact Ev.now _
  | succ d ih =>
    intro i hi
    refine Ev.shift ?_
    have h1 : (i : Int) < 7 := by omega
    have h2 : x > 0 := hx
    have h4 : (0 : Int) ≤ i := by omega
    have hc := cntTo_range x i
    have hb := bitAt_range x i
    have hs := shr_nonneg (i := i) (Int.le_of_lt hx) hx1
    have h5 : wrap64 (cntTo i x + Go.bits .and .i64 (shr .i64 x (i : Int)) 1) = cntTo (i + 1) x := by
      rw [shr_bit (by omega), and1_i64 hs.1 hs.2]
      show wrap64 (cntTo i x + bitAt x i) = cntTo i x + bitAt x i
      exact wrap_id (by omega) (by omega)
    have h6 : wrap64 ((i : Int) + 1) = ((i + 1 : Nat) : Int) := by rw [wrap_id (by omega) (by omega)]; omega
    simp only [impl_CountOf.l0, h1, h2, h4, h5, h6, ↓reduceIte]
    exact ih (i + 1) (by omega)
theorem impl_CountOf_neg (x : Int) (hx : ¬ x > 0) (d : Nat) : ∀ i : Nat, i + d = 7 → Ev (fun k => impl_CountOf.l0 k x 0 (i : Int)) 0 := by
  induction d with
  | zero =>
    intro i hi
    obtain rfl : i = 7 := by omega
    refine Ev.shift ?_
    simp only [impl_CountOf.l0, show ¬ ((7 : Nat) : Int) < 7 from by omega, ↓reduceIte]
    exact Ev.now _
  | succ d ih =>
    intro i hi
    refine Ev.shift ?_
    have h1 : (i : Int) < 7 := by omega
    have h6 : wrap64 ((i : Int) + 1) = ((i + 1 : Nat) : Int) := by rw [wrap_id (by omega) (by omega)]; omega
    simp only [impl_CountOf.l0, h1, hx, h6, ↓reduceIte]
    exact ih (i + 1) (by omega)
theorem impl_CountOf_ev (x : Int) (hx1 : x ≤ 9223372036854775807) : Ev (fun k => impl_CountOf.f k x) (cnt x) := by
  unfold cnt
  by_cases h0 : x > 0
  · simp only [h0, ↓reduceIte]
    exact impl_CountOf_l0 x h0 hx1 7 0 rfl
  · simp only [h0, ↓reduceIte]
    exact impl_CountOf_neg x h0 7 0 rfl

theorem impl_Faults_eq {n : Int} (h0 : 1 ≤ n) (h1 : n ≤ 9223372036854775807) : impl_Faults.f n = some ((n - 1) / 3) := by
  unfold impl_Faults.f
  rw [if_neg (by omega), wrap_id (x := n - 1) (by omega) (by omega), tdiv_pos (by omega), wrap_id (by omega) (by omega)]
theorem impl_Quorum_eq {n : Int} (h0 : 1 ≤ n) (h1 : n ≤ 9223372036854775807) : impl_Quorum.f n = some (n - (n - 1) / 3) := by
  unfold impl_Quorum.f
  rw [impl_Faults_eq h0 h1, Option.bind_some, wrap_id (by omega) (by omega)]

theorem impl_LeaderOf_eq {v n : Int} (h0 : 1 ≤ n) (v0 : 0 ≤ v) (v1 : v ≤ 9223372036854775807) : impl_LeaderOf.f v n = some (v / 4 % n) := by
  unfold impl_LeaderOf.f
  rw [if_neg (by omega), if_neg (by omega), if_neg (by omega), tdiv_pos v0, wrap_id (by omega) (by omega), tmod_pos (by omega)]

theorem spec_l01New_l0 (l : List Int) (d : Nat) : ∀ (i : Nat) (x : Int), i + d = 4000 → ∃ h, Ev (fun k => spec_l01New.l0 k l x (i : Int)) (l, 0, h) := by
  induction d with
  | zero =>
    intro i x hi
    refine ⟨x, Ev.shift ?_⟩
    have h2 : ¬ (i : Int) < 4000 := by omega
    by_cases h1 : (i : Int) < (l.length : Int)
    · simp only [spec_l01New.l0, h1, h2, ↓reduceIte]
      exact Ev.now _
    · simp only [spec_l01New.l0, h1, ↓reduceIte]
      exact Ev.now _
  | succ d ih =>
    intro i x hi
    have h2 : (i : Int) < 4000 := by omega
    have h4 : (0 : Int) ≤ i := by omega
    have h6 : wrap64 ((i : Int) + 1) = ((i + 1 : Nat) : Int) := by rw [wrap_id (by omega) (by omega)]; omega
    by_cases h1 : (i : Int) < (l.length : Int)
    · obtain ⟨h, hh⟩ := ih (i + 1) (Go.bits .and .i64 (wrap64 ((wrap64 ((wrap64 (x * 131)) + (wrap64 (rd l (i : Int))))) + 7)) 1073741823) (by omega)
      refine ⟨h, Ev.shift ?_⟩
      simp only [spec_l01New.l0, h1, h2, h4, h6, ↓reduceIte]
      exact hh
    · refine ⟨x, Ev.shift ?_⟩
      simp only [spec_l01New.l0, h1, ↓reduceIte]
      exact Ev.now _
theorem spec_l01New_ev (l : List Int) : ∃ h, Ev (fun k => spec_l01New.f k l) (l, 0, h) := spec_l01New_l0 l 4000 0 _ rfl
/-- A cursor's place lies in its bytes. -/
def CurOk (l : List Int) (i : Int) : Prop := 0 ≤ i ∧ i ≤ (l.length : Int)
theorem spec_l01Byte_eq {l : List Int} (hl : l.length ≤ 9223372036854775807) {i : Int} (hi : CurOk l i) (h : Int) :
    ∃ x i' h', spec_l01Byte.f l i h = some (x, i', h') ∧ 0 ≤ x ∧ x ≤ 255 ∧ CurOk l i' := by
  unfold spec_l01Byte.f
  have hm := fun y => i64_and_range y 255 (by omega)
  by_cases h1 : i < (l.length : Int)
  · have h4 : 0 ≤ i := hi.1
    simp only [h1, h4, ↓reduceIte]
    refine ⟨_, _, _, rfl, (hm _).1, (hm _).2, ?_⟩
    rw [wrap_id (by omega) (by omega)]
    exact ⟨by omega, by omega⟩
  · simp only [h1, ↓reduceIte]
    exact ⟨_, _, _, rfl, (hm _).1, (hm _).2, hi⟩
theorem spec_l01Below_eq {l : List Int} (hl : l.length ≤ 9223372036854775807) {i : Int} (hi : CurOk l i) (h : Int) (n : Int) :
    ∃ x i' h', spec_l01Below.f l i h n = some (x, i', h') ∧ 0 ≤ x ∧ (0 < n → x < n) ∧ (n ≤ 0 → x = 0) ∧ CurOk l i' := by
  unfold spec_l01Below.f
  by_cases h0 : n ≤ 0
  · simp only [h0, ↓reduceIte]
    exact ⟨0, i, h, rfl, by omega, fun hn => by omega, fun _ => rfl, hi⟩
  · have hn : ¬ n = 0 := by omega
    by_cases h1 : n ≤ 256
    · obtain ⟨x, i', h', e, x0, x1, hc⟩ := spec_l01Byte_eq hl hi h
      simp only [h0, h1, hn, e, ↓reduceIte, Option.bind_some]
      refine ⟨_, _, _, rfl, ?_, fun _ => ?_, fun hh => by first | exact hh.elim | exact absurd hh h0, hc⟩
      · rw [tmod_pos x0]
        exact Int.emod_nonneg _ hn
      · rw [tmod_pos x0]
        exact Int.emod_lt_of_pos _ (by omega)
    · obtain ⟨x, i1, h1', e1, x0, x1, hc1⟩ := spec_l01Byte_eq hl hi h
      obtain ⟨y, i2, h2', e2, y0, y1, hc2⟩ := spec_l01Byte_eq hl hc1 h1'
      obtain ⟨z, i3, h3', e3, z0, z1, hc3⟩ := spec_l01Byte_eq hl hc2 h2'
      obtain ⟨v, i4, h4', e4, v0, v1, hc4⟩ := spec_l01Byte_eq hl hc3 h3'
      simp only [h0, h1, hn, e1, e2, e3, e4, ↓reduceIte, Option.bind_some]
      have ew : wrap64 ((wrap64 ((wrap64 ((wrap64 (x * 16777216)) + (wrap64 (y * 65536)))) + (wrap64 (z * 256)))) + v) = x * 16777216 + y * 65536 + z * 256 + v := by
        rw [wrap_id (x := x * 16777216) (by omega) (by omega), wrap_id (x := y * 65536) (by omega) (by omega), wrap_id (x := z * 256) (by omega) (by omega),
          wrap_id (x := x * 16777216 + y * 65536) (by omega) (by omega), wrap_id (x := x * 16777216 + y * 65536 + z * 256) (by omega) (by omega), wrap_id (by omega) (by omega)]
      refine ⟨_, _, _, rfl, ?_, fun _ => ?_, fun hh => by first | exact hh.elim | exact absurd hh h0, hc4⟩
      · rw [ew, tmod_pos (by omega)]
        exact Int.emod_nonneg _ hn
      · rw [ew, tmod_pos (by omega)]
        exact Int.emod_lt_of_pos _ (by omega)
theorem curOk_zero (l : List Int) : CurOk l 0 := ⟨by omega, by omega⟩

theorem spec_DrawPlaces_l0 {l : List Int} (hl : l.length ≤ 9223372036854775807) (d : Nat) : ∀ (j : Nat) (acc : List Int) (i h : Int), j + d = 12 → acc.length = j → (∀ x ∈ acc, 0 ≤ x ∧ x < 10000) → CurOk l i →
    ∃ r, Ev (fun k => spec_DrawPlaces.l0 k acc (j : Int) l i h) r ∧ r.length = 12 ∧ ∀ x ∈ r, 0 ≤ x ∧ x < 10000 := by
  induction d with
  | zero =>
    intro j acc i h hj ha hx hc
    refine ⟨acc, Ev.shift ?_, by omega, hx⟩
    simp only [spec_DrawPlaces.l0, show ¬ (j : Int) < 12 from by omega, ↓reduceIte]
    exact Ev.now _
  | succ d ih =>
    intro j acc i h hj ha hx hc
    obtain ⟨x, i', h', e, x0, x1, _, hc'⟩ := spec_l01Below_eq hl hc h 10000
    have h6 : wrap64 ((j : Int) + 1) = ((j + 1 : Nat) : Int) := by rw [wrap_id (by omega) (by omega)]; omega
    obtain ⟨r, hr, hrl, hrx⟩ := ih (j + 1) (acc ++ [x]) i' h' (by omega) (by simp; omega) (fun y hy => by
      rcases List.mem_append.1 hy with hy | hy
      · exact hx y hy
      · rw [List.mem_singleton.1 hy]; exact ⟨x0, x1 (by omega)⟩) hc'
    refine ⟨r, Ev.shift ?_, hrl, hrx⟩
    have hlt : acc.length < 17592186044416 := by omega
    simp only [spec_DrawPlaces.l0, show (j : Int) < 12 from by omega, e, h6, hlt, ↓reduceIte, Option.bind_some]
    exact hr
theorem spec_DrawPlaces_ev {l : List Int} (hl : l.length ≤ 9223372036854775807) : ∃ r, Ev (fun k => spec_DrawPlaces.f k l) r ∧ r.length = 12 ∧ ∀ x ∈ r, 0 ≤ x ∧ x < 10000 := by
  obtain ⟨h, hn⟩ := spec_l01New_ev l
  obtain ⟨x, i', h', e, _, _, hc⟩ := spec_l01Byte_eq hl (curOk_zero l) h
  obtain ⟨r, hr, hrl, hrx⟩ := spec_DrawPlaces_l0 hl 12 0 [] i' h' rfl rfl (fun _ hx => by simp at hx) hc
  refine ⟨r, ?_, hrl, hrx⟩
  unfold spec_DrawPlaces.f
  refine Ev.bind hn ?_
  simp only [e, Option.bind_some]
  exact hr

theorem cnt_cntTo {a : Int} (h : 0 ≤ a) : cnt a = cntTo 7 a := by
  unfold cnt
  by_cases h0 : a > 0
  · rw [if_pos h0]
  · obtain rfl : a = 0 := by omega
    rw [if_neg h0, cntTo_zero]
theorem bitAt_high {a : Int} {n i : Nat} (h0 : 0 ≤ a) (h1 : a < 2 ^ n) (hi : n ≤ i) : bitAt a i = 0 := by
  unfold bitAt
  have h2 : (2 : Int) ^ n ≤ 2 ^ i := by
    have := Nat.pow_le_pow_right (n := 2) (by decide) hi
    exact_mod_cast this
  rw [Int.ediv_eq_zero_of_lt h0 (by omega)]
  rfl
theorem cntTo_high {a : Int} {n : Nat} (h0 : 0 ≤ a) (h1 : a < 2 ^ n) (d : Nat) : cntTo (n + d) a = cntTo n a := by
  induction d with
  | zero => rfl
  | succ d ih =>
    show cntTo (n + d) a + bitAt a (n + d) = _
    rw [ih, bitAt_high h0 h1 (by omega)]
    omega
theorem quorums_turn {v n : Int} (h0 : 1 ≤ n) (h1 : n ≤ 7) (v0 : 0 ≤ v) : (v + 4) / 4 % n = (v / 4 % n + 1) % n := by
  have h : n = 1 ∨ n = 2 ∨ n = 3 ∨ n = 4 ∨ n = 5 ∨ n = 6 ∨ n = 7 := by omega
  rcases h with rfl | rfl | rfl | rfl | rfl | rfl | rfl <;> omega
set_option maxHeartbeats 1000000 in
theorem quorums_j1 {p : List Int} (hp : p.length = 12) (hx : ∀ x ∈ p, 0 ≤ x ∧ x < 10000) {n both : Int} (h0 : 1 ≤ n) (h1 : n ≤ 7) (e : Bool) (he : e = true → both > (n - 1) / 3) :
    Ev (fun k => laws_FnQuorums.j1 k p n both e) true := by
  refine Ev.shift ?_
  have h3 : (3 : Int) < (p.length : Int) := by omega
  have hr := hx _ (rd_mem (l := p) (i := 3) (by omega) (by omega))
  have ev : Int.tmod (rd p 3) 200 = rd p 3 % 200 := tmod_pos hr.1
  have v0 : 0 ≤ rd p 3 % 200 := by omega
  have v1 : rd p 3 % 200 ≤ 199 := by omega
  have hF := impl_Faults_eq h0 (by omega : n ≤ 9223372036854775807)
  have hQ := impl_Quorum_eq h0 (by omega : n ≤ 9223372036854775807)
  generalize rd p 3 % 200 = v at ev v0 v1
  have eq1 : wrap64 (n - (n - 1) / 3 + (n - 1) / 3) = n := by rw [wrap_id (by omega) (by omega)]; omega
  have w1 : wrap64 (v + 4) = v + 4 := wrap_id (by omega) (by omega)
  have w2 : wrap64 (4 * v) = 4 * v := wrap_id (by omega) (by omega)
  have w3 : wrap64 (4 * v + 3) = 4 * v + 3 := wrap_id (by omega) (by omega)
  have l1 := impl_LeaderOf_eq h0 v0 (by omega)
  have l2 := impl_LeaderOf_eq (v := v + 4) h0 (by omega) (by omega)
  have l3 := impl_LeaderOf_eq (v := 4 * v + 3) h0 (by omega) (by omega)
  have l4 := impl_LeaderOf_eq (v := 4 * v) h0 (by omega) (by omega)
  have m0 : v / 4 % n ≥ 0 := Int.emod_nonneg _ (by omega)
  have m1 : v / 4 % n < n := Int.emod_lt_of_pos _ (by omega)
  have w4 : wrap64 (v / 4 % n + 1) = v / 4 % n + 1 := wrap_id (by omega) (by omega)
  have t1 : Int.tmod (v / 4 % n + 1) n = (v / 4 % n + 1) % n := tmod_pos (by omega)
  have tu := quorums_turn h0 h1 v0
  have hn : ¬ n = 0 := by omega
  have f1 : (4 * v + 3) / 4 = v := by omega
  have f2 : 4 * v / 4 = v := by omega
  cases e with
  | true =>
    have hb := he rfl
    simp only [laws_FnQuorums.j1, h3, ev, hF, hQ, hb, eq1, w1, w2, w3, l1, l2, l3, l4, m0, m1, w4, t1, tu, hn, f1, f2, ↓reduceIte, Option.bind_some, beq_self_eq_true]
    exact Ev.now _
  | false =>
    simp only [laws_FnQuorums.j1, h3, ev, hF, hQ, eq1, w1, w2, w3, l1, l2, l3, l4, m0, m1, w4, t1, tu, hn, f1, f2, ↓reduceIte, Option.bind_some, beq_self_eq_true, Bool.false_eq_true]
    exact Ev.now _
set_option maxHeartbeats 1000000 in
theorem quorums_l0 {p : List Int} (hp : p.length = 12) (hx : ∀ x ∈ p, 0 ≤ x ∧ x < 10000) {n : Nat} (h0 : 1 ≤ n) (h1 : n ≤ 7) {a b : Int} (ha : 0 ≤ a) (ha7 : a ≤ 9223372036854775807) (hb : 0 ≤ b) (hb7 : b ≤ 9223372036854775807)
    (ca : cnt a = cntTo n a) (cb : cnt b = cntTo n b) (d : Nat) :
    ∀ (i : Nat) (both : Int), i + d = n → cntTo i a + cntTo i b - i ≤ both → 0 ≤ both → both ≤ i → Ev (fun k => laws_FnQuorums.l0 k p (n : Int) a b both (i : Int)) true := by
  induction d with
  | zero =>
    intro i both hi hlow hb0 hb1
    obtain rfl : i = n := by omega
    refine Ev.shift ?_
    have hQ := impl_Quorum_eq (n := (i : Int)) (by omega) (by omega)
    simp only [laws_FnQuorums.l0, show ¬ (i : Int) < (i : Int) from by omega, ↓reduceIte]
    refine Ev.bind (impl_CountOf_ev a ha7) ?_
    simp only [hQ, Option.bind_some]
    by_cases hq : cnt a ≥ (i : Int) - ((i : Int) - 1) / 3
    · simp only [hq, ↓reduceIte]
      refine Ev.bind (impl_CountOf_ev b hb7) ?_
      refine quorums_j1 hp hx (by omega) (by omega) _ fun he => ?_
      have he' := of_decide_eq_true he
      omega
    · simp only [hq, ↓reduceIte]
      exact quorums_j1 hp hx (by omega) (by omega) _ fun he => by cases he
  | succ d ih =>
    intro i both hi hlow hb0 hb1
    have ra := bitAt_range a i
    have rb := bitAt_range b i
    have sa : cntTo (i + 1) a = cntTo i a + bitAt a i := rfl
    have sb : cntTo (i + 1) b = cntTo i b + bitAt b i := rfl
    have c1 : (i : Int) < (n : Int) := by omega
    have c3 : (0 : Int) ≤ (i : Int) := by omega
    have hi7 : i < 7 := by omega
    have m1 : (i : Int) ≤ 9223372036854775807 := by omega
    have m2 : -9223372036854775808 ≤ (i : Int) + 1 := by omega
    have m3 : (i : Int) + 1 ≤ 9223372036854775807 := by omega
    have m4 : (i : Int) + 1 = ((i + 1 : Nat) : Int) := by omega
    have m5 : -9223372036854775808 ≤ both + 1 := by omega
    have m6 : both + 1 ≤ 9223372036854775807 := by omega
    have k1 : i + 1 + d = n := by omega
    have k2 : (bitAt a i = 1 → bitAt b i = 1 → cntTo (i + 1) a + cntTo (i + 1) b - ((i + 1 : Nat) : Int) ≤ both + 1) := by omega
    have k3 : (¬ (bitAt a i = 1 ∧ bitAt b i = 1) → cntTo (i + 1) a + cntTo (i + 1) b - ((i + 1 : Nat) : Int) ≤ both) := by omega
    have k4 : 0 ≤ both + 1 := by omega
    have k5 : both + 1 ≤ ((i + 1 : Nat) : Int) := by omega
    have k6 : both ≤ ((i + 1 : Nat) : Int) := by omega
    have m7 : wrap64 ((i : Int) + 1) = ((i + 1 : Nat) : Int) := (wrap_id m2 m3).trans m4
    refine Ev.shift ?_
    by_cases ha1 : bitAt a i = 1
    · by_cases hb1' : bitAt b i = 1
      · simp only [laws_FnQuorums.l0, c1, u64_id c3 m1, c3, shr_tmod ha ha7 hi7, shr_tmod hb hb7 hi7, ha1, hb1', wrap_id m5 m6, m7, ↓reduceIte]
        exact ih (i + 1) (both + 1) k1 (k2 ha1 hb1') k4 k5
      · simp only [laws_FnQuorums.l0, c1, u64_id c3 m1, c3, shr_tmod ha ha7 hi7, shr_tmod hb hb7 hi7, ha1, hb1', m7, ↓reduceIte]
        exact ih (i + 1) both k1 (k3 fun h => hb1' h.2) hb0 k6
    · simp only [laws_FnQuorums.l0, c1, u64_id c3 m1, c3, shr_tmod ha ha7 hi7, ha1, m7, ↓reduceIte]
      exact ih (i + 1) both k1 (k3 fun h => ha1 h.1) hb0 k6
set_option maxHeartbeats 1000000 in
theorem FnQuorums : laws_FnQuorums.Pure := by
  intro l hl0 hl1 hw
  have hl : l.length ≤ 9223372036854775807 := by omega
  refine Ev.rounds ?_
  unfold laws_FnQuorums.f laws_big.f
  by_cases hbig : (l.length : Int) > 1048576
  · simp only [hbig, decide_true, Option.bind_some, ↓reduceIte]
    exact Ev.now _
  · simp only [hbig, decide_false, Option.bind_some, ↓reduceIte, Bool.false_eq_true]
    obtain ⟨p, hp, hpl, hpx⟩ := spec_DrawPlaces_ev hl
    refine Ev.bind hp ?_
    have q0 := hpx _ (rd_mem (l := p) (i := 0) (by omega) (by omega))
    have q1 := hpx _ (rd_mem (l := p) (i := 1) (by omega) (by omega))
    have q2 := hpx _ (rd_mem (l := p) (i := 2) (by omega) (by omega))
    obtain ⟨n, hn⟩ : ∃ n : Nat, 1 + rd p 0 % 7 = (n : Int) := ⟨(1 + rd p 0 % 7).toNat, by omega⟩
    have e0 : wrap64 (1 + Int.tmod (rd p 0) 7) = (n : Int) := by rw [tmod_pos q0.1, wrap_id (by omega) (by omega), hn]
    have e1 : IntKind.u64.wrap (n : Int) = (n : Int) := u64_id (by omega) (by omega)
    have hn1 : 1 ≤ n := by omega
    have hn7 : n ≤ 7 := by omega
    have hpow : (0 : Int) < 2 ^ n := Int.pow_pos (by decide)
    have hpow' : (2 : Int) ^ n ≤ 2 ^ 7 := by
      have := Nat.pow_le_pow_right (n := 2) (by decide) hn7
      exact_mod_cast this
    have hpow7 : (2 : Int) ^ 7 = 128 := by decide
    have es : shl .i64 1 (n : Int) = 2 ^ n := by
      unfold shl
      rw [Int.toNat_natCast, Nat.min_eq_left (by simp [IntKind.bits]; omega), Int.one_mul]
      exact wraps_i64 _ (by omega) (by omega)
    have c0 : (0 : Int) < (p.length : Int) := by omega
    have c1 : (1 : Int) < (p.length : Int) := by omega
    have c2 : (2 : Int) < (p.length : Int) := by omega
    have c3 : (0 : Int) ≤ (n : Int) := by omega
    have c4 : ¬ (2 : Int) ^ n = 0 := by omega
    simp only [e0, e1, es, c0, c1, c2, c3, c4, ↓reduceIte]
    rw [tmod_pos q1.1, tmod_pos q2.1]
    have a0 := Int.emod_nonneg (rd p 1) c4
    have a1 := Int.emod_lt_of_pos (rd p 1) hpow
    have b0 := Int.emod_nonneg (rd p 2) c4
    have b1 := Int.emod_lt_of_pos (rd p 2) hpow
    have ca : ∀ x : Int, 0 ≤ x → x < 2 ^ n → cnt x = cntTo n x := fun x x0 x1 => by
      rw [cnt_cntTo x0, ← cntTo_high x0 x1 (7 - n)]
      congr 1
      omega
    exact quorums_l0 hpl hpx hn1 hn7 a0 (by omega) b0 (by omega) (ca _ a0 a1) (ca _ b0 b1) n 0 0 (by omega) (by simp [cntTo]) (by omega) (by omega)

end Go.Proofs.Ytggnchbalheicaa.Pure
