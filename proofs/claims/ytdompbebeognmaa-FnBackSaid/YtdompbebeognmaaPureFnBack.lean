/- For every input that the statement reads, the law FnBack of the given program returns true and leaves its arguments as they were. Conditions: none but the statement's own. -/
import Derived.Test.YtdompbebeognmaaQFnBackx12
import Derived.Test.YtdompbebeognmaaTcLib
import Derived.Test.YtdompbebeognmaaTcLibList
import Derived.Test.YtdompbebeognmaaTcLibText
set_option linter.unusedVariables false
set_option linter.unusedSimpArgs false
namespace Go.Proofs.Ytdompbebeognmaa.Pure
open Go.RowKit Go.Proofs.Ytdompbebeognmaa.QFnBack Go.Proofs.YtdompbebeognmaaW.PrintWords Go.Proofs.YtdompbebeognmaaW.PrintLast Go.Proofs.YtdompbebeognmaaW.PrintMore Go.Proofs.Ytdompbebeognmaa.Lib

theorem spec_l01New_l0 (l : List Int) (d : Nat) : ∀ (i : Nat) (x : Int), i + d = 4000 → ∃ h, Ev (fun k => spec_l01New.l0 k l x (i : Int)) (l, 0, h) := by
  induction d with
  | zero =>
    intro i x hi
    refine ⟨x, Ev.shift ?_⟩
    have h2 : ¬ (i : Int) < 4000 := by omega
    by_cases h1 : (i : Int) < (l.length : Int)
    · simp only [spec_l01New.l0, h1, h2, ↓reduceIte]
      exact Ev.now _
    · simp only [spec_l01New.l0, h1, ↓reduceIte]
      exact Ev.now _
  | succ d ih =>
    intro i x hi
    have h2 : (i : Int) < 4000 := by omega
    have h4 : (0 : Int) ≤ i := by omega
    have h6 : wrap64 ((i : Int) + 1) = ((i + 1 : Nat) : Int) := by rw [wrap_id (by omega) (by omega)]; omega
    by_cases h1 : (i : Int) < (l.length : Int)
    · obtain ⟨h, hh⟩ := ih (i + 1) (Go.bits .and .i64 (wrap64 ((wrap64 ((wrap64 (x * 131)) + (wrap64 (rd l (i : Int))))) + 7)) 1073741823) (by omega)
      refine ⟨h, Ev.shift ?_⟩
      simp only [spec_l01New.l0, h1, h2, h4, h6, ↓reduceIte]
      exact hh
    · refine ⟨x, Ev.shift ?_⟩
      simp only [spec_l01New.l0, h1, ↓reduceIte]
      exact Ev.now _
theorem spec_l01New_ev (l : List Int) : ∃ h, Ev (fun k => spec_l01New.f k l) (l, 0, h) := spec_l01New_l0 l 4000 0 _ rfl
/-- A cursor's place lies in its bytes. -/
def CurOk (l : List Int) (i : Int) : Prop := 0 ≤ i ∧ i ≤ (l.length : Int)
theorem spec_l01Byte_eq {l : List Int} (hl : l.length ≤ 9223372036854775807) {i : Int} (hi : CurOk l i) (h : Int) :
    ∃ x i' h', spec_l01Byte.f l i h = some (x, i', h') ∧ 0 ≤ x ∧ x ≤ 255 ∧ CurOk l i' := by
  unfold spec_l01Byte.f
  have hm := fun y => i64_and_range y 255 (by omega)
  by_cases h1 : i < (l.length : Int)
  · have h4 : 0 ≤ i := hi.1
    simp only [h1, h4, ↓reduceIte]
    refine ⟨_, _, _, rfl, (hm _).1, (hm _).2, ?_⟩
    rw [wrap_id (by omega) (by omega)]
    exact ⟨by omega, by omega⟩
  · simp only [h1, ↓reduceIte]
    exact ⟨_, _, _, rfl, (hm _).1, (hm _).2, hi⟩
theorem spec_l01Below_eq {l : List Int} (hl : l.length ≤ 9223372036854775807) {i : Int} (hi : CurOk l i) (h : Int) (n : Int) :
    ∃ x i' h', spec_l01Below.f l i h n = some (x, i', h') ∧ 0 ≤ x ∧ (0 < n → x < n) ∧ (n ≤ 0 → x = 0) ∧ CurOk l i' := by
  unfold spec_l01Below.f
  by_cases h0 : n ≤ 0
  · simp only [h0, ↓reduceIte]
    exact ⟨0, i, h, rfl, by omega, fun hn => by omega, fun _ => rfl, hi⟩
  · have hn : ¬ n = 0 := by omega
    by_cases h1 : n ≤ 256
    · obtain ⟨x, i', h', e, x0, x1, hc⟩ := spec_l01Byte_eq hl hi h
      simp only [h0, h1, hn, e, ↓reduceIte, Option.bind_some]
      refine ⟨_, _, _, rfl, ?_, fun _ => ?_, fun hh => by first | exact hh.elim | exact absurd hh h0, hc⟩
      · rw [tmod_pos x0]
        exact Int.emod_nonneg _ hn
      · rw [tmod_pos x0]
        exact Int.emod_lt_of_pos _ (by omega)
    · obtain ⟨x, i1, h1', e1, x0, x1, hc1⟩ := spec_l01Byte_eq hl hi h
      obtain ⟨y, i2, h2', e2, y0, y1, hc2⟩ := spec_l01Byte_eq hl hc1 h1'
      obtain ⟨z, i3, h3', e3, z0, z1, hc3⟩ := spec_l01Byte_eq hl hc2 h2'
      obtain ⟨v, i4, h4', e4, v0, v1, hc4⟩ := spec_l01Byte_eq hl hc3 h3'
      simp only [h0, h1, hn, e1, e2, e3, e4, ↓reduceIte, Option.bind_some]
      have ew : wrap64 ((wrap64 ((wrap64 ((wrap64 (x * 16777216)) + (wrap64 (y * 65536)))) + (wrap64 (z * 256)))) + v) = x * 16777216 + y * 65536 + z * 256 + v := by
        rw [wrap_id (x := x * 16777216) (by omega) (by omega), wrap_id (x := y * 65536) (by omega) (by omega), wrap_id (x := z * 256) (by omega) (by omega),
          wrap_id (x := x * 16777216 + y * 65536) (by omega) (by omega), wrap_id (x := x * 16777216 + y * 65536 + z * 256) (by omega) (by omega), wrap_id (by omega) (by omega)]
      refine ⟨_, _, _, rfl, ?_, fun _ => ?_, fun hh => by first | exact hh.elim | exact absurd hh h0, hc4⟩
      · rw [ew, tmod_pos (by omega)]
        exact Int.emod_nonneg _ hn
      · rw [ew, tmod_pos (by omega)]
        exact Int.emod_lt_of_pos _ (by omega)
theorem curOk_zero (l : List Int) : CurOk l 0 := ⟨by omega, by omega⟩

theorem rdCmd_nat (l : List S103) (i : Nat) (h : i < l.length) : rd_T103 l (i : Int) = l[i] := getD_nat l _ i h

theorem spec_l01Once_eq {l : List Int} (hl : l.length ≤ 9223372036854775807) {i : Int} (hi : CurOk l i) (h : Int) (n : Int) :
    ∃ b i' h', spec_l01Once.f l i h n = some (b, i', h') ∧ CurOk l i' := by
  obtain ⟨x, i', h', e, _, _, _, hc⟩ := spec_l01Below_eq hl hi h n
  exact ⟨_, _, _, by unfold spec_l01Once.f; rw [e]; rfl, hc⟩
theorem spec_l01PickInt_eq {l : List Int} (hl : l.length ≤ 9223372036854775807) {i : Int} (hi : CurOk l i) (h : Int) (c : List Int) (hc : 0 < c.length) :
    ∃ x i' h', spec_l01PickInt.f l i h c = some (x, i', h') ∧ CurOk l i' := by
  obtain ⟨x, i', h', e, x0, x1, _, hc'⟩ := spec_l01Below_eq hl hi h (c.length : Int)
  have x2 := x1 (by omega)
  refine ⟨rd c x, i', h', ?_, hc'⟩
  unfold spec_l01PickInt.f
  simp only [e, x0, x2, Option.bind_some, ↓reduceIte]
theorem spec_l01Pick_eq {l : List Int} (hl : l.length ≤ 9223372036854775807) {i : Int} (hi : CurOk l i) (h : Int) (c : List ByteArray) (hc : 0 < c.length) :
    ∃ x i' h', spec_l01Pick.f l i h c = some (x, i', h') ∧ x ∈ c ∧ CurOk l i' := by
  obtain ⟨x, i', h', e, x0, x1, _, hc'⟩ := spec_l01Below_eq hl hi h (c.length : Int)
  have x2 := x1 (by omega)
  obtain ⟨j, rfl⟩ := Int.eq_ofNat_of_zero_le x0
  have hj : j < c.length := by omega
  refine ⟨rdOf ByteArray.empty c (j : Int), i', h', ?_, ?_, hc'⟩
  · unfold spec_l01Pick.f
    simp only [e, x0, x2, Option.bind_some, ↓reduceIte]
  · rw [show rdOf ByteArray.empty c (j : Int) = c[j] from getD_nat c _ j hj]
    exact List.getElem_mem hj
theorem spec_l03Key_eq {l : List Int} (hl : l.length ≤ 9223372036854775807) {i : Int} (hi : CurOk l i) (h : Int) :
    ∃ s i' h', spec_l03Key.f l i h = some (s, i', h') ∧ s.size ≤ 3 ∧ CurOk l i' := by
  obtain ⟨s, i', h', e, hs, hc⟩ := spec_l01Pick_eq hl hi h (([(⟨#[97]⟩ : ByteArray), (⟨#[98]⟩ : ByteArray), (⟨#[99]⟩ : ByteArray), (⟨#[97, 98, 99]⟩ : ByteArray)] : List ByteArray)) (by decide)
  refine ⟨s, i', h', by unfold spec_l03Key.f; rw [e]; rfl, ?_, hc⟩
  simp only [List.mem_cons, List.not_mem_nil, or_false] at hs
  rcases hs with rfl | rfl | rfl | rfl <;> decide
theorem spec_l03Cmd_eq {l : List Int} (hl : l.length ≤ 9223372036854775807) {i : Int} (hi : CurOk l i) (h : Int) :
    ∃ a s b i' h', spec_l03Cmd.f l i h = some (a, s, b, i', h') ∧ s.size ≤ 3 ∧ CurOk l i' := by
  obtain ⟨x, i1, h1, e1, _, _, _, hc1⟩ := spec_l01Below_eq hl hi h 3
  obtain ⟨s, i2, h2, e2, hs, hc2⟩ := spec_l03Key_eq hl hc1 h1
  obtain ⟨b, i3, h3, e3, hc3⟩ := spec_l01PickInt_eq hl hc2 h2 (([0, 1, 7, 500, 999999999] : List Int)) (by decide)
  exact ⟨_, s, b, i3, h3, by unfold spec_l03Cmd.f; rw [e1, Option.bind_some, e2, Option.bind_some, e3, Option.bind_some], hs, hc3⟩
def CmdsGood (c : List S103) : Prop := c.length ≤ 1000 ∧ ∀ x ∈ c, x.f1.size ≤ 140737488351232
theorem spec_l03Cmds_l0 {l : List Int} (hl : l.length ≤ 9223372036854775807) (d : Nat) : ∀ (j : Nat) (acc : List S103) (i h : Int), j + d = 5 → acc.length = j → (∀ x ∈ acc, x.f1.size ≤ 140737488351232) → CurOk l i →
    ∃ r i' h', Ev (fun k => spec_l03Cmds.l0 k acc (j : Int) l i h) (r, i', h') ∧ CmdsGood r ∧ CurOk l i' := by
  induction d with
  | zero =>
    intro j acc i h hj ha hg hc
    obtain ⟨x, i1, h1, e1, x0, x1, _, hc1⟩ := spec_l01Below_eq hl hc h 5
    have x2 := x1 (by omega)
    refine ⟨acc, i1, h1, Ev.shift ?_, ⟨by omega, hg⟩, hc1⟩
    simp only [spec_l03Cmds.l0, e1, Option.bind_some, show ¬ (j : Int) < x from by omega, ↓reduceIte]
    exact Ev.now _
  | succ d ih =>
    intro j acc i h hj ha hg hc
    obtain ⟨x, i1, h1, e1, x0, x1, _, hc1⟩ := spec_l01Below_eq hl hc h 5
    by_cases hx : (j : Int) < x
    · obtain ⟨a, s, b, i2, h2, e2, hs, hc2⟩ := spec_l03Cmd_eq hl hc1 h1
      have h6 : wrap64 ((j : Int) + 1) = ((j + 1 : Nat) : Int) := by rw [wrap_id (by omega) (by omega)]; omega
      have hlt : acc.length < 4398046511104 := by omega
      obtain ⟨r, i', h', hr, g, c⟩ := ih (j + 1) (acc ++ [⟨a, s, b⟩]) i2 h2 (by omega) (by rw [List.length_append, List.length_singleton]; omega) (fun y hy => by
        rcases List.mem_append.1 hy with hy | hy
        · exact hg y hy
        · rw [List.mem_singleton.1 hy]
          show s.size ≤ _
          omega) hc2
      refine ⟨r, i', h', Ev.shift ?_, g, c⟩
      simp only [spec_l03Cmds.l0, e1, e2, Option.bind_some, hx, hlt, h6, ↓reduceIte]
      exact hr
    · refine ⟨acc, i1, h1, Ev.shift ?_, ⟨by omega, hg⟩, hc1⟩
      simp only [spec_l03Cmds.l0, e1, Option.bind_some, hx, ↓reduceIte]
      exact Ev.now _
theorem spec_l03Cmds_ev {l : List Int} (hl : l.length ≤ 9223372036854775807) {i : Int} (hi : CurOk l i) (h : Int) :
    ∃ r i' h', Ev (fun k => spec_l03Cmds.f k l i h) (r, i', h') ∧ CmdsGood r ∧ CurOk l i' :=
  spec_l03Cmds_l0 hl 5 0 [] i h rfl rfl (fun x hx => by simp at hx) hi

/-- One cell is right: its key, its number. -/
def cellB (c : S92) : Bool := keyB c.f0 && decide (0 ≤ c.f1 ∧ c.f1 ≤ 1000000000)
def keyLt (a b : ByteArray) : Bool := Op.bytesLess a.toList b.toList
/-- Cells from place i on are right, each above the one ahead. -/
def formB (l : List S92) : Nat → Nat → Bool
  | 0, _ => true
  | d + 1, i => cellB (rd_T92 l (i : Int)) && ((i == 0 || keyLt (rd_T92 l ((i - 1 : Nat) : Int)).f0 (rd_T92 l (i : Int)).f0) && formB l d (i + 1))
def cellsB (l : List S92) : Bool := decide ((l.length : Int) ≤ 12) && formB l l.length 0
theorem rdC_nat (l : List S92) (i : Nat) (h : i < l.length) : rd_T92 l (i : Int) = l[i] := getD_nat l _ i h

/-! ### the order of texts -/
theorem less_irrefl : ∀ a : List UInt8, Op.bytesLess a a = false
  | [] => rfl
  | x :: a => by
    have h1 : ¬ x < x := by simp [UInt8.lt_iff_toNat_lt]
    simp [Op.bytesLess, h1, less_irrefl a]
theorem less_trans : ∀ {a b c : List UInt8}, Op.bytesLess a b = true → Op.bytesLess b c = true → Op.bytesLess a c = true
  | _, [], _, h, _ => by cases ‹List UInt8› <;> simp [Op.bytesLess] at h
  | _, _ :: _, [], _, h => by simp [Op.bytesLess] at h
  | [], _ :: _, _ :: _, _, _ => rfl
  | x :: a, y :: b, z :: c, h, h2 => by
    simp only [Op.bytesLess, Bool.or_eq_true, Bool.and_eq_true, decide_eq_true_eq, beq_iff_eq] at h h2 ⊢
    rcases h with h | ⟨rfl, h⟩
    · rcases h2 with h2 | ⟨rfl, h2⟩
      · exact .inl (by rw [UInt8.lt_iff_toNat_lt] at *; omega)
      · exact .inl h
    · rcases h2 with h2 | ⟨rfl, h2⟩
      · exact .inl h2
      · exact .inr ⟨rfl, less_trans h h2⟩
theorem less_tri (a b : List UInt8) (h : Op.bytesLess a b = false) (hne : (a == b) = false) : Op.bytesLess b a = true := by
  have := bless_flip b a
  rw [h, hne] at this
  exact this.symm
theorem less_asymm {a b : List UInt8} (h : Op.bytesLess a b = true) : Op.bytesLess b a = false := by
  cases h2 : Op.bytesLess b a with
  | false => rfl
  | true =>
    have := less_trans h h2
    rw [less_irrefl] at this
    cases this
/-- Each cell's key lies above those ahead of it. -/
def Asc (l : List S92) : Prop := l.Pairwise fun x y => keyLt x.f0 y.f0 = true
theorem formB_get {l : List S92} : ∀ (d i : Nat), i + d = l.length → formB l d i = true → ∀ j, i ≤ j → ∀ h : j < l.length, cellB l[j] = true ∧ (0 < j → keyLt (l[j - 1]'(by omega)).f0 l[j].f0 = true)
  | 0, i, hi, _, j, hj, h => by omega
  | d + 1, i, hi, hf, j, hj, h => by
    simp only [formB, Bool.and_eq_true, Bool.or_eq_true, beq_iff_eq] at hf
    obtain ⟨h1, h2, h3⟩ := hf
    by_cases e : j = i
    · subst e
      rw [rdC_nat l j h] at h1 h2
      refine ⟨h1, fun hp => ?_⟩
      rcases h2 with h2 | h2
      · omega
      · rw [rdC_nat l (j - 1) (by omega)] at h2
        exact h2
    · exact formB_get d (i + 1) (by omega) h3 j (by omega) h
theorem cellsB_asc {l : List S92} (h : cellsB l = true) : Asc l := by
  unfold cellsB at h
  rw [Bool.and_eq_true] at h
  have hg := formB_get l.length 0 (by omega) h.2
  have step : ∀ (n i j : Nat) (he : j = i + 1 + n) (hj : j < l.length), keyLt (l[i]'(by omega)).f0 l[j].f0 = true := by
    intro n
    induction n with
    | zero =>
      rintro i j rfl hj
      exact (hg (i + 1) (by omega) hj).2 (by omega)
    | succ n ih =>
      rintro i j rfl hj
      have h1 := ih i (i + 1 + n) rfl (by omega)
      have h2 := (hg (i + 1 + (n + 1)) (by omega) hj).2 (by omega)
      exact less_trans h1 h2
  refine List.pairwise_iff_getElem.2 fun i j hi hj hij => ?_
  exact step (j - i - 1) i j (by omega) hj
/-- The cell with a key is put in its place. -/
def putC (key : ByteArray) (n : Int) : List S92 → List S92
  | [] => [⟨key, n⟩]
  | x :: xs => if (x.f0.toList == key.toList) = true then ⟨key, n⟩ :: xs else if keyLt x.f0 key = true then x :: putC key n xs else ⟨key, n⟩ :: x :: xs
/-- The reference's way: what lies below, the cell, what lies above. -/
def putS (key : ByteArray) (n : Int) (l : List S92) : List S92 := l.filter (fun x => keyLt x.f0 key) ++ ⟨key, n⟩ :: l.filter (fun x => keyLt key x.f0)
theorem asc_above {x : S92} {xs : List S92} {key : ByteArray} (h : Asc (x :: xs)) (hk : keyLt x.f0 key = false) : ∀ y ∈ xs, keyLt key y.f0 = true := by
  intro y hy
  have h1 : keyLt x.f0 y.f0 = true := (List.pairwise_cons.1 h).1 y hy
  cases e : (x.f0.toList == key.toList) with
  | true =>
    have e2 : x.f0.toList = key.toList := by simpa using e
    unfold keyLt at h1 ⊢
    rw [← e2]
    exact h1
  | false => exact less_trans (less_tri _ _ hk e) h1
theorem putS_eq (key : ByteArray) (n : Int) : ∀ l : List S92, Asc l → putS key n l = putC key n l
  | [], _ => rfl
  | x :: xs, h => by
    have ih := putS_eq key n xs (List.pairwise_cons.1 h).2
    unfold putS at ih ⊢
    simp only [putC, List.filter_cons]
    cases hk : keyLt x.f0 key with
    | true =>
      have h1 : (x.f0.toList == key.toList) = false := by
        cases e : (x.f0.toList == key.toList) with
        | false => rfl
        | true =>
          have e2 : x.f0.toList = key.toList := by simpa using e
          unfold keyLt at hk
          rw [e2, less_irrefl] at hk
          cases hk
      have h2 : keyLt key x.f0 = false := less_asymm hk
      simp only [h1, h2, ↓reduceIte, Bool.false_eq_true]
      rw [← ih]
      rfl
    | false =>
      have ha := asc_above h hk
      have f1 : xs.filter (fun y => keyLt y.f0 key) = [] := List.filter_eq_nil_iff.2 fun y hy => by
        have := less_asymm (ha y hy)
        unfold keyLt
        rw [this]
        decide
      have f2 : xs.filter (fun y => keyLt key y.f0) = xs := List.filter_eq_self.2 ha
      cases e : (x.f0.toList == key.toList) with
      | true =>
        have e2 : x.f0.toList = key.toList := by simpa using e
        have h2 : keyLt key x.f0 = false := by unfold keyLt; rw [e2]; exact less_irrefl _
        simp only [h2, f1, f2, ↓reduceIte, Bool.false_eq_true, List.nil_append]
      | false =>
        have h2 : keyLt key x.f0 = true := less_tri _ _ hk e
        simp only [h2, f1, f2, ↓reduceIte, Bool.false_eq_true, List.nil_append]
theorem idxC_some (p : S92 → Bool) : ∀ (l : List S92) (i j : Nat), idxBy92 p l (i : Int) = ((i + j : Nat) : Int) → (∀ x ∈ l.take j, p x = false) ∧ ∃ h : j < l.length, p l[j] = true
  | [], i, j, h => by simp only [idxBy92] at h; omega
  | y :: ys, i, j, h => by
    simp only [idxBy92] at h
    by_cases hy : p y = true
    · rw [if_pos hy] at h
      obtain rfl : j = 0 := by omega
      exact ⟨fun x hx => by simp at hx, by simp, hy⟩
    · rw [if_neg hy] at h
      cases j with
      | zero =>
        rcases idxBy92_range p ys ((i : Int) + 1) with h2 | h2 <;> omega
      | succ j =>
        obtain ⟨h1, h2, h3⟩ := idxC_some p ys (i + 1) j (by rw [show i + 1 + j = i + (j + 1) from by omega]; exact h)
        refine ⟨fun x hx => ?_, by simpa using h2, by simpa using h3⟩
        rw [List.take_succ_cons] at hx
        rcases List.mem_cons.1 hx with rfl | hx
        · simpa using hy
        · exact h1 x hx
theorem idx_shift (p : S92 → Bool) : ∀ (l : List S92) (i : Int), 0 ≤ i → (idxBy92 p l i = -1 → idxBy92 p l (i + 1) = -1) ∧ (idxBy92 p l i ≠ -1 → idxBy92 p l (i + 1) = idxBy92 p l i + 1)
  | [], i, _ => ⟨fun _ => rfl, fun h => absurd rfl h⟩
  | x :: xs, i, h => by
    by_cases hp : p x = true
    · have e1 : ∀ i, idxBy92 p (x :: xs) i = i := fun i => if_pos hp
      rw [e1, e1]
      exact ⟨fun q => by omega, fun _ => rfl⟩
    · have e1 : ∀ i, idxBy92 p (x :: xs) i = idxBy92 p xs (i + 1) := fun i => if_neg hp
      rw [e1, e1]
      exact idx_shift p xs (i + 1) (by omega)
theorem withC_found {l : List S92} {key : ByteArray} (n : Int) {j : Nat} (h : idxBy92 (fun x => x.f0.toList == key.toList) l 0 = (j : Int)) : withC l key n = l.set j ⟨(rd_T92 l (j : Int)).f0, n⟩ := by
  unfold withC
  rw [h, if_pos (by omega)]
  rfl
theorem withC_not {l : List S92} {key : ByteArray} (n : Int) (h : idxBy92 (fun x => x.f0.toList == key.toList) l 0 = -1) : withC l key n = l.take (posLt key l) ++ ⟨key, n⟩ :: l.drop (posLt key l) := by
  unfold withC
  rw [h, if_neg (by decide)]
theorem withC_eq (key : ByteArray) (n : Int) : ∀ l : List S92, Asc l → withC l key n = putC key n l
  | [], _ => rfl
  | x :: xs, h => by
    have ih := withC_eq key n xs (List.pairwise_cons.1 h).2
    obtain ⟨s1, s2⟩ := idx_shift (fun x => x.f0.toList == key.toList) xs 0 (Int.le_refl _)
    have hr := idxBy92_range (fun x => x.f0.toList == key.toList) xs 0
    rw [Int.zero_add] at s1 s2
    cases e : (x.f0.toList == key.toList) with
    | true =>
      have e2 : x.f0 = key := ba_ext (by simpa using e)
      have e1 : idxBy92 (fun x => x.f0.toList == key.toList) (x :: xs) 0 = ((0 : Nat) : Int) := if_pos e
      have e3 : putC key n (x :: xs) = ⟨key, n⟩ :: xs := if_pos e
      rw [withC_found n e1, e3, ← e2]
      rfl
    | false =>
      have ne : ¬ (x.f0.toList == key.toList) = true := by rw [e]; decide
      have e1 : idxBy92 (fun x => x.f0.toList == key.toList) (x :: xs) 0 = idxBy92 (fun x => x.f0.toList == key.toList) xs 1 := if_neg ne
      have e3 : putC key n (x :: xs) = if keyLt x.f0 key = true then x :: putC key n xs else ⟨key, n⟩ :: x :: xs := if_neg ne
      cases hk : keyLt x.f0 key with
      | true =>
        rw [e3, if_pos hk, ← ih]
        by_cases hm : idxBy92 (fun x => x.f0.toList == key.toList) xs 0 = -1
        · have e4 : posLt key (x :: xs) = posLt key xs + 1 := if_pos hk
          rw [withC_not n hm, withC_not n (e1.trans (s1 hm)), e4]
          rfl
        · have h0 : 0 ≤ idxBy92 (fun x => x.f0.toList == key.toList) xs 0 := by
            rcases hr with hr | hr
            · exact absurd hr hm
            · exact hr.1
          obtain ⟨j, hj⟩ := Int.eq_ofNat_of_zero_le h0
          have e4 : idxBy92 (fun x => x.f0.toList == key.toList) (x :: xs) 0 = ((j + 1 : Nat) : Int) := by
            rw [e1, s2 hm, hj]
            omega
          rw [withC_found n hj, withC_found n e4]
          rfl
      | false =>
        have ha := asc_above h hk
        have hm : idxBy92 (fun x => x.f0.toList == key.toList) xs 0 = -1 := by
          rcases hr with hr | hr
          · exact hr
          · obtain ⟨j, hj⟩ := Int.eq_ofNat_of_zero_le hr.1
            obtain ⟨_, hjl, hh⟩ := idxC_some (fun x => x.f0.toList == key.toList) xs 0 j (by rw [Nat.zero_add]; exact hj)
            have h1 := ha _ (List.getElem_mem hjl)
            have h2 : (xs[j]).f0.toList = key.toList := by simpa using hh
            unfold keyLt at h1
            rw [h2, less_irrefl] at h1
            cases h1
        have hk' : ¬ Op.bytesLess x.f0.toList key.toList = true := by
          have : Op.bytesLess x.f0.toList key.toList = false := hk
          rw [this]
          decide
        have e4 : posLt key (x :: xs) = 0 := if_neg hk'
        rw [e3, if_neg (by rw [hk]; decide), withC_not n (e1.trans (s1 hm)), e4]
        rfl
theorem withC_put {l : List S92} (h : cellsB l = true) (key : ByteArray) (n : Int) : withC l key n = putS key n l := by
  rw [withC_eq key n l (cellsB_asc h), putS_eq key n l (cellsB_asc h)]

/-- What was done to one cell is taken back. -/
def undB (l : List S92) (key : ByteArray) (had : Bool) (n : Int) : List S92 :=
  if cellsB l = true ∧ keyB key = true ∧ (0 ≤ n ∧ n ≤ 1000000000) then (if had = true then putS key n l else l.filter fun x => !(x.f0.toList == key.toList)) else l

theorem rdCell_nat (l : List S92) (i : Nat) (h : i < l.length) : rd_T92 l (i : Int) = l[i] := getD_nat l _ i h

def atB (s : ByteArray) (l : List S92) (i : Int) : Int := idxBy92 (fun x => x.f0.toList == s.toList) l i
theorem atB_range (s : ByteArray) : ∀ (l : List S92) (i : Int), 0 ≤ i → atB s l i = -1 ∨ (i ≤ atB s l i ∧ atB s l i < i + l.length)
  | [], i, _ => .inl rfl
  | c :: l, i, h => by
    have ih := atB_range s l (i + 1) (by omega)
    have hlen : ((c :: l).length : Int) = l.length + 1 := by rw [List.length_cons]; omega
    rw [hlen]
    unfold atB at *
    by_cases hc : (c.f0.toList == s.toList) = true
    · simp only [idxBy92, hc, ↓reduceIte]
      exact .inr ⟨by omega, by omega⟩
    · simp only [idxBy92, hc, ↓reduceIte]
      rcases ih with ih | ih
      · exact .inl ih
      · exact .inr ⟨by omega, by omega⟩

theorem spec_l01In_eq (a b c : Int) : spec_l01In.f a b c = some (decide (b ≤ a ∧ a ≤ c)) := by
  unfold spec_l01In.f
  by_cases h : a ≥ b
  · simp [h]
  · have h' : ¬ b ≤ a := by omega
    simp [h, h']

theorem spec_KeyOk_l0 (s : ByteArray) (hs : s.size ≤ 140737488351232) (d : Nat) : ∀ i : Nat, i + d = s.size → (∀ j : Nat, j < i → 97 ≤ bt s j ∧ bt s j ≤ 122) → Ev (fun k => spec_KeyOk.l0 k s (i : Int)) (keyB s) := by
  induction d with
  | zero =>
    intro i hi h
    obtain rfl : i = s.size := by omega
    refine Ev.shift ?_
    simp only [spec_KeyOk.l0, show ¬ (s.size : Int) < s.size from by omega, ↓reduceIte, spec_l01In_eq, Option.bind_some]
    rw [keyB_low h]
    exact Ev.now _
  | succ d ih =>
    intro i hi h
    refine Ev.shift ?_
    have h1 : (i : Int) < s.size := by omega
    have h4 : (0 : Int) ≤ i := by omega
    have h6 : wrap64 ((i : Int) + 1) = ((i + 1 : Nat) : Int) := by rw [wrap_id (by omega) (by omega)]; omega
    by_cases ha : bt s (i : Int) < 97
    · simp only [spec_KeyOk.l0, h1, h4, ha, ↓reduceIte]
      rw [keyB_not (i := i) (by omega) (by omega)]
      exact Ev.now _
    · by_cases hb : bt s (i : Int) > 122
      · simp only [spec_KeyOk.l0, h1, h4, ha, hb, ↓reduceIte]
        rw [keyB_not (i := i) (by omega) (by omega)]
        exact Ev.now _
      · simp only [spec_KeyOk.l0, h1, h4, ha, hb, h6, ↓reduceIte]
        refine ih (i + 1) (by omega) fun j hj => ?_
        by_cases he : j = i
        · subst he
          omega
        · exact h j (by omega)
theorem spec_KeyOk_ev (s : ByteArray) (hs : s.size ≤ 140737488351232) : Ev (fun k => spec_KeyOk.f k s) (keyB s) :=
  spec_KeyOk_l0 s hs s.size 0 (by omega) (fun j hj => by omega)

def cmdB (kind : Int) (key : ByteArray) (num : Int) : Bool := decide (1 ≤ kind ∧ kind ≤ 3) && (keyB key && decide (0 ≤ num ∧ num ≤ 1000000000))
theorem spec_CmdOk_ev (a : Int) {s : ByteArray} (b : Int) (hs : s.size ≤ 140737488351232) : Ev (fun k => spec_CmdOk.f k a s b) (cmdB a s b) := by
  unfold spec_CmdOk.f cmdB
  simp only [spec_l01In_eq, Option.bind_some]
  by_cases h : decide (1 ≤ a ∧ a ≤ 3) = true
  · simp only [h, ↓reduceIte, Bool.true_and]
    refine Ev.bind (spec_KeyOk_ev s hs) ?_
    by_cases hk : keyB s = true
    · simp only [hk, ↓reduceIte, Bool.true_and]
      exact Ev.now _
    · simp only [Bool.not_eq_true] at hk
      simp only [hk, ↓reduceIte, Bool.false_and, Bool.false_eq_true]
      exact Ev.now _
  · simp only [Bool.not_eq_true] at h
    simp only [h, ↓reduceIte, Bool.false_and, Bool.false_eq_true]
    exact Ev.now _

theorem rdUn_nat (l : List S32) (i : Nat) (h : i < l.length) : rd_T32 l (i : Int) = l[i] := getD_nat l _ i h
/-- What was done is taken back, the last one first. -/
def undDown (us : List S32) : Nat → List S92 → List S92
  | 0, l => l
  | i + 1, l => undDown us i (undB l (rd_T32 us (i : Int)).f0 (rd_T32 us (i : Int)).f1 (rd_T32 us (i : Int)).f2)
theorem cellsB_len {l : List S92} (h : cellsB l = true) : l.length ≤ 12 := by
  unfold cellsB at h
  rw [Bool.and_eq_true, decide_eq_true_eq] at h
  omega
theorem undB_len {l : List S92} {N : Nat} (hN : 25 ≤ N) (h : l.length ≤ N) (key : ByteArray) (had : Bool) (n : Int) : (undB l key had n).length ≤ N := by
  unfold undB putS
  have h1 := List.length_filter_le (fun x : S92 => keyLt x.f0 key) l
  have h2 := List.length_filter_le (fun x : S92 => keyLt key x.f0) l
  have h3 := List.length_filter_le (fun x : S92 => !(x.f0.toList == key.toList)) l
  split
  · rename_i hc
    have h4 := cellsB_len hc.1
    split
    · rw [List.length_append, List.length_cons]
      omega
    · omega
  · exact h
theorem undB_keys {l : List S92} {N : Nat} (h : ∀ c ∈ l, c.f0.size ≤ N) {key : ByteArray} (hk : key.size ≤ N) (had : Bool) (n : Int) : ∀ c ∈ undB l key had n, c.f0.size ≤ N := by
  intro c hc
  unfold undB putS at hc
  split at hc
  · split at hc
    · rcases List.mem_append.1 hc with hc | hc
      · exact h c (List.mem_filter.1 hc).1
      · rcases List.mem_cons.1 hc with rfl | hc
        · exact hk
        · exact h c (List.mem_filter.1 hc).1
    · exact h c (List.mem_filter.1 hc).1
  · exact h c hc
theorem undDown_good (us : List S32) {N M : Nat} (hN : 25 ≤ N) (hu : ∀ u ∈ us, u.f0.size ≤ M) : ∀ (i : Nat) (l : List S92), i ≤ us.length → l.length ≤ N → (∀ c ∈ l, c.f0.size ≤ M) → (undDown us i l).length ≤ N ∧ ∀ c ∈ undDown us i l, c.f0.size ≤ M
  | 0, l, _, h1, h2 => ⟨h1, h2⟩
  | i + 1, l, hi, h1, h2 => by
    have hk := hu _ (List.getElem_mem (show i < us.length from hi))
    rw [← rdUn_nat us i hi] at hk
    exact undDown_good us hN hu i _ (by omega) (undB_len hN h1 _ _ _) (undB_keys h2 hk _ _)

theorem formB_of {l : List S92} (hc : ∀ c ∈ l, cellB c = true) (ha : Asc l) : ∀ (d i : Nat), i + d = l.length → formB l d i = true
  | 0, _, _ => rfl
  | d + 1, i, hi => by
    have hil : i < l.length := by omega
    simp only [formB, Bool.and_eq_true, Bool.or_eq_true, beq_iff_eq]
    refine ⟨?_, ?_, formB_of hc ha d (i + 1) (by omega)⟩
    · rw [rdC_nat l i hil]
      exact hc _ (List.getElem_mem hil)
    · by_cases h0 : i = 0
      · exact .inl h0
      · refine .inr ?_
        rw [rdC_nat l i hil, rdC_nat l (i - 1) (by omega)]
        exact List.pairwise_iff_getElem.1 ha (i - 1) i (by omega) hil (by omega)
theorem cellsB_iff {l : List S92} : cellsB l = true ↔ l.length ≤ 12 ∧ (∀ c ∈ l, cellB c = true) ∧ Asc l := by
  constructor
  · intro h
    refine ⟨cellsB_len h, fun c hc => ?_, cellsB_asc h⟩
    obtain ⟨j, hj, rfl⟩ := List.getElem_of_mem hc
    unfold cellsB at h
    rw [Bool.and_eq_true] at h
    exact (formB_get l.length 0 (by omega) h.2 j (Nat.zero_le _) hj).1
  · rintro ⟨h1, h2, h3⟩
    unfold cellsB
    rw [Bool.and_eq_true, decide_eq_true_eq]
    exact ⟨by omega, formB_of h2 h3 l.length 0 (by omega)⟩
theorem asc_put {l : List S92} (h : Asc l) (key : ByteArray) (n : Int) : Asc (putS key n l) := by
  refine List.pairwise_append.2 ⟨h.sublist List.filter_sublist, List.pairwise_cons.2 ⟨fun y hy => (List.mem_filter.1 hy).2, h.sublist List.filter_sublist⟩, fun x hx y hy => ?_⟩
  have h1 : keyLt x.f0 key = true := (List.mem_filter.1 hx).2
  rcases List.mem_cons.1 hy with rfl | hy
  · exact h1
  · exact less_trans h1 (List.mem_filter.1 hy).2
theorem mem_put {l : List S92} {key : ByteArray} {n : Int} {c : S92} (h : c ∈ putS key n l) : c = ⟨key, n⟩ ∨ c ∈ l := by
  rcases List.mem_append.1 h with h | h
  · exact .inr (List.mem_filter.1 h).1
  · rcases List.mem_cons.1 h with h | h
    · exact .inl h
    · exact .inr (List.mem_filter.1 h).1
theorem put_mem (l : List S92) (key : ByteArray) (n : Int) : (⟨key, n⟩ : S92) ∈ putS key n l := List.mem_append.2 (.inr (List.mem_cons_self ..))
theorem put_len {l : List S92} (h : cellsB l = true) (key : ByteArray) (n : Int) : (putS key n l).length = if atB key l 0 < 0 then l.length + 1 else l.length := by
  rw [← withC_put h]
  rcases atB_range key l 0 (Int.le_refl _) with ha | ⟨h0, h1⟩
  · rw [withC_not n ha, if_pos (by omega), List.length_append, List.length_cons, List.length_take, List.length_drop]
    have := posLt_le key l
    omega
  · obtain ⟨j, hj⟩ := Int.eq_ofNat_of_zero_le h0
    rw [withC_found n hj, List.length_set, if_neg (by omega)]
theorem cellsB_put {l : List S92} (h : cellsB l = true) {key : ByteArray} (hk : keyB key = true) (m : Int) : cellsB (putS key m l) = decide ((0 ≤ m ∧ m ≤ 1000000000) ∧ ¬ (atB key l 0 < 0 ∧ (l.length : Int) ≥ 12)) := by
  obtain ⟨h1, h2, h3⟩ := cellsB_iff.1 h
  rw [Bool.eq_iff_iff, cellsB_iff, decide_eq_true_eq, put_len h key m]
  constructor
  · rintro ⟨q1, q2, _⟩
    refine ⟨?_, fun ⟨a, b⟩ => ?_⟩
    · have := q2 _ (put_mem l key m)
      unfold cellB at this
      rw [Bool.and_eq_true, decide_eq_true_eq] at this
      exact this.2
    · rw [if_pos a] at q1
      omega
  · rintro ⟨q1, q2⟩
    refine ⟨?_, fun c hc => ?_, asc_put h3 key m⟩
    · split
      · omega
      · exact h1
    · rcases mem_put hc with rfl | hc
      · unfold cellB
        rw [Bool.and_eq_true, decide_eq_true_eq]
        exact ⟨hk, q1⟩
      · exact h2 c hc
def finB (l : List S92) (key : ByteArray) (m : Int) : List S92 × Int :=
  if (0 ≤ m ∧ m ≤ 1000000000) ∧ ¬ (atB key l 0 < 0 ∧ (l.length : Int) ≥ 12) then (putS key m l, 0) else (l, 2)
/-- A command is done, or not. -/
def doneB (l : List S92) (kind : Int) (key : ByteArray) (n : Int) : List S92 × Int :=
  if cellsB l = true ∧ cmdB kind key n = true then
    (if kind = 1 then finB l key n else if atB key l 0 < 0 then (l, 1) else if kind = 3 then finB l key ((rd_T92 l (atB key l 0)).f1 - n) else finB l key ((rd_T92 l (atB key l 0)).f1 + n))
  else (l, 2)
theorem cmdB_num {kind : Int} {key : ByteArray} {n : Int} (h : cmdB kind key n = true) : keyB key = true ∧ 0 ≤ n ∧ n ≤ 1000000000 := by
  unfold cmdB at h
  rw [Bool.and_eq_true, Bool.and_eq_true, decide_eq_true_eq, decide_eq_true_eq] at h
  exact ⟨h.2.1, h.2.2⟩
theorem at_num {l : List S92} (h : cellsB l = true) {key : ByteArray} (ha : ¬ atB key l 0 < 0) : 0 ≤ atB key l 0 ∧ atB key l 0 < (l.length : Int) ∧ 0 ≤ (rd_T92 l (atB key l 0)).f1 ∧ (rd_T92 l (atB key l 0)).f1 ≤ 1000000000 := by
  rcases atB_range key l 0 (Int.le_refl _) with h2 | ⟨h0, h1⟩
  · omega
  · obtain ⟨j, hj⟩ := Int.eq_ofNat_of_zero_le h0
    have hjl : j < l.length := by omega
    have := (cellsB_iff.1 h).2.1 _ (List.getElem_mem hjl)
    unfold cellB at this
    rw [Bool.and_eq_true, decide_eq_true_eq] at this
    rw [hj, rdC_nat l j hjl]
    exact ⟨by omega, by omega, this.2.1, this.2.2⟩
theorem finB_len {l : List S92} {N : Nat} (hN : 25 ≤ N) (hc : cellsB l = true) (key : ByteArray) (m : Int) : (finB l key m).1.length ≤ N := by
  unfold finB
  have h4 := cellsB_len hc
  split
  · show (putS key m l).length ≤ N
    rw [put_len hc]
    split <;> omega
  · show l.length ≤ N
    omega
theorem finB_keys {l : List S92} {N : Nat} (h : ∀ c ∈ l, c.f0.size ≤ N) {key : ByteArray} (hk : key.size ≤ N) (m : Int) : ∀ c ∈ (finB l key m).1, c.f0.size ≤ N := by
  intro c hc
  unfold finB at hc
  split at hc
  · rcases mem_put hc with rfl | hc
    · exact hk
    · exact h c hc
  · exact h c hc
theorem doneB_len {l : List S92} {N : Nat} (hN : 25 ≤ N) (h : l.length ≤ N) (kind : Int) (key : ByteArray) (n : Int) : (doneB l kind key n).1.length ≤ N := by
  unfold doneB
  split
  · rename_i hc
    split
    · exact finB_len hN hc.1 _ _
    · split
      · exact h
      · split <;> exact finB_len hN hc.1 _ _
  · exact h
theorem doneB_keys {l : List S92} {N : Nat} (h : ∀ c ∈ l, c.f0.size ≤ N) (kind : Int) {key : ByteArray} (hk : key.size ≤ N) (n : Int) : ∀ c ∈ (doneB l kind key n).1, c.f0.size ≤ N := by
  unfold doneB
  split
  · split
    · exact finB_keys h hk _
    · split
      · exact h
      · split <;> exact finB_keys h hk _
  · exact h

theorem spec_CellAt_l0 (l : List S92) (hl : l.length ≤ 9223372036854775807) (s : ByteArray) (d : Nat) : ∀ i : Nat, i + d = l.length → Ev (fun k => spec_CellAt.l0 k l s (i : Int)) (atB s (l.drop i) (i : Int)) := by
  induction d with
  | zero =>
    intro i hi
    refine Ev.shift ?_
    rw [List.drop_of_length_le (by omega)]
    simp only [spec_CellAt.l0, show ¬ (i : Int) < (l.length : Int) from by omega, ↓reduceIte, atB, idxBy92]
    exact Ev.now _
  | succ d ih =>
    intro i hi
    have hr := ih (i + 1) (by omega)
    have hil : i < l.length := by omega
    have c1 : (i : Int) < (l.length : Int) := by omega
    have c2 : (0 : Int) ≤ (i : Int) := by omega
    refine Ev.shift ?_
    rw [List.drop_eq_getElem_cons hil]
    by_cases hu : (l[i]).f0.toList = s.toList
    · simp only [spec_CellAt.l0, c1, c2, rdCell_nat l i hil, hu, ↓reduceIte, atB, idxBy92, beq_self_eq_true]
      exact Ev.now _
    · have hb : ((l[i]).f0.toList == s.toList) = false := beq_eq_false_iff_ne.2 hu
      simp only [spec_CellAt.l0, c1, c2, rdCell_nat l i hil, hu, ↓reduceIte, atB, idxBy92, hb, int_up hil hl, Bool.false_eq_true]
      exact hr
theorem spec_CellAt_ev (l : List S92) (hl : l.length ≤ 9223372036854775807) (s : ByteArray) : Ev (fun k => spec_CellAt.f k l s) (atB s l 0) := by
  have h := spec_CellAt_l0 l hl s l.length 0 (by omega)
  rw [List.drop_zero] at h
  exact h

def undoB (l : List S92) (s : ByteArray) : ByteArray × Bool × Int := if atB s l 0 < 0 then (s, false, 0) else (s, true, (rd_T92 l (atB s l 0)).f1)
theorem undo_body (l : List S92) (s : ByteArray) : (if atB s l 0 < 0 then (some (s, false, 0)) else (if 0 ≤ atB s l 0 then (if atB s l 0 < (l.length : Int) then (some (s, true, (rd_T92 l (atB s l 0)).f1)) else (none)) else (none))) = some (undoB l s) := by
  unfold undoB
  rcases atB_range s l 0 (by omega) with h | ⟨h1, h2⟩
  · rw [if_pos (by omega), if_pos (by omega)]
  · rw [if_neg (by omega), if_pos (by omega), if_pos (by omega), if_neg (by omega)]
theorem spec_UndoOf_ev (l : List S92) (hl : l.length ≤ 9223372036854775807) (s : ByteArray) : Ev (fun k => spec_UndoOf.f k l s) (undoB l s) := by
  unfold spec_UndoOf.f
  refine Ev.bind (spec_CellAt_ev l hl s) ?_
  rw [undo_body]
  exact Ev.now _

theorem rdCm_nat (l : List S103) (i : Nat) (h : i < l.length) : rd_T103 l (i : Int) = l[i] := getD_nat l _ i h

/-- Commands from place i on, and what takes them back. -/
def backD (cs : List S103) : Nat → Nat → List S92 → List S32 → List S92 × List S32
  | 0, _, l, us => (l, us)
  | d + 1, i, l, us => backD cs d (i + 1) (doneB l (rd_T103 cs (i : Int)).f0 (rd_T103 cs (i : Int)).f1 (rd_T103 cs (i : Int)).f2).1 (us ++ [⟨(undoB l (rd_T103 cs (i : Int)).f1).1, (undoB l (rd_T103 cs (i : Int)).f1).2.1, (undoB l (rd_T103 cs (i : Int)).f1).2.2⟩])
theorem undoB_key (l : List S92) (s : ByteArray) : (undoB l s).1 = s := by
  unfold undoB
  split <;> rfl
theorem backD_good (cs : List S103) {N M : Nat} (hN : 25 ≤ N) (hu : ∀ c ∈ cs, c.f1.size ≤ M) : ∀ (d i : Nat) (l : List S92) (us : List S32), i + d = cs.length → l.length ≤ N → (∀ c ∈ l, c.f0.size ≤ M) → (∀ u ∈ us, u.f0.size ≤ M) →
    (backD cs d i l us).1.length ≤ N ∧ (∀ c ∈ (backD cs d i l us).1, c.f0.size ≤ M) ∧ (backD cs d i l us).2.length = us.length + d ∧ ∀ u ∈ (backD cs d i l us).2, u.f0.size ≤ M
  | 0, i, l, us, _, h1, h2, h3 => ⟨h1, h2, rfl, h3⟩
  | d + 1, i, l, us, hi, h1, h2, h3 => by
    have hil : i < cs.length := by omega
    have hk := hu _ (List.getElem_mem hil)
    rw [← rdCm_nat cs i hil] at hk
    obtain ⟨q1, q2, q3, q4⟩ := backD_good cs hN hu d (i + 1) (doneB l (rd_T103 cs (i : Int)).f0 (rd_T103 cs (i : Int)).f1 (rd_T103 cs (i : Int)).f2).1 (us ++ [⟨(undoB l (rd_T103 cs (i : Int)).f1).1, (undoB l (rd_T103 cs (i : Int)).f1).2.1, (undoB l (rd_T103 cs (i : Int)).f1).2.2⟩]) (by omega) (doneB_len hN h1 _ _ _) (doneB_keys h2 _ hk _) (fun u hu2 => by
      rcases List.mem_append.1 hu2 with hu2 | hu2
      · exact h3 u hu2
      · rw [List.mem_singleton.1 hu2]
        show (undoB l _).1.size ≤ M
        rw [undoB_key]
        exact hk)
    refine ⟨q1, q2, ?_, q4⟩
    show (backD cs d (i + 1) _ _).2.length = _
    rw [q3, List.length_append, List.length_singleton]
    omega

theorem spec_CellsOk_l0 (l : List S92) (hl : l.length ≤ 9223372036854775807) (hk : ∀ c ∈ l, c.f0.size ≤ 140737488351232) (d : Nat) : ∀ i : Nat, i + d = l.length →
    Ev (fun k => spec_CellsOk.l0 k l (i : Int)) (formB l d i && decide ((l.length : Int) ≤ 12)) := by
  induction d with
  | zero =>
    intro i hi
    refine Ev.shift ?_
    simp only [spec_CellsOk.l0, show ¬ (i : Int) < (l.length : Int) from by omega, ↓reduceIte, formB, Bool.true_and]
    exact Ev.now _
  | succ d ih =>
    intro i hi
    have hr := ih (i + 1) (by omega)
    have hil : i < l.length := by omega
    have c1 : (i : Int) < (l.length : Int) := by omega
    have c2 : (0 : Int) ≤ (i : Int) := by omega
    have hup := int_up hil hl
    have hs : (rd_T92 l (i : Int)).f0.size ≤ 140737488351232 := by rw [rdC_nat l i hil]; exact hk _ (List.getElem_mem hil)
    refine Ev.shift ?_
    simp only [spec_CellsOk.l0, c1, c2, ↓reduceIte, formB, cellB]
    refine Ev.bind (spec_KeyOk_ev _ hs) ?_
    by_cases k1 : keyB (rd_T92 l (i : Int)).f0 = true
    · by_cases k2 : 0 ≤ (rd_T92 l (i : Int)).f1 ∧ (rd_T92 l (i : Int)).f1 ≤ 1000000000
      · simp only [k1, spec_l01In_eq, decide_eq_true k2, Option.bind_some, ↓reduceIte, Bool.true_and]
        by_cases k3 : i = 0
        · subst k3
          simp only [show ¬ ((0 : Nat) : Int) > 0 from by decide, ↓reduceIte, beq_self_eq_true, Bool.true_or, Bool.true_and]
          rw [hup]
          exact hr
        · have c3 : (i : Int) > 0 := by clear hup; omega
          have m1 : -9223372036854775808 ≤ (i : Int) - 1 := by clear hup; omega
          have m2 : (i : Int) - 1 ≤ 9223372036854775807 := by clear hup; omega
          have m3 : (i : Int) - 1 = ((i - 1 : Nat) : Int) := by clear hup; omega
          have c4 : (0 : Int) ≤ ((i - 1 : Nat) : Int) := by clear hup; omega
          have c5 : ((i - 1 : Nat) : Int) < (l.length : Int) := by clear hup; omega
          have e1 : wrap64 ((i : Int) - 1) = ((i - 1 : Nat) : Int) := (wrap_id m1 m2).trans m3
          have e2 : (i == 0) = false := by simpa using k3
          simp only [c3, e1, c4, c5, ↓reduceIte, e2, Bool.false_or, keyLt]
          by_cases k4 : Op.bytesLess (rd_T92 l ((i - 1 : Nat) : Int)).f0.toList (rd_T92 l (i : Int)).f0.toList = true
          · simp only [k4, ↓reduceIte, Bool.true_and, hup]
            exact hr
          · simp only [Bool.not_eq_true] at k4
            simp only [k4, ↓reduceIte, Bool.false_and, Bool.false_eq_true]
            exact Ev.now _
      · simp only [k1, spec_l01In_eq, decide_eq_false k2, Option.bind_some, ↓reduceIte, Bool.true_and, Bool.false_and, Bool.false_eq_true]
        exact Ev.now _
    · simp only [Bool.not_eq_true] at k1
      simp only [k1, ↓reduceIte, Bool.false_and, Bool.false_eq_true]
      exact Ev.now _
theorem spec_CellsOk_ev (l : List S92) (hl : l.length ≤ 9223372036854775807) (hk : ∀ c ∈ l, c.f0.size ≤ 140737488351232) : Ev (fun k => spec_CellsOk.f k l) (cellsB l) := by
  have h := spec_CellsOk_l0 l hl hk l.length 0 (by omega)
  rw [Bool.and_comm] at h
  exact h

theorem spec_l03Put_l1 (l : List S92) (hl : l.length ≤ 4294967296) (key : ByteArray) (n : Int) (d : Nat) : ∀ (i : Nat) (acc : List S92), i + d = l.length → acc.length ≤ 4294967300 + i →
    Ev (fun k => spec_l03Put.l1 k l acc (i : Int) key n) (acc ++ (l.drop i).filter (fun x => keyLt key x.f0)) := by
  induction d with
  | zero =>
    intro i acc hi ha
    refine Ev.shift ?_
    simp only [spec_l03Put.l1, show ¬ (i : Int) < (l.length : Int) from by omega, ↓reduceIte]
    rw [List.drop_eq_nil_of_le (by omega)]
    simp only [List.filter_nil, List.append_nil]
    exact Ev.now _
  | succ d ih =>
    intro i acc hi ha
    have hil : i < l.length := by omega
    have c1 : (i : Int) < (l.length : Int) := by omega
    have c2 : (0 : Int) ≤ (i : Int) := by omega
    have c3 : acc.length < 5864062014805 := by omega
    have hup := int_up hil (by omega)
    rw [List.drop_eq_getElem_cons hil, List.filter_cons]
    refine Ev.shift ?_
    simp only [spec_l03Put.l1, c1, c2, c3, hup, ↓reduceIte, rdC_nat l i hil]
    by_cases h : Op.bytesLess key.toList (l[i]).f0.toList = true
    · have h' : keyLt key (l[i]).f0 = true := h
      simp only [h, h', ↓reduceIte]
      have := ih (i + 1) (acc ++ [l[i]]) (by omega) (by rw [List.length_append, List.length_singleton]; omega)
      rw [List.append_assoc] at this
      exact this
    · have h' : ¬ keyLt key (l[i]).f0 = true := h
      simp only [h, h', ↓reduceIte]
      exact ih (i + 1) acc (by omega) (by omega)
theorem spec_l03Put_l0 (l : List S92) (hl : l.length ≤ 4294967296) (key : ByteArray) (n : Int) (d : Nat) : ∀ (i : Nat) (acc : List S92), i + d = l.length → acc.length ≤ i →
    Ev (fun k => spec_l03Put.l0 k l acc (i : Int) key n) (acc ++ (l.drop i).filter (fun x => keyLt x.f0 key) ++ ⟨key, n⟩ :: l.filter (fun x => keyLt key x.f0)) := by
  induction d with
  | zero =>
    intro i acc hi ha
    refine Ev.shift ?_
    have c3 : acc.length < 5864062014805 := by omega
    simp only [spec_l03Put.l0, show ¬ (i : Int) < (l.length : Int) from by omega, c3, ↓reduceIte]
    rw [List.drop_eq_nil_of_le (by omega)]
    simp only [List.filter_nil, List.append_nil]
    have := spec_l03Put_l1 l hl key n l.length 0 (acc ++ [⟨key, n⟩]) (by omega) (by rw [List.length_append, List.length_singleton]; omega)
    rw [List.append_assoc, List.drop_zero] at this
    exact this
  | succ d ih =>
    intro i acc hi ha
    have hil : i < l.length := by omega
    have c1 : (i : Int) < (l.length : Int) := by omega
    have c2 : (0 : Int) ≤ (i : Int) := by omega
    have c3 : acc.length < 5864062014805 := by omega
    have hup := int_up hil (by omega)
    rw [List.drop_eq_getElem_cons hil, List.filter_cons]
    refine Ev.shift ?_
    simp only [spec_l03Put.l0, c1, c2, c3, hup, ↓reduceIte, rdC_nat l i hil]
    by_cases h : Op.bytesLess (l[i]).f0.toList key.toList = true
    · have h' : keyLt (l[i]).f0 key = true := h
      simp only [h, h', ↓reduceIte]
      have := ih (i + 1) (acc ++ [l[i]]) (by omega) (by rw [List.length_append, List.length_singleton]; omega)
      rw [List.append_assoc acc] at this
      exact this
    · have h' : ¬ keyLt (l[i]).f0 key = true := h
      simp only [h, h', ↓reduceIte]
      exact ih (i + 1) acc (by omega) (by omega)
theorem spec_l03Put_ev (l : List S92) (hl : l.length ≤ 4294967296) (key : ByteArray) (n : Int) : Ev (fun k => spec_l03Put.f k l key n) (putS key n l) :=
  spec_l03Put_l0 l hl key n l.length 0 [] (by omega) (Nat.le_refl _)

theorem spec_Done_j1 (l : List S92) (hl : l.length ≤ 4294967296) {key : ByteArray} (m : Int) (a : Int) (b : ByteArray) (c : Int) (ha : b = key) :
    Ev (fun k => spec_Done.j1 k l l (atB key l 0) m a b c) (finB l key m) := by
  subst ha
  refine Ev.shift ?_
  simp only [spec_Done.j1, spec_l01In_eq, Option.bind_some]
  unfold finB
  by_cases h : 0 ≤ m ∧ m ≤ 1000000000
  · by_cases g : atB b l 0 < 0
    · by_cases q : (l.length : Int) ≥ 12
      · rw [if_neg (fun x => x.2 ⟨g, q⟩)]
        simp only [h, g, q, and_self, decide_true, ↓reduceIte]
        exact Ev.now _
      · rw [if_pos ⟨h, fun x => q x.2⟩]
        simp only [h, g, q, and_self, decide_true, ↓reduceIte]
        exact Ev.bind (spec_l03Put_ev l hl b m) (Ev.now _)
    · rw [if_pos ⟨h, fun x => g x.1⟩]
      simp only [h, g, and_self, decide_true, ↓reduceIte]
      exact Ev.bind (spec_l03Put_ev l hl b m) (Ev.now _)
  · rw [if_neg (fun x => h x.1)]
    simp only [h, decide_false, Bool.false_eq_true, ↓reduceIte]
    exact Ev.now _
theorem spec_Done_ev (l : List S92) (hl : l.length ≤ 4294967296) (hk : ∀ c ∈ l, c.f0.size ≤ 140737488351232) (kind : Int) {key : ByteArray} (hs : key.size ≤ 140737488351232) (n : Int) :
    Ev (fun k => spec_Done.f k l kind key n) (doneB l kind key n) := by
  have bad : Ev (fun k => spec_Done.j0 k l l true kind key n) (l, 2) := by
    refine Ev.shift ?_
    simp only [spec_Done.j0, ↓reduceIte]
    exact Ev.now _
  unfold spec_Done.f doneB
  simp only [Option.bind_some, List.nil_append, List.length_nil, Nat.zero_add, show l.length < 5864062014805 from by omega, ↓reduceIte]
  refine Ev.bind (spec_CellsOk_ev l (by omega) hk) ?_
  cases h1 : cellsB l with
  | false =>
    simp only [Bool.false_eq_true, ↓reduceIte, false_and]
    exact bad
  | true =>
    simp only [↓reduceIte, true_and]
    refine Ev.bind (spec_CmdOk_ev kind n hs) ?_
    cases h2 : cmdB kind key n with
    | false =>
      simp only [Bool.false_eq_true, ↓reduceIte, Bool.not_false]
      exact bad
    | true =>
      obtain ⟨q1, q2, q3⟩ := cmdB_num h2
      simp only [↓reduceIte, Bool.not_true]
      refine Ev.shift ?_
      simp only [spec_Done.j0, Bool.false_eq_true, ↓reduceIte]
      refine Ev.bind (spec_CellAt_ev l (by omega) key) ?_
      by_cases k1 : kind = 1
      · simp only [k1, ↓reduceIte]
        exact spec_Done_j1 l hl _ _ _ _ rfl
      · simp only [k1, ↓reduceIte]
        by_cases ha : atB key l 0 < 0
        · simp only [ha, ↓reduceIte]
          exact Ev.now _
        · obtain ⟨a1, a2, a3, a4⟩ := at_num h1 ha
          have e2 : wrap64 ((rd_T92 l (atB key l 0)).f1 - n) = (rd_T92 l (atB key l 0)).f1 - n := wrap_id (by omega) (by omega)
          have e3 : wrap64 ((rd_T92 l (atB key l 0)).f1 + n) = (rd_T92 l (atB key l 0)).f1 + n := wrap_id (by omega) (by omega)
          simp only [ha, a1, a2, e2, e3, ↓reduceIte]
          by_cases k3 : kind = 3
          · simp only [k3, ↓reduceIte]
            exact spec_Done_j1 l hl _ _ _ _ rfl
          · simp only [k3, ↓reduceIte]
            exact spec_Done_j1 l hl _ _ _ _ rfl

theorem spec_DoneAll_l0 (cs : List S103) (hl : cs.length ≤ 4294967296) (hu : ∀ c ∈ cs, c.f1.size ≤ 140737488351232) (us : List S32) (d : Nat) : ∀ (i : Nat) (l : List S92) (us : List S32) (z : List Int), i + d = cs.length → z.length = i → l.length ≤ 4294967296 → (∀ c ∈ l, c.f0.size ≤ 140737488351232) →
    ∃ q, Ev (fun k => spec_DoneAll.l0 k cs l z (i : Int)) ((backD cs d i l us).1, q) := by
  induction d with
  | zero =>
    intro i l us z hi _ _ _
    refine ⟨z, Ev.shift ?_⟩
    simp only [spec_DoneAll.l0, show ¬ (i : Int) < (cs.length : Int) from by omega, ↓reduceIte]
    exact Ev.now _
  | succ d ih =>
    intro i l us z hi hz h1 h2
    have hil : i < cs.length := by omega
    have hk := hu _ (List.getElem_mem hil)
    rw [← rdCm_nat cs i hil] at hk
    have c1 : (i : Int) < (cs.length : Int) := by omega
    have c2 : (0 : Int) ≤ (i : Int) := by omega
    have c3 : z.length < 17592186044416 := by omega
    have hup := int_up hil (by omega)
    obtain ⟨q, hq⟩ := ih (i + 1) (doneB l (rd_T103 cs (i : Int)).f0 (rd_T103 cs (i : Int)).f1 (rd_T103 cs (i : Int)).f2).1 (us ++ [⟨(undoB l (rd_T103 cs (i : Int)).f1).1, (undoB l (rd_T103 cs (i : Int)).f1).2.1, (undoB l (rd_T103 cs (i : Int)).f1).2.2⟩]) (z ++ [(doneB l (rd_T103 cs (i : Int)).f0 (rd_T103 cs (i : Int)).f1 (rd_T103 cs (i : Int)).f2).2]) (by omega) (by rw [List.length_append, List.length_singleton]; omega) (doneB_len (by decide) h1 _ _ _) (doneB_keys h2 _ hk _)
    refine ⟨q, Ev.shift ?_⟩
    simp only [spec_DoneAll.l0, c1, c2, c3, hup, ↓reduceIte]
    exact Ev.bind (spec_Done_ev l h1 h2 _ hk _) hq
theorem spec_DoneAll_ev (cs : List S103) (hl : cs.length ≤ 4294967296) (hu : ∀ c ∈ cs, c.f1.size ≤ 140737488351232) (l : List S92) (h1 : l.length ≤ 4294967296) (h2 : ∀ c ∈ l, c.f0.size ≤ 140737488351232) :
    ∃ q, Ev (fun k => spec_DoneAll.f k l cs) ((backD cs cs.length 0 l []).1, q) := by
  obtain ⟨q, hq⟩ := spec_DoneAll_l0 cs hl hu [] cs.length 0 l [] [] (by omega) rfl h1 h2
  refine ⟨q, ?_⟩
  unfold spec_DoneAll.f
  simp only [Option.bind_some, List.nil_append, List.length_nil, Nat.zero_add, show l.length < 5864062014805 from by omega, ↓reduceIte]
  exact hq

def CellsGood (l : List S92) : Prop := l.length ≤ 1000 ∧ ∀ c ∈ l, c.f0.size ≤ 140737488351232
theorem backD_cells (cs : List S103) (hc : CmdsGood cs) (l : List S92) (h : CellsGood l) : CellsGood (backD cs cs.length 0 l []).1 := by
  obtain ⟨q1, q2, _, _⟩ := backD_good cs (N := 1000) (by decide) hc.2 cs.length 0 l [] (by omega) h.1 h.2 (fun u hu => by simp at hu)
  exact ⟨q1, q2⟩
theorem spec_l03Cells_ev {l : List Int} (hl : l.length ≤ 9223372036854775807) {i : Int} (hi : CurOk l i) (h : Int) :
    ∃ r i' h', Ev (fun k => spec_l03Cells.f k l i h) (r, i', h') ∧ CellsGood r ∧ CurOk l i' := by
  obtain ⟨c1, i1, h1, e1, g1, o1⟩ := spec_l03Cmds_ev hl hi h
  obtain ⟨q1, d1⟩ := spec_DoneAll_ev c1 (by have := g1.1; omega) g1.2 [] (by simp) (fun c hc => by simp at hc)
  have b1 := backD_cells c1 g1 [] ⟨by simp, fun c hc => by simp at hc⟩
  obtain ⟨c2, i2, h2, e2, g2, o2⟩ := spec_l03Cmds_ev hl o1 h1
  obtain ⟨q2, d2⟩ := spec_DoneAll_ev c2 (by have := g2.1; omega) g2.2 _ (by have := b1.1; omega) b1.2
  refine ⟨_, i2, h2, ?_, backD_cells c2 g2 _ b1, o2⟩
  unfold spec_l03Cells.f
  exact Ev.bind e1 (Ev.bind d1 (Ev.bind e2 (Ev.bind d2 (Ev.now _))))
theorem spec_DrawCells_ev {l : List Int} (hl : l.length ≤ 9223372036854775807) : ∃ r, Ev (fun k => spec_DrawCells.f k l) r ∧ CellsGood r := by
  obtain ⟨h, hn⟩ := spec_l01New_ev l
  obtain ⟨r, i', h', e, g, _⟩ := spec_l03Cells_ev hl (curOk_zero l) h
  refine ⟨r, ?_, g⟩
  unfold spec_DrawCells.f
  exact Ev.bind hn (Ev.bind e (Ev.now _))
theorem spec_DrawCmds_ev {l : List Int} (hl : l.length ≤ 9223372036854775807) : ∃ r, Ev (fun k => spec_DrawCmds.f k l) r ∧ CmdsGood r := by
  obtain ⟨h, hn⟩ := spec_l01New_ev l
  obtain ⟨r, i', h', e, g, _⟩ := spec_l03Cmds_ev hl (curOk_zero l) h
  refine ⟨r, ?_, g⟩
  unfold spec_DrawCmds.f
  exact Ev.bind hn (Ev.bind e (Ev.now _))

theorem spec_DoneBack_l0 (cs : List S103) (hl : cs.length ≤ 4294967296) (hu : ∀ c ∈ cs, c.f1.size ≤ 140737488351232) (d : Nat) : ∀ (i : Nat) (l : List S92) (us : List S32), i + d = cs.length → us.length = i → l.length ≤ 4294967296 → (∀ c ∈ l, c.f0.size ≤ 140737488351232) →
    Ev (fun k => spec_DoneBack.l0 k cs l us (i : Int)) (backD cs d i l us) := by
  induction d with
  | zero =>
    intro i l us hi _ _ _
    refine Ev.shift ?_
    simp only [spec_DoneBack.l0, show ¬ (i : Int) < (cs.length : Int) from by omega, ↓reduceIte]
    exact Ev.now _
  | succ d ih =>
    intro i l us hi hz h1 h2
    have hil : i < cs.length := by omega
    have hk := hu _ (List.getElem_mem hil)
    rw [← rdCm_nat cs i hil] at hk
    have c1 : (i : Int) < (cs.length : Int) := by omega
    have c2 : (0 : Int) ≤ (i : Int) := by omega
    have c3 : us.length < 4398046511104 := by omega
    have hup := int_up hil (by omega)
    refine Ev.shift ?_
    simp only [spec_DoneBack.l0, c1, c2, c3, hup, ↓reduceIte]
    refine Ev.bind (spec_UndoOf_ev l (by omega) _) (Ev.bind (spec_Done_ev l h1 h2 _ hk _) ?_)
    exact ih (i + 1) _ _ (by omega) (by rw [List.length_append, List.length_singleton]; omega) (doneB_len (by decide) h1 _ _ _) (doneB_keys h2 _ hk _)
theorem spec_DoneBack_ev (cs : List S103) (hl : cs.length ≤ 4294967296) (hu : ∀ c ∈ cs, c.f1.size ≤ 140737488351232) (l : List S92) (h1 : l.length ≤ 4294967296) (h2 : ∀ c ∈ l, c.f0.size ≤ 140737488351232) :
    Ev (fun k => spec_DoneBack.f k l cs) (backD cs cs.length 0 l []) := by
  unfold spec_DoneBack.f
  simp only [Option.bind_some, List.nil_append, List.length_nil, Nat.zero_add, show l.length < 5864062014805 from by omega, ↓reduceIte]
  exact spec_DoneBack_l0 cs hl hu cs.length 0 l [] (by omega) rfl h1 h2

theorem spec_l03Bent_l0 {l : List Int} (hl : l.length ≤ 9223372036854775807) (d : Nat) : ∀ (j : Nat) (acc : List S92) (i h : Int), j + d = 13 → acc.length = j → (∀ c ∈ acc, c.f0.size ≤ 140737488351232) → CurOk l i →
    ∃ r i' h', Ev (fun k => spec_l03Bent.l0 k acc (j : Int) l i h) (r, i', h') ∧ CellsGood r ∧ CurOk l i' := by
  induction d with
  | zero =>
    intro j acc i h hj ha hg hc
    obtain ⟨x, i1, h1, e1, x0, x1, _, hc1⟩ := spec_l01Below_eq hl hc h 2
    have x2 := x1 (by omega)
    have ew : wrap64 (12 + x) = 12 + x := wrap_id (by omega) (by omega)
    refine ⟨acc, i1, h1, Ev.shift ?_, ⟨by omega, hg⟩, hc1⟩
    simp only [spec_l03Bent.l0, e1, Option.bind_some, ew, show ¬ (j : Int) < 12 + x from by omega, ↓reduceIte]
    exact Ev.now _
  | succ d ih =>
    intro j acc i h hj ha hg hc
    obtain ⟨x, i1, h1, e1, x0, x1, _, hc1⟩ := spec_l01Below_eq hl hc h 2
    have x2 := x1 (by omega)
    have ew : wrap64 (12 + x) = 12 + x := wrap_id (by omega) (by omega)
    by_cases hx : (j : Int) < 12 + x
    · have h6 : wrap64 ((j : Int) + 1) = ((j + 1 : Nat) : Int) := by rw [wrap_id (by omega) (by omega)]; omega
      have hlt : acc.length < 5864062014805 := by omega
      have hz : (strOfNums [wrap64 (97 + (j : Int)) % 256]).size = 1 := strOfNums_size _
      have hq : 1 + (strOfNums [wrap64 (97 + (j : Int)) % 256]).size ≤ 9223372036854775807 := by rw [hz]; decide
      obtain ⟨r, i', h', hr, g, c⟩ := ih (j + 1) (acc ++ [⟨(⟨#[98]⟩ : ByteArray) ++ strOfNums [wrap64 (97 + (j : Int)) % 256], 0⟩]) i1 h1 (by omega) (by rw [List.length_append, List.length_singleton]; omega) (fun y hy => by
        rcases List.mem_append.1 hy with hy | hy
        · exact hg y hy
        · rw [List.mem_singleton.1 hy]
          show ((⟨#[98]⟩ : ByteArray) ++ strOfNums [wrap64 (97 + (j : Int)) % 256]).size ≤ _
          rw [ByteArray.size_append, hz]
          show 1 + 1 ≤ _
          decide) hc1
      refine ⟨r, i', h', Ev.shift ?_, g, c⟩
      simp only [spec_l03Bent.l0, e1, Option.bind_some, ew, hx, hq, hlt, h6, ↓reduceIte]
      exact hr
    · refine ⟨acc, i1, h1, Ev.shift ?_, ⟨by omega, hg⟩, hc1⟩
      simp only [spec_l03Bent.l0, e1, Option.bind_some, ew, hx, ↓reduceIte]
      exact Ev.now _
theorem spec_l03Bent_ev {l : List Int} (hl : l.length ≤ 9223372036854775807) {i : Int} (hi : CurOk l i) (h : Int) :
    ∃ r i' h', Ev (fun k => spec_l03Bent.f k l i h) (r, i', h') ∧ (r.length ≤ 1001 ∧ ∀ c ∈ r, c.f0.size ≤ 140737488351232) ∧ CurOk l i' := by
  obtain ⟨x, i1, h1, e1, _, _, _, o1⟩ := spec_l01Below_eq hl hi h 10
  obtain ⟨r, i2, h2, e2, g2, o2⟩ := spec_l03Cells_ev hl o1 h1
  have hrl := g2.1
  have c1 : r.length < 5864062014805 := by omega
  have snoc : ∀ y : S92, y.f0.size ≤ 140737488351232 → ((r ++ [y]).length ≤ 1001 ∧ ∀ c ∈ r ++ [y], c.f0.size ≤ 140737488351232) := fun y hy => by
    refine ⟨by rw [List.length_append, List.length_singleton]; omega, fun c hc => ?_⟩
    rcases List.mem_append.1 hc with hc | hc
    · exact g2.2 c hc
    · rw [List.mem_singleton.1 hc]
      exact hy
  have step : ∀ {r' : List S92 × Int × Int}, Ev (fun k => if x = 0 then (some ((r ++ [(⟨(⟨#[97]⟩ : ByteArray), 0⟩ : S92)]), i2, h2)) else (if x = 1 then (some ((r ++ [(⟨(⟨#[122, 122, 122]⟩ : ByteArray), (-1)⟩ : S92)]), i2, h2)) else (if x = 2 then (spec_l03Bent.l0 k (([] : List (S92))) 0 l i2 h2) else (some (r, i2, h2))))) r' → Ev (fun k => spec_l03Bent.f k l i h) r' := fun hr => by
    unfold spec_l03Bent.f
    simp only [e1, Option.bind_some, List.nil_append, List.length_nil, Nat.zero_add]
    refine Ev.bind e2 ?_
    simp only [c1, Option.bind_some, ↓reduceIte]
    exact hr
  by_cases x0 : x = 0
  · refine ⟨_, i2, h2, step (by simp only [x0, ↓reduceIte]; exact Ev.now _), snoc _ (by decide), o2⟩
  · by_cases x1 : x = 1
    · refine ⟨_, i2, h2, step (by simp only [x0, x1, ↓reduceIte]; exact Ev.now _), snoc _ (by decide), o2⟩
    · by_cases x2 : x = 2
      · obtain ⟨s, i3, h3, e3, g3, o3⟩ := spec_l03Bent_l0 hl 13 0 [] i2 h2 rfl rfl (fun c hc => by simp at hc) o2
        refine ⟨s, i3, h3, step (by simp only [x0, x1, x2, ↓reduceIte]; exact e3), ⟨by have := g3.1; omega, g3.2⟩, o3⟩
      · refine ⟨r, i2, h2, step (by simp only [x0, x1, x2, ↓reduceIte]; exact Ev.now _), ⟨by omega, g2.2⟩, o2⟩
theorem spec_l03Any_eq {l : List Int} (hl : l.length ≤ 9223372036854775807) {i : Int} (hi : CurOk l i) (h : Int) :
    ∃ a s b i' h', spec_l03Any.f l i h = some (a, s, b, i', h') ∧ s.size ≤ 4 ∧ CurOk l i' := by
  obtain ⟨a, s, b, i1, h1, e1, hs, o1⟩ := spec_l03Cmd_eq hl hi h
  obtain ⟨x, i2, h2, e2, _, _, _, o2⟩ := spec_l01Below_eq hl o1 h1 8
  unfold spec_l03Any.f
  simp only [e1, e2, Option.bind_some]
  by_cases x0 : x = 0
  · obtain ⟨y, i3, h3, e3, _, _, _, o3⟩ := spec_l01Below_eq hl o2 h2 5
    simp only [x0, e3, ↓reduceIte, Option.bind_some]
    exact ⟨_, _, _, _, _, rfl, by omega, o3⟩
  · by_cases x1 : x = 1
    · obtain ⟨t, i3, h3, e3, ht, o3⟩ := spec_l01Pick_eq hl o2 h2 (([(⟨#[]⟩ : ByteArray), (⟨#[65]⟩ : ByteArray), (⟨#[97, 98, 99, 100]⟩ : ByteArray)] : List ByteArray)) (by decide)
      simp only [x0, x1, e3, ↓reduceIte, Option.bind_some]
      refine ⟨_, _, _, _, _, rfl, ?_, o3⟩
      simp only [List.mem_cons, List.not_mem_nil, or_false] at ht
      rcases ht with rfl | rfl | rfl <;> decide
    · by_cases x2 : x = 2
      · obtain ⟨t, i3, h3, e3, o3⟩ := spec_l01PickInt_eq hl o2 h2 (([(-1), 1000000000, 1000000001, 9223372036854775807] : List Int)) (by decide)
        simp only [x0, x1, x2, e3, ↓reduceIte, Option.bind_some]
        exact ⟨_, _, _, _, _, rfl, by omega, o3⟩
      · simp only [x0, x1, x2, ↓reduceIte]
        exact ⟨_, _, _, _, _, rfl, by omega, o2⟩
def CellsFine (l : List S92) : Prop := l.length ≤ 1001 ∧ ∀ c ∈ l, c.f0.size ≤ 140737488351232
theorem spec_DrawUndone_ev {l : List Int} (hl : l.length ≤ 9223372036854775807) : ∃ r s b n, Ev (fun k => spec_DrawUndone.f k l) (r, s, b, n) ∧ CellsFine r ∧ s.size ≤ 3 := by
  obtain ⟨h, hn⟩ := spec_l01New_ev l
  obtain ⟨s, i1, h1, e1, hs, o1⟩ := spec_l03Key_eq hl (curOk_zero l) h
  obtain ⟨b, i2, h2, e2, o2⟩ := spec_l01Once_eq hl o1 h1 2
  obtain ⟨n, i3, h3, e3, o3⟩ := spec_l01PickInt_eq hl o2 h2 (([0, 5, (-1), 1000000001] : List Int)) (by decide)
  obtain ⟨r, i4, h4, e4, g, _⟩ := spec_l03Bent_ev hl o3 h3
  refine ⟨r, s, b, n, ?_, g, hs⟩
  unfold spec_DrawUndone.f
  refine Ev.bind hn ?_
  simp only [e1, e2, e3, Option.bind_some]
  exact Ev.bind e4 (Ev.now _)
theorem spec_DrawUndoOf_ev {l : List Int} (hl : l.length ≤ 9223372036854775807) : ∃ r s, Ev (fun k => spec_DrawUndoOf.f k l) (r, s) ∧ CellsFine r := by
  obtain ⟨h, hn⟩ := spec_l01New_ev l
  obtain ⟨s, i1, h1, e1, hs, o1⟩ := spec_l03Key_eq hl (curOk_zero l) h
  obtain ⟨r, i4, h4, e4, g, _⟩ := spec_l03Bent_ev hl o1 h1
  refine ⟨r, s, ?_, g⟩
  unfold spec_DrawUndoOf.f spec_DrawCellAt.f
  refine Ev.bind (a := (r, s)) (Ev.bind hn ?_) (Ev.now _)
  simp only [e1, Option.bind_some]
  exact Ev.bind e4 (Ev.now _)
theorem spec_DrawDoneAll_ev {l : List Int} (hl : l.length ≤ 9223372036854775807) : ∃ r cs, Ev (fun k => spec_DrawDoneAll.f k l) (r, cs) ∧ CellsFine r ∧ cs.length ≤ 1001 ∧ ∀ c ∈ cs, c.f1.size ≤ 140737488351232 := by
  obtain ⟨h, hn⟩ := spec_l01New_ev l
  obtain ⟨cs, i1, h1, e1, g1, o1⟩ := spec_l03Cmds_ev hl (curOk_zero l) h
  obtain ⟨b, i2, h2, e2, o2⟩ := spec_l01Once_eq hl o1 h1 6
  have hcl := g1.1
  cases b with
  | true =>
    obtain ⟨a, s, n, i3, h3, e3, hs, o3⟩ := spec_l03Any_eq hl o2 h2
    obtain ⟨r, i4, h4, e4, g, _⟩ := spec_l03Bent_ev hl o3 h3
    refine ⟨r, cs ++ [⟨a, s, n⟩], ?_, g, by rw [List.length_append, List.length_singleton]; omega, fun c hc => ?_⟩
    · have c1 : cs.length < 4398046511104 := by omega
      unfold spec_DrawDoneAll.f
      refine Ev.bind hn (Ev.bind e1 ?_)
      simp only [e2, e3, c1, Option.bind_some, ↓reduceIte]
      exact Ev.bind e4 (Ev.now _)
    · rcases List.mem_append.1 hc with hc | hc
      · exact g1.2 c hc
      · rw [List.mem_singleton.1 hc]
        show s.size ≤ _
        omega
  | false =>
    obtain ⟨r, i4, h4, e4, g, _⟩ := spec_l03Bent_ev hl o2 h2
    refine ⟨r, cs, ?_, g, by omega, g1.2⟩
    unfold spec_DrawDoneAll.f
    refine Ev.bind hn (Ev.bind e1 ?_)
    simp only [e2, Option.bind_some, Bool.false_eq_true, ↓reduceIte]
    exact Ev.bind e4 (Ev.now _)
theorem spec_DrawUndoneAll_ev {l : List Int} (hl : l.length ≤ 9223372036854775807) : ∃ r us, Ev (fun k => spec_DrawUndoneAll.f k l) (r, us) ∧ CellsFine r ∧ us.length ≤ 1001 ∧ ∀ u ∈ us, u.f0.size ≤ 140737488351232 := by
  obtain ⟨r, cs, e, g, h1, h2⟩ := spec_DrawDoneAll_ev hl
  have hb := spec_DoneBack_ev cs (by omega) h2 r (by have := g.1; omega) g.2
  obtain ⟨q1, q2, q3, q4⟩ := backD_good cs (N := 1001) (by decide) h2 cs.length 0 r [] (by omega) g.1 g.2 (fun u hu => by simp at hu)
  refine ⟨_, _, ?_, ⟨q1, q2⟩, by rw [q3]; simp; omega, q4⟩
  unfold spec_DrawUndoneAll.f
  exact Ev.bind e (Ev.bind hb (Ev.now _))

theorem idxC_none (p : S92 → Bool) : ∀ (l : List S92) (i : Nat), idxBy92 p l (i : Int) = -1 → ∀ x ∈ l, p x = false
  | [], _, _, x, hx => by simp at hx
  | y :: ys, i, h, x, hx => by
    simp only [idxBy92] at h
    by_cases hy : p y = true
    · rw [if_pos hy] at h
      omega
    · rw [if_neg hy] at h
      rcases List.mem_cons.1 hx with rfl | hx
      · simpa using hy
      · exact idxC_none p ys (i + 1) h x hx
theorem less_ne {a b : ByteArray} (h : keyLt a b = true) : (a.toList == b.toList) = false := by
  cases e : (a.toList == b.toList) with
  | false => rfl
  | true =>
    have e2 : a.toList = b.toList := by simpa using e
    unfold keyLt at h
    rw [e2, less_irrefl] at h
    cases h
theorem less_ne' {a b : ByteArray} (h : keyLt a b = true) : (b.toList == a.toList) = false := by
  have := less_ne h
  rw [beq_eq_false_iff_ne] at this ⊢
  exact fun e => this e.symm
theorem put_put (key : ByteArray) (a b : Int) (l : List S92) : putS key a (putS key b l) = putS key a l := by
  unfold putS
  have h0 : keyLt key key = false := less_irrefl _
  have f1 : (l.filter fun x => keyLt key x.f0).filter (fun x => keyLt x.f0 key) = [] := List.filter_eq_nil_iff.2 fun y hy => by
    have h1 : keyLt key y.f0 = true := (List.mem_filter.1 hy).2
    have h2 : keyLt y.f0 key = false := less_asymm h1
    rw [h2]
    decide
  have f2 : (l.filter fun x => keyLt x.f0 key).filter (fun x => keyLt key x.f0) = [] := List.filter_eq_nil_iff.2 fun y hy => by
    have h1 : keyLt y.f0 key = true := (List.mem_filter.1 hy).2
    have h2 : keyLt key y.f0 = false := less_asymm h1
    rw [h2]
    decide
  have f3 : (l.filter fun x => keyLt x.f0 key).filter (fun x => keyLt x.f0 key) = l.filter fun x => keyLt x.f0 key := List.filter_eq_self.2 fun y hy => (List.mem_filter.1 hy).2
  have f4 : (l.filter fun x => keyLt key x.f0).filter (fun x => keyLt key x.f0) = l.filter fun x => keyLt key x.f0 := List.filter_eq_self.2 fun y hy => (List.mem_filter.1 hy).2
  simp only [List.filter_append, List.filter_cons, h0, f1, f2, f3, f4, Bool.false_eq_true, ↓reduceIte, List.append_nil, List.nil_append]
theorem put_old {l : List S92} (h : cellsB l = true) {key : ByteArray} (ha : ¬ atB key l 0 < 0) : putS key (rd_T92 l (atB key l 0)).f1 l = l := by
  rw [← withC_put h]
  obtain ⟨a1, a2, _, _⟩ := at_num h ha
  obtain ⟨j, hj⟩ := Int.eq_ofNat_of_zero_le a1
  have hjl : j < l.length := by omega
  rw [hj, withC_found _ hj, rdC_nat l j hjl]
  exact List.set_getElem_self hjl
theorem no_key {l : List S92} {key : ByteArray} (ha : atB key l 0 < 0) : ∀ x ∈ l, (x.f0.toList == key.toList) = false := by
  rcases atB_range key l 0 (Int.le_refl _) with h | h
  · exact idxC_none (fun x => x.f0.toList == key.toList) l 0 h
  · omega
theorem strike_none {l : List S92} {key : ByteArray} (ha : atB key l 0 < 0) : l.filter (fun x => !(x.f0.toList == key.toList)) = l :=
  List.filter_eq_self.2 fun x hx => by rw [no_key ha x hx]; rfl
theorem strike_put {l : List S92} (h : cellsB l = true) {key : ByteArray} (ha : atB key l 0 < 0) (m : Int) : (putS key m l).filter (fun x => !(x.f0.toList == key.toList)) = l := by
  have h1 : idxBy92 (fun x => x.f0.toList == key.toList) l 0 = -1 := by
    rcases atB_range key l 0 (Int.le_refl _) with h | h
    · exact h
    · omega
  have hn := no_key ha
  rw [← withC_put h, withC_not m h1, List.filter_append, List.filter_cons]
  have f1 : (l.take (posLt key l)).filter (fun x => !(x.f0.toList == key.toList)) = l.take (posLt key l) := List.filter_eq_self.2 fun x hx => by rw [hn x (List.mem_of_mem_take hx)]; rfl
  have f2 : (l.drop (posLt key l)).filter (fun x => !(x.f0.toList == key.toList)) = l.drop (posLt key l) := List.filter_eq_self.2 fun x hx => by rw [hn x (List.mem_of_mem_drop hx)]; rfl
  rw [f1, f2]
  simp only [beq_self_eq_true, Bool.not_true, Bool.false_eq_true, ↓reduceIte]
  exact List.take_append_drop _ _
/-- What was done is taken back. -/
theorem undo_done (l : List S92) (kind : Int) (key : ByteArray) (n : Int) : undB (doneB l kind key n).1 key (undoB l key).2.1 (undoB l key).2.2 = l := by
  cases hc : cellsB l with
  | false =>
    have e : doneB l kind key n = (l, 2) := if_neg (fun h => Bool.false_ne_true (hc.symm.trans h.1))
    rw [e]
    unfold undB
    exact if_neg (fun h => Bool.false_ne_true (hc.symm.trans h.1))
  | true =>
    have same : keyB key = true → undB l key (undoB l key).2.1 (undoB l key).2.2 = l := fun hk => by
      unfold undoB
      by_cases ha : atB key l 0 < 0
      · rw [if_pos ha]
        unfold undB
        rw [if_pos ⟨hc, hk, Int.le_refl _, show (0 : Int) ≤ 1000000000 from by decide⟩, if_neg (show ¬ (false = true) from by decide)]
        exact strike_none ha
      · obtain ⟨a1, a2, a3, a4⟩ := at_num hc ha
        rw [if_neg ha]
        unfold undB
        rw [if_pos ⟨hc, hk, a3, a4⟩, if_pos rfl]
        exact put_old hc ha
    have fin : keyB key = true → ∀ m, undB (finB l key m).1 key (undoB l key).2.1 (undoB l key).2.2 = l := fun hk m => by
      by_cases hg : (0 ≤ m ∧ m ≤ 1000000000) ∧ ¬ (atB key l 0 < 0 ∧ (l.length : Int) ≥ 12)
      · have e : finB l key m = (putS key m l, 0) := if_pos hg
        have hcp : cellsB (putS key m l) = true := by rw [cellsB_put hc hk, decide_eq_true hg]
        rw [e]
        unfold undoB
        by_cases ha : atB key l 0 < 0
        · rw [if_pos ha]
          unfold undB
          rw [if_pos ⟨hcp, hk, Int.le_refl _, show (0 : Int) ≤ 1000000000 from by decide⟩, if_neg (show ¬ (false = true) from by decide)]
          exact strike_put hc ha m
        · obtain ⟨a1, a2, a3, a4⟩ := at_num hc ha
          rw [if_neg ha]
          unfold undB
          rw [if_pos ⟨hcp, hk, a3, a4⟩, if_pos rfl]
          show putS key _ (putS key m l) = l
          rw [put_put]
          exact put_old hc ha
      · have e : finB l key m = (l, 2) := if_neg hg
        rw [e]
        exact same hk
    by_cases hb : cmdB kind key n = true
    · have hk := (cmdB_num hb).1
      unfold doneB
      rw [if_pos ⟨hc, hb⟩]
      by_cases k1 : kind = 1
      · rw [if_pos k1]
        exact fin hk _
      · rw [if_neg k1]
        by_cases ha : atB key l 0 < 0
        · rw [if_pos ha]
          exact same hk
        · rw [if_neg ha]
          by_cases k3 : kind = 3
          · rw [if_pos k3]
            exact fin hk _
          · rw [if_neg k3]
            exact fin hk _
    · have e : doneB l kind key n = (l, 2) := if_neg (fun h => hb h.2)
      rw [e]
      show undB l key _ _ = l
      by_cases hk : keyB key = true
      · exact same hk
      · unfold undB
        exact if_neg (fun h => hk h.2.1)

theorem backD_keep (cs : List S103) : ∀ (d i : Nat) (l : List S92) (us : List S32), us.length ≤ (backD cs d i l us).2.length ∧ ∀ j : Nat, j < us.length → rd_T32 (backD cs d i l us).2 (j : Int) = rd_T32 us (j : Int)
  | 0, _, _, us => ⟨Nat.le_refl _, fun _ _ => rfl⟩
  | d + 1, i, l, us => by
    obtain ⟨h1, h2⟩ := backD_keep cs d (i + 1) (doneB l (rd_T103 cs (i : Int)).f0 (rd_T103 cs (i : Int)).f1 (rd_T103 cs (i : Int)).f2).1 (us ++ [⟨(undoB l (rd_T103 cs (i : Int)).f1).1, (undoB l (rd_T103 cs (i : Int)).f1).2.1, (undoB l (rd_T103 cs (i : Int)).f1).2.2⟩])
    rw [List.length_append, List.length_singleton] at h1 h2
    refine ⟨?_, fun j hj => ?_⟩
    · show us.length ≤ (backD cs d (i + 1) _ _).2.length
      omega
    · show rd_T32 (backD cs d (i + 1) _ _).2 (j : Int) = _
      rw [h2 j (by omega), rdUn_nat _ j (by rw [List.length_append]; omega), rdUn_nat us j hj, List.getElem_append_left hj]
theorem back_all (cs : List S103) : ∀ (d i : Nat) (l : List S92) (us : List S32), us.length = i → undDown (backD cs d i l us).2 (i + d) (backD cs d i l us).1 = undDown (backD cs d i l us).2 i l
  | 0, _, _, _, _ => rfl
  | d + 1, i, l, us, hz => by
    have ih := back_all cs d (i + 1) (doneB l (rd_T103 cs (i : Int)).f0 (rd_T103 cs (i : Int)).f1 (rd_T103 cs (i : Int)).f2).1 (us ++ [⟨(undoB l (rd_T103 cs (i : Int)).f1).1, (undoB l (rd_T103 cs (i : Int)).f1).2.1, (undoB l (rd_T103 cs (i : Int)).f1).2.2⟩]) (by rw [List.length_append, List.length_singleton, hz])
    have hk := (backD_keep cs d (i + 1) (doneB l (rd_T103 cs (i : Int)).f0 (rd_T103 cs (i : Int)).f1 (rd_T103 cs (i : Int)).f2).1 (us ++ [⟨(undoB l (rd_T103 cs (i : Int)).f1).1, (undoB l (rd_T103 cs (i : Int)).f1).2.1, (undoB l (rd_T103 cs (i : Int)).f1).2.2⟩])).2 i (by rw [List.length_append, List.length_singleton]; omega)
    have hu := rdUn_nat (us ++ [⟨(undoB l (rd_T103 cs (i : Int)).f1).1, (undoB l (rd_T103 cs (i : Int)).f1).2.1, (undoB l (rd_T103 cs (i : Int)).f1).2.2⟩]) i (by rw [List.length_append, List.length_singleton]; omega)
    rw [List.getElem_append_right (by omega)] at hu
    simp only [hz, Nat.sub_self, List.getElem_cons_zero] at hu
    replace hk := hk.trans hu
    show undDown (backD cs d (i + 1) _ _).2 (i + (d + 1)) (backD cs d (i + 1) _ _).1 = undDown (backD cs d (i + 1) _ _).2 i l
    rw [show i + (d + 1) = i + 1 + d from by omega, ih]
    show undDown _ i (undB _ (rd_T32 _ (i : Int)).f0 (rd_T32 _ (i : Int)).f1 (rd_T32 _ (i : Int)).f2) = _
    rw [hk]
    show undDown _ i (undB _ (undoB l (rd_T103 cs (i : Int)).f1).1 (undoB l (rd_T103 cs (i : Int)).f1).2.1 (undoB l (rd_T103 cs (i : Int)).f1).2.2) = _
    rw [undoB_key, undo_done]
theorem back_home (cs : List S103) (l : List S92) (h : (backD cs cs.length 0 l []).2.length = cs.length) : undDown (backD cs cs.length 0 l []).2 (backD cs cs.length 0 l []).2.length (backD cs cs.length 0 l []).1 = l := by
  have := back_all cs cs.length 0 l [] rfl
  rw [Nat.zero_add] at this
  rw [h]
  exact this

theorem impl_in_eq (a b c : Int) : impl_in.f a b c = some (decide (b ≤ a ∧ a ≤ c)) := by
  unfold impl_in.f
  by_cases h : a ≥ b
  · simp [h]
  · have h' : ¬ b ≤ a := by omega
    simp [h, h']

theorem impl_KeyOk_l0 (s : ByteArray) (hs : s.size ≤ 140737488351232) (d : Nat) : ∀ i : Nat, i + d = s.size → (∀ j : Nat, j < i → 97 ≤ bt s j ∧ bt s j ≤ 122) → Ev (fun k => impl_KeyOk.l0 k s (s.size : Int) (i : Int)) (keyB s) := by
  induction d with
  | zero =>
    intro i hi h
    obtain rfl : i = s.size := by omega
    refine Ev.shift ?_
    simp only [impl_KeyOk.l0, show ¬ (s.size : Int) < s.size from by omega, ↓reduceIte, impl_in_eq, Option.bind_some]
    rw [keyB_low h]
    exact Ev.now _
  | succ d ih =>
    intro i hi h
    refine Ev.shift ?_
    have h1 : (i : Int) < s.size := by omega
    have h4 : (0 : Int) ≤ i := by omega
    have h6 : wrap64 ((i : Int) + 1) = ((i + 1 : Nat) : Int) := by rw [wrap_id (by omega) (by omega)]; omega
    by_cases ha : bt s (i : Int) < 97
    · simp only [impl_KeyOk.l0, h1, h4, ha, ↓reduceIte]
      rw [keyB_not (i := i) (by omega) (by omega)]
      exact Ev.now _
    · by_cases hb : bt s (i : Int) > 122
      · simp only [impl_KeyOk.l0, h1, h4, ha, hb, ↓reduceIte]
        rw [keyB_not (i := i) (by omega) (by omega)]
        exact Ev.now _
      · simp only [impl_KeyOk.l0, h1, h4, ha, hb, h6, ↓reduceIte]
        refine ih (i + 1) (by omega) fun j hj => ?_
        by_cases he : j = i
        · subst he
          omega
        · exact h j (by omega)
theorem impl_KeyOk_ev (s : ByteArray) (hs : s.size ≤ 140737488351232) : Ev (fun k => impl_KeyOk.f k s) (keyB s) :=
  impl_KeyOk_l0 s hs s.size 0 (by omega) (fun j hj => by omega)

theorem impl_isNum_eq (n : Int) : impl_isNum.f n = some (decide (0 ≤ n ∧ n ≤ 1000000000)) := by
  unfold impl_isNum.f
  rw [impl_in_eq]
  rfl

theorem impl_cellsForm_l0 (l : List S92) (hl : l.length ≤ 9223372036854775807) (hk : ∀ c ∈ l, c.f0.size ≤ 140737488351232) (d : Nat) : ∀ i : Nat, i + d = l.length →
    Ev (fun k => impl_cellsForm.l0 k l l (l.length : Int) (i : Int)) (formB l d i) := by
  induction d with
  | zero =>
    intro i hi
    refine Ev.shift ?_
    simp only [impl_cellsForm.l0, show ¬ (i : Int) < (l.length : Int) from by omega, ↓reduceIte, formB, Bool.true_and]
    exact Ev.now _
  | succ d ih =>
    intro i hi
    have hr := ih (i + 1) (by omega)
    have hil : i < l.length := by omega
    have c1 : (i : Int) < (l.length : Int) := by omega
    have c2 : (0 : Int) ≤ (i : Int) := by omega
    have hup := int_up hil hl
    have hs : (rd_T92 l (i : Int)).f0.size ≤ 140737488351232 := by rw [rdC_nat l i hil]; exact hk _ (List.getElem_mem hil)
    refine Ev.shift ?_
    simp only [impl_cellsForm.l0, c1, c2, ↓reduceIte, formB, cellB]
    refine Ev.bind (impl_KeyOk_ev _ hs) ?_
    by_cases k1 : keyB (rd_T92 l (i : Int)).f0 = true
    · by_cases k2 : 0 ≤ (rd_T92 l (i : Int)).f1 ∧ (rd_T92 l (i : Int)).f1 ≤ 1000000000
      · simp only [k1, impl_isNum_eq, decide_eq_true k2, Option.bind_some, ↓reduceIte, Bool.true_and]
        by_cases k3 : i = 0
        · subst k3
          simp only [show ¬ ((0 : Nat) : Int) > 0 from by decide, ↓reduceIte, beq_self_eq_true, Bool.true_or, Bool.true_and]
          rw [hup]
          exact hr
        · have c3 : (i : Int) > 0 := by clear hup; omega
          have m1 : -9223372036854775808 ≤ (i : Int) - 1 := by clear hup; omega
          have m2 : (i : Int) - 1 ≤ 9223372036854775807 := by clear hup; omega
          have m3 : (i : Int) - 1 = ((i - 1 : Nat) : Int) := by clear hup; omega
          have c4 : (0 : Int) ≤ ((i - 1 : Nat) : Int) := by clear hup; omega
          have c5 : ((i - 1 : Nat) : Int) < (l.length : Int) := by clear hup; omega
          have e1 : wrap64 ((i : Int) - 1) = ((i - 1 : Nat) : Int) := (wrap_id m1 m2).trans m3
          have e2 : (i == 0) = false := by simpa using k3
          simp only [c3, e1, c4, c5, ↓reduceIte, e2, Bool.false_or, keyLt]
          by_cases k4 : Op.bytesLess (rd_T92 l ((i - 1 : Nat) : Int)).f0.toList (rd_T92 l (i : Int)).f0.toList = true
          · simp only [k4, ↓reduceIte, Bool.true_and, hup]
            exact hr
          · simp only [Bool.not_eq_true] at k4
            simp only [k4, ↓reduceIte, Bool.false_and, Bool.false_eq_true]
            exact Ev.now _
      · simp only [k1, impl_isNum_eq, decide_eq_false k2, Option.bind_some, ↓reduceIte, Bool.true_and, Bool.false_and, Bool.false_eq_true]
        exact Ev.now _
    · simp only [Bool.not_eq_true] at k1
      simp only [k1, ↓reduceIte, Bool.false_and, Bool.false_eq_true]
      exact Ev.now _
theorem impl_CellsOk_ev (l : List S92) (hl : l.length ≤ 9223372036854775807) (hk : ∀ c ∈ l, c.f0.size ≤ 140737488351232) : Ev (fun k => impl_CellsOk.f k l) (cellsB l) := by
  unfold impl_CellsOk.f cellsB
  by_cases h : (l.length : Int) ≤ 12
  · simp only [h, decide_true, ↓reduceIte, Bool.true_and]
    exact Ev.bind (impl_cellsForm_l0 l hl hk l.length 0 (by omega)) (Ev.now _)
  · simp only [h, decide_false, ↓reduceIte, Bool.false_and]
    exact Ev.now _

theorem impl_CmdOk_ev (a : Int) {s : ByteArray} (b : Int) (hs : s.size ≤ 140737488351232) : Ev (fun k => impl_CmdOk.f k a s b) (cmdB a s b) := by
  unfold impl_CmdOk.f cmdB
  simp only [impl_in_eq, impl_isNum_eq, Option.bind_some]
  by_cases h : decide (1 ≤ a ∧ a ≤ 3) = true
  · simp only [h, ↓reduceIte, Bool.true_and]
    refine Ev.bind (impl_KeyOk_ev s hs) ?_
    by_cases hk : keyB s = true
    · simp only [hk, ↓reduceIte, Bool.true_and]
      exact Ev.now _
    · simp only [Bool.not_eq_true] at hk
      simp only [hk, ↓reduceIte, Bool.false_and, Bool.false_eq_true]
      exact Ev.now _
  · simp only [Bool.not_eq_true] at h
    simp only [h, ↓reduceIte, Bool.false_and, Bool.false_eq_true]
    exact Ev.now _

theorem impl_CellAt_eq (l : List S92) (s : ByteArray) : impl_CellAt.f l s = some (atB s l 0) := rfl

theorem impl_Done_j1 (l : List S92) (hl : l.length ≤ 4294967296) (hk : ∀ c ∈ l, c.f0.size ≤ 140737488351232) {key : ByteArray} (hs : key.size ≤ 140737488351232) (hc : cellsB l = true) (hq : keyB key = true) (m : Int) (a : Int) (b : ByteArray) (c : Int) (ha : b = key) :
    Ev (fun k => impl_Done.j1 k l l m a b c) (finB l key m) := by
  subst ha
  have hw : impl_withCell.f l b m = some (putS b m l) := by
    unfold impl_withCell.f
    rw [if_pos (by omega), withC_put hc]
  have hlen := finB_len (N := 25) (Nat.le_refl _) hc b m
  have h4 := cellsB_len hc
  have hpl : (putS b m l).length ≤ 25 := by
    rw [put_len hc]
    split <;> omega
  have hpk : ∀ c ∈ putS b m l, c.f0.size ≤ 140737488351232 := fun c hc => by
    rcases mem_put hc with rfl | hc
    · exact hs
    · exact hk c hc
  refine Ev.shift ?_
  simp only [impl_Done.j1, hw, Option.bind_some]
  refine Ev.bind (impl_CellsOk_ev _ (by omega) hpk) ?_
  rw [cellsB_put hc hq]
  unfold finB
  by_cases h : (0 ≤ m ∧ m ≤ 1000000000) ∧ ¬ (atB b l 0 < 0 ∧ (l.length : Int) ≥ 12)
  · rw [if_pos h, decide_eq_true h]
    simp only [↓reduceIte]
    exact Ev.now _
  · rw [if_neg h, decide_eq_false h]
    simp only [Bool.false_eq_true, ↓reduceIte]
    exact Ev.now _
theorem impl_Done_ev (l : List S92) (hl : l.length ≤ 4294967296) (hk : ∀ c ∈ l, c.f0.size ≤ 140737488351232) (kind : Int) {key : ByteArray} (hs : key.size ≤ 140737488351232) (n : Int) :
    Ev (fun k => impl_Done.f k l kind key n) (doneB l kind key n) := by
  have hc : impl_Cell_83.f l = some l := by
    unfold impl_Cell_83.f
    rw [if_pos (by omega)]
  have bad : Ev (fun k => impl_Done.j0 k l l true kind key n) (l, 2) := by
    refine Ev.shift ?_
    simp only [impl_Done.j0, ↓reduceIte]
    exact Ev.now _
  unfold impl_Done.f doneB
  simp only [hc, Option.bind_some]
  refine Ev.bind (impl_CellsOk_ev l (by omega) hk) ?_
  cases h1 : cellsB l with
  | false =>
    simp only [Bool.false_eq_true, ↓reduceIte, false_and]
    exact bad
  | true =>
    simp only [↓reduceIte, true_and]
    refine Ev.bind (impl_CmdOk_ev kind n hs) ?_
    cases h2 : cmdB kind key n with
    | false =>
      simp only [Bool.false_eq_true, ↓reduceIte, Bool.not_false]
      exact bad
    | true =>
      obtain ⟨q1, q2, q3⟩ := cmdB_num h2
      simp only [↓reduceIte, Bool.not_true]
      refine Ev.shift ?_
      simp only [impl_Done.j0, Bool.false_eq_true, ↓reduceIte, impl_CellAt_eq, Option.bind_some]
      by_cases k1 : kind = 1
      · simp only [k1, ↓reduceIte]
        exact impl_Done_j1 l hl hk hs h1 q1 _ _ _ _ rfl
      · simp only [k1, ↓reduceIte]
        by_cases ha : atB key l 0 < 0
        · simp only [ha, ↓reduceIte]
          exact Ev.now _
        · obtain ⟨a1, a2, a3, a4⟩ := at_num h1 ha
          have e1 : wrap64 (-n) = -n := wrap_id (by omega) (by omega)
          have e2 : wrap64 (-n + (rd_T92 l (atB key l 0)).f1) = (rd_T92 l (atB key l 0)).f1 - n := by rw [wrap_id (by omega) (by omega)]; omega
          have e3 : wrap64 (n + (rd_T92 l (atB key l 0)).f1) = (rd_T92 l (atB key l 0)).f1 + n := by rw [wrap_id (by omega) (by omega)]; omega
          simp only [ha, a1, a2, e1, e2, e3, ↓reduceIte]
          by_cases k3 : kind = 3
          · simp only [k3, ↓reduceIte]
            exact impl_Done_j1 l hl hk hs h1 q1 _ _ _ _ rfl
          · simp only [k3, ↓reduceIte]
            exact impl_Done_j1 l hl hk hs h1 q1 _ _ _ _ rfl

theorem impl_UndoOf_eq (l : List S92) (s : ByteArray) : impl_UndoOf.f l s = some (undoB l s) := by
  unfold impl_UndoOf.f
  rw [impl_CellAt_eq, Option.bind_some, undo_body]

theorem impl_DoneBack_l0 (cs : List S103) (hl : cs.length ≤ 4294967296) (hu : ∀ c ∈ cs, c.f1.size ≤ 140737488351232) (d : Nat) : ∀ (i : Nat) (l : List S92) (us : List S32), i + d = cs.length → us.length = i → l.length ≤ 4294967296 → (∀ c ∈ l, c.f0.size ≤ 140737488351232) →
    Ev (fun k => impl_DoneBack.l0 k l us cs (cs.length : Int) (i : Int)) (backD cs d i l us) := by
  induction d with
  | zero =>
    intro i l us hi _ _ _
    refine Ev.shift ?_
    simp only [impl_DoneBack.l0, show ¬ (i : Int) < (cs.length : Int) from by omega, ↓reduceIte]
    exact Ev.now _
  | succ d ih =>
    intro i l us hi hz h1 h2
    have hil : i < cs.length := by omega
    have hk := hu _ (List.getElem_mem hil)
    rw [← rdCm_nat cs i hil] at hk
    have c1 : (i : Int) < (cs.length : Int) := by omega
    have c2 : (0 : Int) ≤ (i : Int) := by omega
    have c3 : us.length < 4398046511104 := by omega
    have hup := int_up hil (by omega)
    refine Ev.shift ?_
    simp only [impl_DoneBack.l0, c1, c2, c3, hup, ↓reduceIte, impl_UndoOf_eq, Option.bind_some]
    refine Ev.bind (impl_Done_ev l h1 h2 _ hk _) ?_
    exact ih (i + 1) _ _ (by omega) (by rw [List.length_append, List.length_singleton]; omega) (doneB_len (by decide) h1 _ _ _) (doneB_keys h2 _ hk _)
theorem impl_DoneBack_ev (cs : List S103) (hl : cs.length ≤ 4294967296) (hu : ∀ c ∈ cs, c.f1.size ≤ 140737488351232) (l : List S92) (h1 : l.length ≤ 4294967296) (h2 : ∀ c ∈ l, c.f0.size ≤ 140737488351232) :
    Ev (fun k => impl_DoneBack.f k l cs) (backD cs cs.length 0 l []) := by
  unfold impl_DoneBack.f
  have hc : impl_Cell_83.f l = some l := by
    unfold impl_Cell_83.f
    rw [if_pos (by omega)]
  simp only [hc, Option.bind_some]
  exact impl_DoneBack_l0 cs hl hu cs.length 0 l [] (by omega) rfl h1 h2

theorem impl_Undone_ev (l : List S92) (hl : l.length ≤ 4294967296) (hk : ∀ c ∈ l, c.f0.size ≤ 140737488351232) (key : ByteArray) (hs : key.size ≤ 140737488351232) (had : Bool) (n : Int) : Ev (fun k => impl_Undone.f k l key had n) (undB l key had n) := by
  unfold impl_Undone.f undB
  have hc : impl_Cell_83.f l = some l := by
    unfold impl_Cell_83.f
    rw [if_pos (by omega)]
  have hw : impl_withCell.f l key n = some (withC l key n) := by
    unfold impl_withCell.f
    rw [if_pos (by omega)]
  simp only [hc, hw, Option.bind_some, impl_isNum_eq]
  refine Ev.bind (impl_CellsOk_ev l (by omega) hk) ?_
  cases h1 : cellsB l with
  | false =>
    simp only [Bool.false_eq_true, ↓reduceIte, false_and]
    exact Ev.now _
  | true =>
    simp only [↓reduceIte, true_and]
    refine Ev.bind (impl_KeyOk_ev key hs) ?_
    cases h2 : keyB key with
    | false =>
      simp only [Bool.false_eq_true, ↓reduceIte, false_and]
      exact Ev.now _
    | true =>
      simp only [↓reduceIte, true_and, decide_eq_true_eq]
      rw [withC_put h1]
      by_cases h3 : 0 ≤ n ∧ n ≤ 1000000000
      · simp only [h3, and_self, ↓reduceIte]
        cases had
        · exact Ev.now _
        · exact Ev.now _
      · simp only [h3, ↓reduceIte]
        exact Ev.now _

theorem impl_UndoneAll_l0 (us : List S32) (hl : us.length ≤ 4294967296) (hu : ∀ u ∈ us, u.f0.size ≤ 140737488351232) : ∀ (i : Nat) (l : List S92), i ≤ us.length → l.length ≤ 4294967296 → (∀ c ∈ l, c.f0.size ≤ 140737488351232) →
    Ev (fun k => impl_UndoneAll.l0 k us l ((i : Int) - 1)) (undDown us i l)
  | 0, l, _, h1, h2 => by
    refine Ev.shift ?_
    simp only [impl_UndoneAll.l0, show ¬ (((0 : Nat) : Int) - 1 ≥ 0) from by omega, ↓reduceIte]
    exact Ev.now _
  | i + 1, l, hi, h1, h2 => by
    have hil : i < us.length := hi
    have hk := hu _ (List.getElem_mem hil)
    rw [← rdUn_nat us i hil] at hk
    have ih := impl_UndoneAll_l0 us hl hu i (undB l (rd_T32 us (i : Int)).f0 (rd_T32 us (i : Int)).f1 (rd_T32 us (i : Int)).f2) (by omega) (undB_len (by decide) h1 _ _ _) (undB_keys h2 hk _ _)
    have e1 : (((i + 1 : Nat) : Int) - 1) = (i : Int) := by omega
    have c0 : (i : Int) ≥ 0 := by omega
    have c1 : (i : Int) < (us.length : Int) := by omega
    have e2 : wrap64 ((i : Int) - 1) = (i : Int) - 1 := wrap_id (by omega) (by omega)
    rw [e1]
    refine Ev.shift ?_
    simp only [impl_UndoneAll.l0, c0, c1, e2, ge_iff_le, ↓reduceIte]
    exact Ev.bind (impl_Undone_ev l h1 h2 _ hk _ _) ih
theorem impl_UndoneAll_ev (us : List S32) (hl : us.length ≤ 4294967296) (hu : ∀ u ∈ us, u.f0.size ≤ 140737488351232) (l : List S92) (h1 : l.length ≤ 4294967296) (h2 : ∀ c ∈ l, c.f0.size ≤ 140737488351232) :
    Ev (fun k => impl_UndoneAll.f k l us) (undDown us us.length l) := by
  unfold impl_UndoneAll.f
  have hc : impl_Cell_83.f l = some l := by
    unfold impl_Cell_83.f
    rw [if_pos (by omega)]
  rw [wrap_id (by omega) (by omega)]
  simp only [hc, Option.bind_some]
  exact impl_UndoneAll_l0 us hl hu us.length l (Nat.le_refl _) h1 h2

theorem spec_Undone_l0 (l : List S92) (hl : l.length ≤ 4294967296) (key : ByteArray) (had : Bool) (n : Int) (d : Nat) : ∀ (i : Nat) (acc : List S92), i + d = l.length → acc.length ≤ i →
    Ev (fun k => spec_Undone.l0 k l acc (i : Int) key had n) (acc ++ (l.drop i).filter (fun x => !(x.f0.toList == key.toList))) := by
  induction d with
  | zero =>
    intro i acc hi ha
    refine Ev.shift ?_
    simp only [spec_Undone.l0, show ¬ (i : Int) < (l.length : Int) from by omega, ↓reduceIte]
    rw [List.drop_eq_nil_of_le (by omega)]
    simp only [List.filter_nil, List.append_nil]
    exact Ev.now _
  | succ d ih =>
    intro i acc hi ha
    have hil : i < l.length := by omega
    have c1 : (i : Int) < (l.length : Int) := by omega
    have c2 : (0 : Int) ≤ (i : Int) := by omega
    have c3 : acc.length < 5864062014805 := by omega
    have hup := int_up hil (by omega)
    rw [List.drop_eq_getElem_cons hil, List.filter_cons]
    refine Ev.shift ?_
    simp only [spec_Undone.l0, c1, c2, c3, hup, ↓reduceIte, rdC_nat l i hil]
    by_cases h : (l[i]).f0.toList = key.toList
    · have h' : ((l[i]).f0.toList == key.toList) = true := by simpa using h
      simp only [h, beq_self_eq_true, Bool.not_true, Bool.false_eq_true, ↓reduceIte]
      exact ih (i + 1) acc (by omega) (by omega)
    · have h' : ((l[i]).f0.toList == key.toList) = false := by simpa using h
      simp only [h, h', Bool.not_false, ↓reduceIte]
      have := ih (i + 1) (acc ++ [l[i]]) (by omega) (by rw [List.length_append, List.length_singleton]; omega)
      rw [List.append_assoc] at this
      exact this
theorem spec_Undone_ev (l : List S92) (hl : l.length ≤ 4294967296) (hk : ∀ c ∈ l, c.f0.size ≤ 140737488351232) (key : ByteArray) (hs : key.size ≤ 140737488351232) (had : Bool) (n : Int) : Ev (fun k => spec_Undone.f k l key had n) (undB l key had n) := by
  have same : Ev (fun k => spec_Undone.j0 k l true key had n) l := by
    refine Ev.shift ?_
    simp only [spec_Undone.j0, ↓reduceIte, Option.bind_some, List.nil_append, List.length_nil, Nat.zero_add, show l.length < 5864062014805 from by omega]
    exact Ev.now _
  unfold spec_Undone.f undB
  refine Ev.bind (spec_CellsOk_ev l (by omega) hk) ?_
  cases h1 : cellsB l with
  | false =>
    simp only [Bool.false_eq_true, ↓reduceIte, false_and]
    exact same
  | true =>
    simp only [↓reduceIte, true_and]
    refine Ev.bind (spec_KeyOk_ev key hs) ?_
    cases h2 : keyB key with
    | false =>
      simp only [Bool.false_eq_true, ↓reduceIte, false_and]
      exact same
    | true =>
      simp only [↓reduceIte, true_and, spec_l01In_eq, Option.bind_some]
      by_cases h3 : 0 ≤ n ∧ n ≤ 1000000000
      · simp only [h3, and_self, ↓reduceIte, decide_true, Bool.not_true]
        refine Ev.shift ?_
        simp only [spec_Undone.j0, Bool.false_eq_true, ↓reduceIte]
        cases had with
        | true =>
          simp only [↓reduceIte]
          exact Ev.bind (spec_l03Put_ev l hl key n) (Ev.now _)
        | false =>
          simp only [Bool.false_eq_true, ↓reduceIte]
          exact spec_Undone_l0 l hl key false n l.length 0 [] (by omega) (Nat.le_refl _)
      · simp only [h3, ↓reduceIte, decide_false, Bool.not_false]
        exact same

theorem spec_UndoneAll_l0 (us : List S32) (hl : us.length ≤ 4294967296) (hu : ∀ u ∈ us, u.f0.size ≤ 140737488351232) : ∀ (i : Nat) (l : List S92), i ≤ us.length → l.length ≤ 4294967296 → (∀ c ∈ l, c.f0.size ≤ 140737488351232) →
    Ev (fun k => spec_UndoneAll.l0 k us l ((i : Int) - 1)) (undDown us i l)
  | 0, l, _, h1, h2 => by
    refine Ev.shift ?_
    simp only [spec_UndoneAll.l0, show ¬ (((0 : Nat) : Int) - 1 ≥ 0) from by omega, ↓reduceIte]
    exact Ev.now _
  | i + 1, l, hi, h1, h2 => by
    have hil : i < us.length := hi
    have hk := hu _ (List.getElem_mem hil)
    rw [← rdUn_nat us i hil] at hk
    have ih := spec_UndoneAll_l0 us hl hu i (undB l (rd_T32 us (i : Int)).f0 (rd_T32 us (i : Int)).f1 (rd_T32 us (i : Int)).f2) (by omega) (undB_len (by decide) h1 _ _ _) (undB_keys h2 hk _ _)
    have e1 : (((i + 1 : Nat) : Int) - 1) = (i : Int) := by omega
    have c0 : (i : Int) ≥ 0 := by omega
    have c1 : (i : Int) < (us.length : Int) := by omega
    have e2 : wrap64 ((i : Int) - 1) = (i : Int) - 1 := wrap_id (by omega) (by omega)
    rw [e1]
    refine Ev.shift ?_
    simp only [spec_UndoneAll.l0, c0, c1, e2, ge_iff_le, ↓reduceIte]
    exact Ev.bind (spec_Undone_ev l h1 h2 _ hk _ _) ih
theorem spec_UndoneAll_ev (us : List S32) (hl : us.length ≤ 4294967296) (hu : ∀ u ∈ us, u.f0.size ≤ 140737488351232) (l : List S92) (h1 : l.length ≤ 4294967296) (h2 : ∀ c ∈ l, c.f0.size ≤ 140737488351232) :
    Ev (fun k => spec_UndoneAll.f k l us) (undDown us us.length l) := by
  unfold spec_UndoneAll.f
  rw [wrap_id (by omega) (by omega)]
  simp only [Option.bind_some, List.nil_append, List.length_nil, Nat.zero_add, show l.length < 5864062014805 from by omega, ↓reduceIte]
  exact spec_UndoneAll_l0 us hl hu us.length l (Nat.le_refl _) h1 h2

theorem laws_sameCells_l0 (l : List S92) (hl : l.length ≤ 9223372036854775807) (d : Nat) : ∀ i : Nat, i + d = l.length → Ev (fun k => laws_sameCells.l0 k l l (i : Int)) true := by
  induction d with
  | zero =>
    intro i hi
    refine Ev.shift ?_
    simp only [laws_sameCells.l0, show ¬ (i : Int) < (l.length : Int) from by omega, ↓reduceIte]
    exact Ev.now _
  | succ d ih =>
    intro i hi
    have h := ih (i + 1) (by omega)
    have hil : i < l.length := by omega
    refine Ev.shift ?_
    have c1 : (i : Int) < (l.length : Int) := by omega
    have c2 : (0 : Int) ≤ (i : Int) := by omega
    simp only [laws_sameCells.l0, c1, c2, ↓reduceIte, int_up hil hl, beq_self_eq_true, Bool.not_true, Bool.or_self, Bool.false_eq_true]
    exact h
theorem laws_sameCells_ev (l : List S92) (hl : l.length ≤ 9223372036854775807) : Ev (fun k => laws_sameCells.f k l l) true := by
  unfold laws_sameCells.f
  simp only [↓reduceIte]
  exact laws_sameCells_l0 l hl l.length 0 (by omega)
theorem FnBack : laws_FnBack.Pure := by
  intro l hl0 _ _
  have hl : l.length ≤ 9223372036854775807 := hl0
  refine Ev.rounds ?_
  unfold laws_FnBack.f laws_big.f
  simp only [Option.bind_some]
  by_cases hb : (l.length : Int) > 1048576
  · simp only [hb, decide_true, ↓reduceIte]
    exact Ev.now _
  · simp only [hb, decide_false, Bool.false_eq_true, ↓reduceIte]
    obtain ⟨cells, e1, g1⟩ := spec_DrawCells_ev hl
    obtain ⟨cs, e2, g2⟩ := spec_DrawCmds_ev hl
    have k1 := g1.1
    have k2 := g2.1
    have e3 := impl_DoneBack_ev cs (by omega) g2.2 cells (by omega) g1.2
    obtain ⟨codes, e4⟩ := spec_DoneAll_ev cs (by omega) g2.2 cells (by omega) g1.2
    have hh := back_home cs cells
    obtain ⟨q1, q2, q3, q4⟩ := backD_good cs (N := 1000) (by decide) g2.2 cs.length 0 cells [] (by omega) k1 g1.2 (fun u hu => by simp at hu)
    generalize backD cs cs.length 0 cells [] = R at e3 e4 hh q1 q2 q3 q4
    obtain ⟨a, us⟩ := R
    simp only [List.length_nil, Nat.zero_add] at q1 q2 q3 q4 e4 hh
    have e5 := impl_UndoneAll_ev us (by omega) q4 a (by omega) q2
    rw [hh q3] at e5
    obtain ⟨u, key, had, n, e6, g6, hs6⟩ := spec_DrawUndone_ev hl
    obtain ⟨x, s, e7, g7⟩ := spec_DrawUndoOf_ev hl
    obtain ⟨y, bk, e8, g8, k8, g9⟩ := spec_DrawUndoneAll_ev hl
    have k6 := g6.1
    have k7 := g7.1
    have k9 := g8.1
    have s1 := laws_sameCells_ev a (by omega)
    have s2 := laws_sameCells_ev cells (by omega)
    have i1 := impl_Undone_ev u (by omega) g6.2 key (by omega) had n
    have i2 := spec_Undone_ev u (by omega) g6.2 key (by omega) had n
    have s3 := laws_sameCells_ev (undB u key had n) (by have := undB_len (N := 1001) (by decide) k6 key had n; omega)
    have i3 := spec_UndoOf_ev x (by omega) s
    have i4 := impl_UndoneAll_ev bk (by omega) g9 y (by omega) g8.2
    have i5 := spec_UndoneAll_ev bk (by omega) g9 y (by omega) g8.2
    have s4 := laws_sameCells_ev (undDown bk bk.length y) (by have := (undDown_good bk (N := 1001) (by decide) g9 bk.length y (Nat.le_refl _) k9 g8.2).1; omega)
    refine Ev.bind e1 (Ev.bind e2 (Ev.bind e3 (Ev.bind e4 (Ev.bind e6 (Ev.bind e7 (Ev.bind e8 (Ev.bind s1 ?_)))))))
    simp only [↓reduceIte, q3]
    refine Ev.bind e5 (Ev.bind s2 ?_)
    simp only [↓reduceIte]
    refine Ev.bind i1 (Ev.bind i2 (Ev.bind s3 ?_))
    simp only [↓reduceIte, impl_UndoOf_eq, Option.bind_some]
    refine Ev.bind i3 ?_
    simp only [beq_self_eq_true, Bool.and_self, ↓reduceIte]
    exact Ev.bind i4 (Ev.bind i5 (Ev.bind s4 (Ev.now _)))

end Go.Proofs.Ytdompbebeognmaa.Pure
