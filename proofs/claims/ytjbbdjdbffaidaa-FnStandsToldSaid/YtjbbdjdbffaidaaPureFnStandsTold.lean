/- For every input that the statement reads, the law FnStandsTold of the given program returns true and leaves its arguments as they were. Conditions: none but the statement's own. -/
import Derived.Test.YtjbbdjdbffaidaaQFnStandsToldx11
import Derived.Test.YtjbbdjdbffaidaaTdLib
import Derived.Test.YtjbbdjdbffaidaaTdLibList
set_option linter.unusedVariables false
set_option linter.unusedSimpArgs false
namespace Go.Proofs.Ytjbbdjdbffaidaa.Pure
open Go.RowKit Go.Proofs.Ytjbbdjdbffaidaa.QFnStandsTold Go.Proofs.YtjbbdjdbffaidaaW.PrintWords Go.Proofs.YtjbbdjdbffaidaaW.PrintLast Go.Proofs.YtjbbdjdbffaidaaW.PrintMore Go.Proofs.Ytjbbdjdbffaidaa.Lib

theorem spec_l01New_l0 (l : List Int) (d : Nat) : ∀ (i : Nat) (x : Int), i + d = 4000 → ∃ h, Ev (fun k => spec_l01New.l0 k l x (i : Int)) (l, 0, h) := by
  induction d with
  | zero =>
    intro i x hi
    refine ⟨x, Ev.shift ?_⟩
    have h2 : ¬ (i : Int) < 4000 := by omega
    by_cases h1 : (i : Int) < (l.length : Int)
    · simp only [spec_l01New.l0, h1, h2, ↓reduceIte]
      exact Ev.now _
    · simp only [spec_l01New.l0, h1, ↓reduceIte]
      exact Ev.now _
  | succ d ih =>
    intro i x hi
    have h2 : (i : Int) < 4000 := by omega
    have h4 : (0 : Int) ≤ i := by omega
    have h6 : wrap64 ((i : Int) + 1) = ((i + 1 : Nat) : Int) := by rw [wrap_id (by omega) (by omega)]; omega
    by_cases h1 : (i : Int) < (l.length : Int)
    · obtain ⟨h, hh⟩ := ih (i + 1) (Go.bits .and .i64 (wrap64 ((wrap64 ((wrap64 (x * 131)) + (wrap64 (rd l (i : Int))))) + 7)) 1073741823) (by omega)
      refine ⟨h, Ev.shift ?_⟩
      simp only [spec_l01New.l0, h1, h2, h4, h6, ↓reduceIte]
      exact hh
    · refine ⟨x, Ev.shift ?_⟩
      simp only [spec_l01New.l0, h1, ↓reduceIte]
      exact Ev.now _
theorem spec_l01New_ev (l : List Int) : ∃ h, Ev (fun k => spec_l01New.f k l) (l, 0, h) := spec_l01New_l0 l 4000 0 _ rfl
/-- A cursor's place lies in its bytes. -/
def CurOk (l : List Int) (i : Int) : Prop := 0 ≤ i ∧ i ≤ (l.length : Int)
theorem spec_l01Byte_eq {l : List Int} (hl : l.length ≤ 9223372036854775807) {i : Int} (hi : CurOk l i) (h : Int) :
    ∃ x i' h', spec_l01Byte.f l i h = some (x, i', h') ∧ 0 ≤ x ∧ x ≤ 255 ∧ CurOk l i' := by
  unfold spec_l01Byte.f
  have hm := fun y => i64_and_range y 255 (by omega)
  by_cases h1 : i < (l.length : Int)
  · have h4 : 0 ≤ i := hi.1
    simp only [h1, h4, ↓reduceIte]
    refine ⟨_, _, _, rfl, (hm _).1, (hm _).2, ?_⟩
    rw [wrap_id (by omega) (by omega)]
    exact ⟨by omega, by omega⟩
  · simp only [h1, ↓reduceIte]
    exact ⟨_, _, _, rfl, (hm _).1, (hm _).2, hi⟩
theorem spec_l01Below_eq {l : List Int} (hl : l.length ≤ 9223372036854775807) {i : Int} (hi : CurOk l i) (h : Int) (n : Int) :
    ∃ x i' h', spec_l01Below.f l i h n = some (x, i', h') ∧ 0 ≤ x ∧ (0 < n → x < n) ∧ (n ≤ 0 → x = 0) ∧ CurOk l i' := by
  unfold spec_l01Below.f
  by_cases h0 : n ≤ 0
  · simp only [h0, ↓reduceIte]
    exact ⟨0, i, h, rfl, by omega, fun hn => by omega, fun _ => rfl, hi⟩
  · have hn : ¬ n = 0 := by omega
    by_cases h1 : n ≤ 256
    · obtain ⟨x, i', h', e, x0, x1, hc⟩ := spec_l01Byte_eq hl hi h
      simp only [h0, h1, hn, e, ↓reduceIte, Option.bind_some]
      refine ⟨_, _, _, rfl, ?_, fun _ => ?_, fun hh => by first | exact hh.elim | exact absurd hh h0, hc⟩
      · rw [tmod_pos x0]
        exact Int.emod_nonneg _ hn
      · rw [tmod_pos x0]
        exact Int.emod_lt_of_pos _ (by omega)
    · obtain ⟨x, i1, h1', e1, x0, x1, hc1⟩ := spec_l01Byte_eq hl hi h
      obtain ⟨y, i2, h2', e2, y0, y1, hc2⟩ := spec_l01Byte_eq hl hc1 h1'
      obtain ⟨z, i3, h3', e3, z0, z1, hc3⟩ := spec_l01Byte_eq hl hc2 h2'
      obtain ⟨v, i4, h4', e4, v0, v1, hc4⟩ := spec_l01Byte_eq hl hc3 h3'
      simp only [h0, h1, hn, e1, e2, e3, e4, ↓reduceIte, Option.bind_some]
      have ew : wrap64 ((wrap64 ((wrap64 ((wrap64 (x * 16777216)) + (wrap64 (y * 65536)))) + (wrap64 (z * 256)))) + v) = x * 16777216 + y * 65536 + z * 256 + v := by
        rw [wrap_id (x := x * 16777216) (by omega) (by omega), wrap_id (x := y * 65536) (by omega) (by omega), wrap_id (x := z * 256) (by omega) (by omega),
          wrap_id (x := x * 16777216 + y * 65536) (by omega) (by omega), wrap_id (x := x * 16777216 + y * 65536 + z * 256) (by omega) (by omega), wrap_id (by omega) (by omega)]
      refine ⟨_, _, _, rfl, ?_, fun _ => ?_, fun hh => by first | exact hh.elim | exact absurd hh h0, hc4⟩
      · rw [ew, tmod_pos (by omega)]
        exact Int.emod_nonneg _ hn
      · rw [ew, tmod_pos (by omega)]
        exact Int.emod_lt_of_pos _ (by omega)
theorem curOk_zero (l : List Int) : CurOk l 0 := ⟨by omega, by omega⟩

theorem rdCmd_nat (l : List S65) (i : Nat) (h : i < l.length) : rd_T65 l (i : Int) = l[i] := getD_nat l _ i h

theorem rdBlock_nat (l : List S33) (i : Nat) (h : i < l.length) : rd_T33 l (i : Int) = l[i] := getD_nat l _ i h

theorem spec_l01Once_eq {l : List Int} (hl : l.length ≤ 9223372036854775807) {i : Int} (hi : CurOk l i) (h : Int) (n : Int) :
    ∃ b i' h', spec_l01Once.f l i h n = some (b, i', h') ∧ CurOk l i' := by
  obtain ⟨x, i', h', e, _, _, _, hc⟩ := spec_l01Below_eq hl hi h n
  exact ⟨_, _, _, by unfold spec_l01Once.f; rw [e]; rfl, hc⟩
theorem spec_l01PickInt_eq {l : List Int} (hl : l.length ≤ 9223372036854775807) {i : Int} (hi : CurOk l i) (h : Int) (c : List Int) (hc : 0 < c.length) :
    ∃ x i' h', spec_l01PickInt.f l i h c = some (x, i', h') ∧ CurOk l i' := by
  obtain ⟨x, i', h', e, x0, x1, _, hc'⟩ := spec_l01Below_eq hl hi h (c.length : Int)
  have x2 := x1 (by omega)
  refine ⟨rd c x, i', h', ?_, hc'⟩
  unfold spec_l01PickInt.f
  simp only [e, x0, x2, Option.bind_some, ↓reduceIte]
theorem spec_l01Pick_eq {l : List Int} (hl : l.length ≤ 9223372036854775807) {i : Int} (hi : CurOk l i) (h : Int) (c : List ByteArray) (hc : 0 < c.length) :
    ∃ x i' h', spec_l01Pick.f l i h c = some (x, i', h') ∧ x ∈ c ∧ CurOk l i' := by
  obtain ⟨x, i', h', e, x0, x1, _, hc'⟩ := spec_l01Below_eq hl hi h (c.length : Int)
  have x2 := x1 (by omega)
  obtain ⟨j, rfl⟩ := Int.eq_ofNat_of_zero_le x0
  have hj : j < c.length := by omega
  refine ⟨rdOf ByteArray.empty c (j : Int), i', h', ?_, ?_, hc'⟩
  · unfold spec_l01Pick.f
    simp only [e, x0, x2, Option.bind_some, ↓reduceIte]
  · rw [show rdOf ByteArray.empty c (j : Int) = c[j] from getD_nat c _ j hj]
    exact List.getElem_mem hj
theorem spec_l03Key_eq {l : List Int} (hl : l.length ≤ 9223372036854775807) {i : Int} (hi : CurOk l i) (h : Int) :
    ∃ s i' h', spec_l03Key.f l i h = some (s, i', h') ∧ s.size ≤ 3 ∧ CurOk l i' := by
  obtain ⟨s, i', h', e, hs, hc⟩ := spec_l01Pick_eq hl hi h (([(⟨#[97]⟩ : ByteArray), (⟨#[98]⟩ : ByteArray), (⟨#[99]⟩ : ByteArray), (⟨#[97, 98, 99]⟩ : ByteArray)] : List ByteArray)) (by decide)
  refine ⟨s, i', h', by unfold spec_l03Key.f; rw [e]; rfl, ?_, hc⟩
  simp only [List.mem_cons, List.not_mem_nil, or_false] at hs
  rcases hs with rfl | rfl | rfl | rfl <;> decide
theorem spec_l03Cmd_eq {l : List Int} (hl : l.length ≤ 9223372036854775807) {i : Int} (hi : CurOk l i) (h : Int) :
    ∃ a s b i' h', spec_l03Cmd.f l i h = some (a, s, b, i', h') ∧ s.size ≤ 3 ∧ CurOk l i' := by
  obtain ⟨x, i1, h1, e1, _, _, _, hc1⟩ := spec_l01Below_eq hl hi h 3
  obtain ⟨s, i2, h2, e2, hs, hc2⟩ := spec_l03Key_eq hl hc1 h1
  obtain ⟨b, i3, h3, e3, hc3⟩ := spec_l01PickInt_eq hl hc2 h2 (([0, 1, 7, 500, 999999999] : List Int)) (by decide)
  exact ⟨_, s, b, i3, h3, by unfold spec_l03Cmd.f; rw [e1, Option.bind_some, e2, Option.bind_some, e3, Option.bind_some], hs, hc3⟩
def CmdsGood (c : List S65) : Prop := c.length ≤ 1000 ∧ ∀ x ∈ c, x.f1.size ≤ 140737488351232
theorem spec_l03Cmds_l0 {l : List Int} (hl : l.length ≤ 9223372036854775807) (d : Nat) : ∀ (j : Nat) (acc : List S65) (i h : Int), j + d = 5 → acc.length = j → (∀ x ∈ acc, x.f1.size ≤ 140737488351232) → CurOk l i →
    ∃ r i' h', Ev (fun k => spec_l03Cmds.l0 k acc (j : Int) l i h) (r, i', h') ∧ CmdsGood r ∧ CurOk l i' := by
  induction d with
  | zero =>
    intro j acc i h hj ha hg hc
    obtain ⟨x, i1, h1, e1, x0, x1, _, hc1⟩ := spec_l01Below_eq hl hc h 5
    have x2 := x1 (by omega)
    refine ⟨acc, i1, h1, Ev.shift ?_, ⟨by omega, hg⟩, hc1⟩
    simp only [spec_l03Cmds.l0, e1, Option.bind_some, show ¬ (j : Int) < x from by omega, ↓reduceIte]
    exact Ev.now _
  | succ d ih =>
    intro j acc i h hj ha hg hc
    obtain ⟨x, i1, h1, e1, x0, x1, _, hc1⟩ := spec_l01Below_eq hl hc h 5
    by_cases hx : (j : Int) < x
    · obtain ⟨a, s, b, i2, h2, e2, hs, hc2⟩ := spec_l03Cmd_eq hl hc1 h1
      have h6 : wrap64 ((j : Int) + 1) = ((j + 1 : Nat) : Int) := by rw [wrap_id (by omega) (by omega)]; omega
      have hlt : acc.length < 4398046511104 := by omega
      obtain ⟨r, i', h', hr, g, c⟩ := ih (j + 1) (acc ++ [⟨a, s, b⟩]) i2 h2 (by omega) (by rw [List.length_append, List.length_singleton]; omega) (fun y hy => by
        rcases List.mem_append.1 hy with hy | hy
        · exact hg y hy
        · rw [List.mem_singleton.1 hy]
          show s.size ≤ _
          omega) hc2
      refine ⟨r, i', h', Ev.shift ?_, g, c⟩
      simp only [spec_l03Cmds.l0, e1, e2, Option.bind_some, hx, hlt, h6, ↓reduceIte]
      exact hr
    · refine ⟨acc, i1, h1, Ev.shift ?_, ⟨by omega, hg⟩, hc1⟩
      simp only [spec_l03Cmds.l0, e1, Option.bind_some, hx, ↓reduceIte]
      exact Ev.now _
theorem spec_l03Cmds_ev {l : List Int} (hl : l.length ≤ 9223372036854775807) {i : Int} (hi : CurOk l i) (h : Int) :
    ∃ r i' h', Ev (fun k => spec_l03Cmds.f k l i h) (r, i', h') ∧ CmdsGood r ∧ CurOk l i' :=
  spec_l03Cmds_l0 hl 5 0 [] i h rfl rfl (fun x hx => by simp at hx) hi

theorem spec_l01In_eq (a b c : Int) : spec_l01In.f a b c = some (decide (b ≤ a ∧ a ≤ c)) := by
  unfold spec_l01In.f
  by_cases h : a ≥ b
  · simp [h]
  · have h' : ¬ b ≤ a := by omega
    simp [h, h']

theorem spec_KeyOk_l0 (s : ByteArray) (hs : s.size ≤ 140737488351232) (d : Nat) : ∀ i : Nat, i + d = s.size → (∀ j : Nat, j < i → 97 ≤ bt s j ∧ bt s j ≤ 122) → Ev (fun k => spec_KeyOk.l0 k s (i : Int)) (keyB s) := by
  induction d with
  | zero =>
    intro i hi h
    obtain rfl : i = s.size := by omega
    refine Ev.shift ?_
    simp only [spec_KeyOk.l0, show ¬ (s.size : Int) < s.size from by omega, ↓reduceIte, spec_l01In_eq, Option.bind_some]
    rw [keyB_low h]
    exact Ev.now _
  | succ d ih =>
    intro i hi h
    refine Ev.shift ?_
    have h1 : (i : Int) < s.size := by omega
    have h4 : (0 : Int) ≤ i := by omega
    have h6 : wrap64 ((i : Int) + 1) = ((i + 1 : Nat) : Int) := by rw [wrap_id (by omega) (by omega)]; omega
    by_cases ha : bt s (i : Int) < 97
    · simp only [spec_KeyOk.l0, h1, h4, ha, ↓reduceIte]
      rw [keyB_not (i := i) (by omega) (by omega)]
      exact Ev.now _
    · by_cases hb : bt s (i : Int) > 122
      · simp only [spec_KeyOk.l0, h1, h4, ha, hb, ↓reduceIte]
        rw [keyB_not (i := i) (by omega) (by omega)]
        exact Ev.now _
      · simp only [spec_KeyOk.l0, h1, h4, ha, hb, h6, ↓reduceIte]
        refine ih (i + 1) (by omega) fun j hj => ?_
        by_cases he : j = i
        · subst he
          omega
        · exact h j (by omega)
theorem spec_KeyOk_ev (s : ByteArray) (hs : s.size ≤ 140737488351232) : Ev (fun k => spec_KeyOk.f k s) (keyB s) :=
  spec_KeyOk_l0 s hs s.size 0 (by omega) (fun j hj => by omega)

def cmdB (kind : Int) (key : ByteArray) (num : Int) : Bool := decide (1 ≤ kind ∧ kind ≤ 3) && (keyB key && decide (0 ≤ num ∧ num ≤ 1000000000))
theorem spec_CmdOk_ev (a : Int) {s : ByteArray} (b : Int) (hs : s.size ≤ 140737488351232) : Ev (fun k => spec_CmdOk.f k a s b) (cmdB a s b) := by
  unfold spec_CmdOk.f cmdB
  simp only [spec_l01In_eq, Option.bind_some]
  by_cases h : decide (1 ≤ a ∧ a ≤ 3) = true
  · simp only [h, ↓reduceIte, Bool.true_and]
    refine Ev.bind (spec_KeyOk_ev s hs) ?_
    by_cases hk : keyB s = true
    · simp only [hk, ↓reduceIte, Bool.true_and]
      exact Ev.now _
    · simp only [Bool.not_eq_true] at hk
      simp only [hk, ↓reduceIte, Bool.false_and, Bool.false_eq_true]
      exact Ev.now _
  · simp only [Bool.not_eq_true] at h
    simp only [h, ↓reduceIte, Bool.false_and, Bool.false_eq_true]
    exact Ev.now _

def okC (c : S65) : Bool := cmdB c.f0 c.f1 c.f2
def finB (t : List S33) (a0 a4 a5 : Int) : Bool := if a5 = a0 then a4 == (rd_T33 t a0).f1 else false
def blockB (t : List S33) (a0 a1 : Int) (c : List S65) (a4 a5 : Int) : Bool :=
  if 0 ≤ a0 ∧ a0 ≤ (t.length : Int) - 1 then (if a1 ≤ (rd_T33 t a0).f1 then false else if a1 > 900 then false else if (c.length : Int) > 4 then false else (c.all okC && finB t a0 a4 a5)) else false

theorem spec_BlockOk_l0 (t : List S33) (a0 a1 : Int) (c : List S65) (a3 a4 a5 a6 : Int) (h0 : 0 ≤ a0) (h1 : a0 < (t.length : Int)) (hl : c.length ≤ 9223372036854775807) (hk : ∀ x ∈ c, x.f1.size ≤ 140737488351232)
    (d : Nat) : ∀ i : Nat, i + d = c.length → Ev (fun k => spec_BlockOk.l0 k t (i : Int) a0 a1 c a3 a4 a5 a6) ((c.drop i).all okC && finB t a0 a4 a5) := by
  induction d with
  | zero =>
    intro i hi
    refine Ev.shift ?_
    rw [List.drop_of_length_le (by omega)]
    simp only [spec_BlockOk.l0, show ¬ (i : Int) < (c.length : Int) from by omega, ↓reduceIte, h0, h1, List.all_nil, Bool.true_and, finB]
    by_cases h : a5 = a0
    · simp only [h, ↓reduceIte]
      exact Ev.now _
    · simp only [h, ↓reduceIte]
      exact Ev.now _
  | succ d ih =>
    intro i hi
    have hr := ih (i + 1) (by omega)
    have hil : i < c.length := by omega
    have c1 : (i : Int) < (c.length : Int) := by omega
    have c2 : (0 : Int) ≤ (i : Int) := by omega
    have hup := int_up hil hl
    have hs : (c[i]).f1.size ≤ 140737488351232 := hk _ (List.getElem_mem hil)
    have he := spec_CmdOk_ev (c[i]).f0 (c[i]).f2 hs
    refine Ev.shift ?_
    rw [List.drop_eq_getElem_cons hil, List.all_cons]
    simp only [spec_BlockOk.l0, c1, c2, rdCmd_nat c i hil, hup, ↓reduceIte]
    refine Ev.bind he ?_
    by_cases h : cmdB (c[i]).f0 (c[i]).f1 (c[i]).f2 = true
    · simp only [okC, h, ↓reduceIte, Bool.true_and]
      exact hr
    · simp only [Bool.not_eq_true] at h
      simp only [okC, h, ↓reduceIte, Bool.false_and, Bool.false_eq_true]
      exact Ev.now _
theorem spec_BlockOk_ev (t : List S33) (ht : t.length ≤ 1048576) (a0 a1 : Int) (c : List S65) (a3 a4 a5 a6 : Int) (hl : c.length ≤ 9223372036854775807) (hk : ∀ x ∈ c, x.f1.size ≤ 140737488351232) :
    Ev (fun k => spec_BlockOk.f k t a0 a1 c a3 a4 a5 a6) (blockB t a0 a1 c a4 a5) := by
  have e : wrap64 ((t.length : Int) - 1) = (t.length : Int) - 1 := wrap_id (by omega) (by omega)
  unfold spec_BlockOk.f blockB
  simp only [spec_l01In_eq, Option.bind_some, e]
  by_cases h : 0 ≤ a0 ∧ a0 ≤ (t.length : Int) - 1
  · have c1 : a0 < (t.length : Int) := by omega
    simp only [decide_eq_true h, if_pos h, ↓reduceIte]
    simp only [h.1, c1, ↓reduceIte]
    by_cases h2 : a1 ≤ (rd_T33 t a0).f1
    · simp only [h2, ↓reduceIte]
      refine Ev.shift ?_
      simp only [spec_BlockOk.j0, ↓reduceIte]
      exact Ev.now _
    · simp only [h2, ↓reduceIte]
      by_cases h3 : a1 > 900
      · simp only [h3, ↓reduceIte]
        refine Ev.shift ?_
        simp only [spec_BlockOk.j0, ↓reduceIte]
        exact Ev.now _
      · simp only [h3, ↓reduceIte]
        refine Ev.shift ?_
        simp only [spec_BlockOk.j0]
        by_cases h4 : (c.length : Int) > 4
        · simp only [h4, decide_true, ↓reduceIte]
          exact Ev.now _
        · simp only [h4, decide_false, ↓reduceIte, Bool.false_eq_true]
          have hr := spec_BlockOk_l0 t a0 a1 c a3 a4 a5 a6 h.1 c1 hl hk c.length 0 (by omega)
          rw [List.drop_zero] at hr
          exact hr
  · simp only [decide_eq_false h, if_neg h, ↓reduceIte, Bool.false_eq_true]
    refine Ev.shift ?_
    simp only [spec_BlockOk.j0, ↓reduceIte]
    exact Ev.now _

def neC (a b : S65) : Bool := !(a.f0 == b.f0) || (!(a.f1.toList == b.f1.toList) || !(a.f2 == b.f2))
def sameL (c e : List S65) : Nat → Nat → Bool
  | 0, _ => true
  | d + 1, i => !(neC (rd_T65 c (i : Int)) (rd_T65 e (i : Int))) && sameL c e d (i + 1)
def sameB (a0 a1 : Int) (c : List S65) (a3 a4 a5 a6 b0 b1 : Int) (e : List S65) (b3 b4 b5 b6 : Int) : Bool :=
  if a0 = b0 then (if a1 = b1 then (if (c.length : Int) = (e.length : Int) then (sameL c e c.length 0 && (a3 == b3 && (a4 == b4 && (a5 == b5 && a6 == b6)))) else false) else false) else false

/-- The first place of a block that says the same; -1 where there is none. -/
def atBl (b0 b1 : Int) (e : List S65) (b3 b4 b5 b6 : Int) : List S33 → Int → Int
  | [], _ => -1
  | x :: xs, i => if sameB x.f0 x.f1 x.f2 x.f3.f0 x.f3.f1 x.f3.f2 x.f3.f3 b0 b1 e b3 b4 b5 b6 = true then i else atBl b0 b1 e b3 b4 b5 b6 xs (i + 1)

theorem spec_SameBlock_l0 (a0 a1 : Int) (c : List S65) (a3 a4 a5 a6 b0 b1 : Int) (e : List S65) (b3 b4 b5 b6 : Int) (hl : c.length ≤ 9223372036854775807) (he : (c.length : Int) = (e.length : Int)) (d : Nat) :
    ∀ i : Nat, i + d = c.length → Ev (fun k => spec_SameBlock.l0 k (i : Int) a0 a1 c a3 a4 a5 a6 b0 b1 e b3 b4 b5 b6) (sameL c e d i) := by
  induction d with
  | zero =>
    intro i hi
    refine Ev.shift ?_
    simp only [spec_SameBlock.l0, show ¬ (i : Int) < (c.length : Int) from by omega, ↓reduceIte, sameL]
    exact Ev.now _
  | succ d ih =>
    intro i hi
    have hr := ih (i + 1) (by omega)
    have hil : i < c.length := by omega
    have c1 : (i : Int) < (c.length : Int) := by omega
    have c2 : (0 : Int) ≤ (i : Int) := by omega
    have c3 : (i : Int) < (e.length : Int) := by omega
    have hup := int_up hil hl
    refine Ev.shift ?_
    simp only [spec_SameBlock.l0, c1, c2, c3, hup, ↓reduceIte, sameL]
    by_cases h : neC (rd_T65 c (i : Int)) (rd_T65 e (i : Int)) = true
    · rw [h]
      unfold neC at h
      simp only [if_pos h]
      exact Ev.now _
    · have h' := h
      simp only [Bool.not_eq_true] at h'
      rw [h', Bool.not_false, Bool.true_and]
      unfold neC at h
      simp only [if_neg h]
      exact hr
theorem spec_SameBlock_ev (a0 a1 : Int) (c : List S65) (a3 a4 a5 a6 b0 b1 : Int) (e : List S65) (b3 b4 b5 b6 : Int) (hl : c.length ≤ 9223372036854775807) :
    Ev (fun k => spec_SameBlock.f k a0 a1 c a3 a4 a5 a6 b0 b1 e b3 b4 b5 b6) (sameB a0 a1 c a3 a4 a5 a6 b0 b1 e b3 b4 b5 b6) := by
  unfold spec_SameBlock.f sameB
  by_cases h0 : a0 = b0
  · rw [if_pos h0]
    simp only [if_pos h0]
    by_cases h1 : a1 = b1
    · rw [if_pos h1]
      simp only [if_pos h1]
      by_cases h2 : (!(a3 == b3) || (!(a4 == b4) || (!(a5 == b5) || (!(a6 == b6))))) = true
      · have h3 : (a3 == b3 && (a4 == b4 && (a5 == b5 && a6 == b6))) = false := by
          revert h2
          cases (a3 == b3) <;> cases (a4 == b4) <;> cases (a5 == b5) <;> cases (a6 == b6) <;> decide
        rw [h3, Bool.and_false, ite_self]
        simp only [if_pos h2]
        refine Ev.shift ?_
        simp only [spec_SameBlock.j0, ↓reduceIte]
        exact Ev.now _
      · have h3 : (a3 == b3 && (a4 == b4 && (a5 == b5 && a6 == b6))) = true := by
          revert h2
          cases (a3 == b3) <;> cases (a4 == b4) <;> cases (a5 == b5) <;> cases (a6 == b6) <;> decide
        rw [h3, Bool.and_true]
        simp only [if_neg h2]
        refine Ev.shift ?_
        simp only [spec_SameBlock.j0]
        by_cases h4 : (c.length : Int) = (e.length : Int)
        · have h5 : ((c.length : Int) != (e.length : Int)) = false := by rw [h4]; exact bne_self_eq_false _
          rw [h5, if_pos h4]
          simp only [Bool.false_eq_true, ↓reduceIte]
          exact spec_SameBlock_l0 a0 a1 c a3 a4 a5 a6 b0 b1 e b3 b4 b5 b6 hl h4 c.length 0 (by omega)
        · have h5 : ((c.length : Int) != (e.length : Int)) = true := bne_iff_ne.2 h4
          rw [h5, if_neg h4]
          simp only [↓reduceIte]
          exact Ev.now _
    · rw [if_neg h1]
      simp only [if_neg h1]
      refine Ev.shift ?_
      simp only [spec_SameBlock.j0, ↓reduceIte]
      exact Ev.now _
  · rw [if_neg h0]
    simp only [if_neg h0]
    refine Ev.shift ?_
    simp only [spec_SameBlock.j0, ↓reduceIte]
    exact Ev.now _

theorem spec_BlockAt_l0 (b0 b1 : Int) (e : List S65) (b3 b4 b5 b6 : Int) (l : List S33) (hl : l.length ≤ 9223372036854775807) (hk : ∀ x ∈ l, x.f2.length ≤ 9223372036854775807) (d : Nat) :
    ∀ i : Nat, i + d = l.length → Ev (fun k => spec_BlockAt.l0 k l (i : Int) b0 b1 e b3 b4 b5 b6) (atBl b0 b1 e b3 b4 b5 b6 (l.drop i) (i : Int)) := by
  induction d with
  | zero =>
    intro i hi
    refine Ev.shift ?_
    rw [List.drop_of_length_le (by omega)]
    simp only [spec_BlockAt.l0, show ¬ (i : Int) < (l.length : Int) from by omega, ↓reduceIte, atBl]
    exact Ev.now _
  | succ d ih =>
    intro i hi
    have hr := ih (i + 1) (by omega)
    have hil : i < l.length := by omega
    have c1 : (i : Int) < (l.length : Int) := by omega
    have c2 : (0 : Int) ≤ (i : Int) := by omega
    have hup := int_up hil hl
    have he := spec_SameBlock_ev (l[i]).f0 (l[i]).f1 (l[i]).f2 (l[i]).f3.f0 (l[i]).f3.f1 (l[i]).f3.f2 (l[i]).f3.f3 b0 b1 e b3 b4 b5 b6 (hk _ (List.getElem_mem hil))
    refine Ev.shift ?_
    rw [List.drop_eq_getElem_cons hil]
    simp only [spec_BlockAt.l0, c1, c2, rdBlock_nat l i hil, hup, ↓reduceIte, atBl]
    refine Ev.bind he ?_
    generalize sameB (l[i]).f0 (l[i]).f1 (l[i]).f2 (l[i]).f3.f0 (l[i]).f3.f1 (l[i]).f3.f2 (l[i]).f3.f3 b0 b1 e b3 b4 b5 b6 = s
    cases s with
    | true =>
      simp only [↓reduceIte]
      exact Ev.now _
    | false =>
      simp only [↓reduceIte, Bool.false_eq_true]
      exact hr
theorem spec_BlockAt_ev (b0 b1 : Int) (e : List S65) (b3 b4 b5 b6 : Int) (l : List S33) (hl : l.length ≤ 9223372036854775807) (hk : ∀ x ∈ l, x.f2.length ≤ 9223372036854775807) :
    Ev (fun k => spec_BlockAt.f k l b0 b1 e b3 b4 b5 b6) (atBl b0 b1 e b3 b4 b5 b6 l 0) := by
  have h := spec_BlockAt_l0 b0 b1 e b3 b4 b5 b6 l hl hk l.length 0 (by omega)
  rw [List.drop_zero] at h
  exact h

def BlocksFit (t : List S33) : Prop := ∀ x ∈ t, CmdsGood x.f2
theorem spec_l05Block_eq (a0 a1 : Int) (c : List S65) (a3 a4 a5 a6 : Int) (h : c.length ≤ 1000) : spec_l05Block.f a0 a1 c a3 a4 a5 a6 = some (a0, a1, c, a3, a4, a5, a6) := by
  have h2 : ([] : List S65).length + c.length < 4398046511104 := by rw [List.length_nil]; omega
  unfold spec_l05Block.f
  simp only [Option.bind_some, h2, ↓reduceIte, List.nil_append]
theorem spec_l05Tree_l0 (t : List S33) (ht : t.length ≤ 100) (hg : BlocksFit t) (d : Nat) : ∀ i : Nat, i + d = t.length → Ev (fun k => spec_l05Tree.l0 k t (t.take i) (i : Int)) t := by
  induction d with
  | zero =>
    intro i hi
    refine Ev.shift ?_
    simp only [spec_l05Tree.l0, show ¬ (i : Int) < (t.length : Int) from by omega, ↓reduceIte]
    rw [List.take_of_length_le (by omega)]
    exact Ev.now _
  | succ d ih =>
    intro i hi
    have hr := ih (i + 1) (by omega)
    have hil : i < t.length := by omega
    have c1 : (i : Int) < (t.length : Int) := by omega
    have c2 : (0 : Int) ≤ (i : Int) := by omega
    have hup := int_up hil (by omega)
    have hb := spec_l05Block_eq (t[i]).f0 (t[i]).f1 (t[i]).f2 (t[i]).f3.f0 (t[i]).f3.f1 (t[i]).f3.f2 (t[i]).f3.f3 (hg _ (List.getElem_mem hil)).1
    have hlt : (t.take i).length < 1954687338268 := by rw [List.length_take]; omega
    refine Ev.shift ?_
    simp only [spec_l05Tree.l0, c1, c2, rdBlock_nat t i hil, hup, hb, hlt, Option.bind_some, ↓reduceIte]
    rw [List.take_succ_eq_append_getElem hil] at hr
    exact hr
theorem spec_l05Tree_ev (t : List S33) (ht : t.length ≤ 100) (hg : BlocksFit t) : Ev (fun k => spec_l05Tree.f k t) t := by
  have h := spec_l05Tree_l0 t ht hg t.length 0 (by omega)
  rw [List.take_zero] at h
  exact h
theorem blockB_par {t : List S33} {a0 a1 : Int} {c : List S65} {a4 a5 : Int} (h : blockB t a0 a1 c a4 a5 = true) : 0 ≤ a0 ∧ a0 ≤ (t.length : Int) - 1 := by
  unfold blockB at h
  split at h
  · assumption
  · cases h
/-- What a drawn tree is: of few blocks, the Parent of each but the first before it. -/
def TreeUp (t : List S33) (n : Nat) : Prop := 1 ≤ t.length ∧ t.length ≤ n ∧ BlocksFit t ∧ ∀ k : Nat, 0 < k → ∀ h : k < t.length, 0 ≤ (t[k]).f0 ∧ (t[k]).f0 ≤ (k : Int) - 1
theorem TreeUp.more {t : List S33} {n : Nat} (h : TreeUp t n) : TreeUp t (n + 1) := ⟨h.1, by have := h.2.1; omega, h.2.2⟩
theorem spec_PutBlock_ev (t : List S33) (n : Nat) (hn : n ≤ 90) (ht : TreeUp t n) (a0 a1 : Int) (c : List S65) (a3 a4 a5 a6 : Int) (hc : CmdsGood c) :
    ∃ r m, Ev (fun k => spec_PutBlock.f k t a0 a1 c a3 a4 a5 a6) (r, m) ∧ TreeUp r (n + 1) := by
  obtain ⟨t1, t2, t3, t4⟩ := ht
  have hT := spec_l05Tree_ev t (by omega) t3
  have hA := spec_BlockAt_ev a0 a1 c a3 a4 a5 a6 t (by omega) (fun x hx => by have := (t3 x hx).1; omega)
  have hO := spec_BlockOk_ev t (by omega) a0 a1 c a3 a4 a5 a6 (by have := hc.1; omega) hc.2
  unfold spec_PutBlock.f
  by_cases h1 : atBl a0 a1 c a3 a4 a5 a6 t 0 ≥ 0
  · refine ⟨t, atBl a0 a1 c a3 a4 a5 a6 t 0, Ev.bind hT (Ev.bind hA ?_), t1, by omega, t3, t4⟩
    simp only [h1, ↓reduceIte]
    exact Ev.now _
  · by_cases h2 : blockB t a0 a1 c a4 a5 = true
    · by_cases h3 : (t.length : Int) ≥ 60
      · refine ⟨t, -1, Ev.bind hT (Ev.bind hA ?_), t1, by omega, t3, t4⟩
        simp only [h1, ↓reduceIte]
        refine Ev.bind hO ?_
        simp only [h2, h3, ↓reduceIte]
        exact Ev.now _
      · have hb := spec_l05Block_eq a0 a1 c a3 a4 a5 a6 hc.1
        have hlt : t.length < 1954687338268 := by omega
        refine ⟨t ++ [⟨a0, a1, c, ⟨a3, a4, a5, a6⟩⟩], (t.length : Int), Ev.bind hT (Ev.bind hA ?_), by rw [List.length_append, List.length_singleton]; omega, by rw [List.length_append, List.length_singleton]; omega, ?_, ?_⟩
        · simp only [h1, ↓reduceIte]
          refine Ev.bind hO ?_
          simp only [h2, h3, hb, hlt, Option.bind_some, ↓reduceIte]
          exact Ev.now _
        · intro x hx
          rcases List.mem_append.1 hx with hx | hx
          · exact t3 x hx
          · rw [List.mem_singleton.1 hx]
            exact hc
        · intro k k0 hk
          rw [List.length_append, List.length_singleton] at hk
          by_cases hkt : k < t.length
          · rw [List.getElem_append_left hkt]
            exact t4 k k0 hkt
          · obtain rfl : k = t.length := by omega
            rw [List.getElem_append_right (Nat.le_refl _)]
            simp only [Nat.sub_self, List.getElem_cons_zero]
            exact blockB_par h2
    · refine ⟨t, -1, Ev.bind hT (Ev.bind hA ?_), t1, by omega, t3, t4⟩
      simp only [h1, ↓reduceIte]
      refine Ev.bind hO ?_
      simp only [h2, ↓reduceIte]
      exact Ev.now _
theorem spec_l05On_eq (t : List S33) (k more : Int) (c : List S65) (ph : Int) (h0 : 0 ≤ k) (h1 : k < (t.length : Int)) : ∃ v a3 a4 a6, spec_l05On.f t k more c ph = some (k, v, c, a3, a4, k, a6) := by
  unfold spec_l05On.f
  by_cases h : k > 0
  · simp only [h0, h1, h, ↓reduceIte]
    exact ⟨_, _, _, _, rfl⟩
  · simp only [h0, h1, h, ↓reduceIte]
    exact ⟨_, _, _, _, rfl⟩
theorem spec_l05Drawn_l0 {l : List Int} (hl : l.length ≤ 9223372036854775807) (ph : Int) (d : Nat) : ∀ (j : Nat) (t : List S33) (i h : Int), j + d = 9 → TreeUp t (j + 1) → CurOk l i →
    ∃ r i' h', Ev (fun k => spec_l05Drawn.l0 k t ph (j : Int) l i h) (r, i', h') ∧ TreeUp r 10 ∧ CurOk l i' := by
  induction d with
  | zero =>
    intro j t i h hj ht hc
    obtain ⟨x, i1, h1, e1, x0, x1, _, hc1⟩ := spec_l01Below_eq hl hc h 9
    have x2 := x1 (by omega)
    refine ⟨t, i1, h1, Ev.shift ?_, ⟨ht.1, by have := ht.2.1; omega, ht.2.2⟩, hc1⟩
    simp only [spec_l05Drawn.l0, e1, Option.bind_some, show ¬ (j : Int) < x from by omega, ↓reduceIte]
    exact Ev.now _
  | succ d ih =>
    intro j t i h hj ht hc
    obtain ⟨x, i1, h1, e1, x0, x1, _, hc1⟩ := spec_l01Below_eq hl hc h 9
    by_cases hx : (j : Int) < x
    · have h6 : wrap64 ((j : Int) + 1) = ((j + 1 : Nat) : Int) := by rw [wrap_id (by omega) (by omega)]; omega
      have t1 := ht.1
      have t2 := ht.2.1
      have key : ∀ (p : Int) (i h : Int), 0 ≤ p → p < (t.length : Int) → CurOk l i → ∃ r i' h', Ev (fun k => spec_l05Drawn.j1 k t ph (j : Int) p l i h) (r, i', h') ∧ TreeUp r 10 ∧ CurOk l i' := by
        intro p i h p0 p1 hc
        obtain ⟨b, i2, h2, e2, hc2⟩ := spec_l01Once_eq hl hc h 4
        obtain ⟨c, i3, h3, e3, hg, hc3⟩ := spec_l03Cmds_ev hl hc2 h2
        have go : ∀ more : Int, ∃ r i' h', Ev (fun k => (spec_l05On.f t p more c ph).bind fun bt => (spec_PutBlock.f k t bt.1 bt.2.1 bt.2.2.1 bt.2.2.2.1 bt.2.2.2.2.1 bt.2.2.2.2.2.1 bt.2.2.2.2.2.2).bind fun bt2 => spec_l05Drawn.l0 k bt2.1 ph (wrap64 ((j : Int) + 1)) l i3 h3) (r, i', h') ∧ TreeUp r 10 ∧ CurOk l i' := by
          intro more
          obtain ⟨v, a3, a4, a6, eo⟩ := spec_l05On_eq t p more c ph p0 p1
          obtain ⟨u, m, hu, hup⟩ := spec_PutBlock_ev t (j + 1) (by omega) ht p v c a3 a4 p a6 hg
          obtain ⟨r, i', h', hr, g, cc⟩ := ih (j + 1) u i3 h3 (by omega) hup hc3
          refine ⟨r, i', h', ?_, g, cc⟩
          simp only [eo, Option.bind_some, h6]
          exact Ev.bind hu hr
        cases b with
        | true =>
          obtain ⟨r, i', h', hr, g, cc⟩ := go 2
          refine ⟨r, i', h', Ev.shift ?_, g, cc⟩
          simp only [spec_l05Drawn.j1, e2, Option.bind_some, ↓reduceIte]
          exact Ev.bind e3 hr
        | false =>
          obtain ⟨r, i', h', hr, g, cc⟩ := go 1
          refine ⟨r, i', h', Ev.shift ?_, g, cc⟩
          simp only [spec_l05Drawn.j1, e2, Option.bind_some, ↓reduceIte, Bool.false_eq_true]
          exact Ev.bind e3 hr
      obtain ⟨b, i2, h2, e2, hc2⟩ := spec_l01Once_eq hl hc1 h1 4
      cases b with
      | true =>
        obtain ⟨y, i3, h3, e3, y0, y1, _, hc3⟩ := spec_l01Below_eq hl hc2 h2 (t.length : Int)
        obtain ⟨r, i', h', hr, g, cc⟩ := key y i3 h3 y0 (y1 (by omega)) hc3
        refine ⟨r, i', h', Ev.shift ?_, g, cc⟩
        simp only [spec_l05Drawn.l0, e1, e2, e3, hx, Option.bind_some, ↓reduceIte]
        exact hr
      | false =>
        have w1 : wrap64 ((t.length : Int) - 1) = (t.length : Int) - 1 := wrap_id (by omega) (by omega)
        obtain ⟨r, i', h', hr, g, cc⟩ := key ((t.length : Int) - 1) i2 h2 (by omega) (by omega) hc2
        refine ⟨r, i', h', Ev.shift ?_, g, cc⟩
        simp only [spec_l05Drawn.l0, e1, e2, hx, w1, Option.bind_some, ↓reduceIte, Bool.false_eq_true]
        exact hr
    · refine ⟨t, i1, h1, Ev.shift ?_, ⟨ht.1, by have := ht.2.1; omega, ht.2.2⟩, hc1⟩
      simp only [spec_l05Drawn.l0, e1, Option.bind_some, hx, ↓reduceIte]
      exact Ev.now _
theorem spec_l05Drawn_ev {l : List Int} (hl : l.length ≤ 9223372036854775807) {i : Int} (hi : CurOk l i) (h : Int) :
    ∃ r i' h', Ev (fun k => spec_l05Drawn.f k l i h) (r, i', h') ∧ TreeUp r 10 ∧ CurOk l i' := by
  obtain ⟨p, i1, h1, e1, hc1⟩ := spec_l01PickInt_eq hl hi h (([1, 4] : List Int)) (by decide)
  have hT : TreeUp ([(⟨-1, 0, [], (⟨0, 0, 0, 0⟩)⟩ : S33)]) (0 + 1) := by
    refine ⟨by decide, by decide, fun x hx => ?_, fun k k0 hk => ?_⟩
    · rw [List.mem_singleton.1 hx]
      exact ⟨Nat.zero_le _, fun y hy => by cases hy⟩
    · rw [List.length_singleton] at hk
      omega
  obtain ⟨r, i', h', hr, g, cc⟩ := spec_l05Drawn_l0 hl p 9 0 _ i1 h1 rfl hT hc1
  refine ⟨r, i', h', ?_, g, cc⟩
  unfold spec_l05Drawn.f spec_TreeNew.f spec_FirstBlock.f
  simp only [Option.bind_some, e1]
  exact hr

/-- The Parent of place k. -/
def par (l : List S33) (k : Int) : Int := (rd_T33 l k).f0
/-- The way from k down to the first block, at most d steps. -/
def way (l : List S33) : Nat → Int → Option (List Int)
  | 0, k => if k > 0 then none else some [k]
  | d + 1, k => if k > 0 then (if 0 ≤ par l k ∧ par l k ≤ k - 1 then (way l d (par l k)).map (fun w => k :: w) else none) else some [k]
def wayK (l : List S33) (k : Int) : Option (List Int) := if 0 ≤ k ∧ k ≤ (l.length : Int) - 1 then way l k.toNat k else none
/-- What is behind the first of a way. -/
theorem way_head (l : List S33) : ∀ (d : Nat) (k : Int) (w : List Int), way l d k = some w → ∃ t, w = k :: t
  | 0, k, w, h => by
    simp only [way] at h
    split at h
    · simp at h
    · exact ⟨[], (Option.some.inj h).symm⟩
  | d + 1, k, w, h => by
    simp only [way] at h
    split at h
    · split at h
      · obtain ⟨t, _, rfl⟩ := Option.map_eq_some_iff.1 h
        exact ⟨t, rfl⟩
      · simp at h
    · exact ⟨[], (Option.some.inj h).symm⟩
theorem way_length (l : List S33) : ∀ (d : Nat) (k : Int) (w : List Int), way l d k = some w → 1 ≤ w.length ∧ w.length ≤ d + 1
  | 0, k, w, h => by
    simp only [way] at h
    split at h
    · simp at h
    · rw [← Option.some.inj h]
      simp
  | d + 1, k, w, h => by
    simp only [way] at h
    split at h
    · split at h
      · obtain ⟨t, ht, rfl⟩ := Option.map_eq_some_iff.1 h
        have := way_length l d _ t ht
        simp only [List.length_cons]
        omega
      · simp at h
    · rw [← Option.some.inj h]
      simp
/-- More steps than the place tells are idle. -/
theorem way_more (l : List S33) : ∀ (d e : Nat) (k : Int), k ≤ (d : Int) → k ≤ (e : Int) → way l d k = way l e k
  | 0, 0, k, _, _ => rfl
  | 0, e + 1, k, h, _ => by
    have : ¬ k > 0 := by omega
    simp only [way, this, ↓reduceIte]
  | d + 1, 0, k, _, h => by
    have : ¬ k > 0 := by omega
    simp only [way, this, ↓reduceIte]
  | d + 1, e + 1, k, h, h2 => by
    simp only [way]
    split
    · split
      · rename_i hp
        rw [way_more l d e (par l k) (by omega) (by omega)]
      · rfl
    · rfl
theorem way_step {l : List S33} {k : Int} (hk : 0 < k) (hp : 0 ≤ par l k ∧ par l k ≤ k - 1) : way l k.toNat k = (way l (par l k).toNat (par l k)).map (fun w => k :: w) := by
  obtain ⟨d, hd⟩ : ∃ d : Nat, k.toNat = d + 1 := ⟨k.toNat - 1, by omega⟩
  rw [hd]
  simp only [way, hk, hp, and_self, ↓reduceIte, gt_iff_lt]
  rw [way_more l d (par l k).toNat (par l k) (by omega) (by omega)]
theorem way_stop {l : List S33} {k : Int} (hk : 0 < k) (hp : ¬ (0 ≤ par l k ∧ par l k ≤ k - 1)) : way l k.toNat k = none := by
  obtain ⟨d, hd⟩ : ∃ d : Nat, k.toNat = d + 1 := ⟨k.toNat - 1, by omega⟩
  rw [hd]
  simp only [way, hk, hp, ↓reduceIte, gt_iff_lt]
theorem way_zero (l : List S33) : way l (0 : Int).toNat 0 = some [0] := rfl
def heightB (l : List S33) (k : Int) : Int := match wayK l k with
  | some w => (w.length : Int) - 1
  | none => -1
def extB (l : List S33) (k u : Int) : Bool := match wayK l k with
  | some w => decide (u ∈ w)
  | none => false
theorem height_none {l : List S33} {k : Int} (h : wayK l k = none) : heightB l k = -1 := by
  unfold heightB
  rw [h]
theorem height_some {l : List S33} {k : Int} {w : List Int} (h : wayK l k = some w) : heightB l k = (w.length : Int) - 1 := by
  unfold heightB
  rw [h]
theorem ext_none {l : List S33} {k u : Int} (h : wayK l k = none) : extB l k u = false := by
  unfold extB
  rw [h]
theorem ext_some {l : List S33} {k u : Int} {w : List Int} (h : wayK l k = some w) : extB l k u = decide (u ∈ w) := by
  unfold extB
  rw [h]
theorem wayK_length {l : List S33} {k : Int} {w : List Int} (hl : l.length ≤ 1048576) (hw : wayK l k = some w) : 1 ≤ w.length ∧ w.length ≤ 1048577 := by
  unfold wayK at hw
  split at hw
  · have := way_length l _ _ w hw
    omega
  · simp at hw

theorem spec_HeightOf_l0 (l : List S33) (hl : l.length ≤ 1048576) (d : Nat) : ∀ (k n : Int), k.toNat = d → 0 ≤ k → k ≤ (l.length : Int) - 1 → 0 ≤ n → n + d ≤ 4000000 →
    Ev (fun q => spec_HeightOf.l0 q l k n) (match way l k.toNat k with | some w => n + ((w.length : Int) - 1) | none => -1) := by
  induction d using Nat.strongRecOn with
  | _ d ih =>
    intro k n hd h0 h1 hn hn2
    refine Ev.shift ?_
    have e0 : wrap64 ((l.length : Int) - 1) = (l.length : Int) - 1 := wrap_id (by omega) (by omega)
    have ein : spec_l01In.f k 0 ((l.length : Int) - 1) = some true := by rw [spec_l01In_eq, decide_eq_true ⟨h0, h1⟩]
    by_cases hk : k = 0
    · subst hk
      have hz : ¬ (l.length : Int) = 0 := by clear e0; omega
      simp only [spec_HeightOf.l0, hz, ↓reduceIte, way_zero, List.length_cons, List.length_nil]
      have e : n + (((0 + 1 : Nat) : Int) - 1) = n := by clear e0; omega
      rw [e]
      exact Ev.now _
    · have hk' : 0 < k := by clear e0; omega
      have c1 : k < (l.length : Int) := by clear e0; omega
      have m1 : -9223372036854775808 ≤ k - 1 := by clear e0; omega
      have m2 : k - 1 ≤ 9223372036854775807 := by clear e0; omega
      have m3 : -9223372036854775808 ≤ n + 1 := by clear e0; omega
      have m4 : n + 1 ≤ 9223372036854775807 := by clear e0; omega
      by_cases hp : 0 ≤ par l k ∧ par l k ≤ k - 1
      · have hr := ih (par l k).toNat (by clear e0; omega) (par l k) (n + 1) rfl hp.1 (by clear e0; omega) (by clear e0; omega) (by clear e0; omega)
        have e3 : (match Option.map (fun w => k :: w) (way l (par l k).toNat (par l k)) with | some w => n + ((w.length : Int) - 1) | none => -1) = (match way l (par l k).toNat (par l k) with | some w => n + 1 + ((w.length : Int) - 1) | none => -1) := by
          cases way l (par l k).toNat (par l k) with
          | none => rfl
          | some w =>
            show n + (((k :: w).length : Int) - 1) = n + 1 + ((w.length : Int) - 1)
            rw [List.length_cons]
            clear e0
            omega
        rw [way_step hk' hp, e3]
        have e1 : wrap64 (k - 1) = k - 1 := wrap_id m1 m2
        have e4 : wrap64 (n + 1) = n + 1 := wrap_id m3 m4
        have e2 : spec_l01In.f (par l k) 0 (k - 1) = some true := by rw [spec_l01In_eq, decide_eq_true hp]
        simp only [spec_HeightOf.l0, hk, e0, ein, h0, c1, e1, e4, Option.bind_some, ↓reduceIte]
        rw [show (rd_T33 l k).f0 = par l k from rfl]
        simp only [e2, Option.bind_some, ↓reduceIte]
        exact hr
      · rw [way_stop hk' hp]
        have e1 : wrap64 (k - 1) = k - 1 := wrap_id m1 m2
        have e2 : spec_l01In.f (par l k) 0 (k - 1) = some false := by rw [spec_l01In_eq, decide_eq_false hp]
        simp only [spec_HeightOf.l0, hk, e0, ein, h0, c1, e1, Option.bind_some, ↓reduceIte]
        rw [show (rd_T33 l k).f0 = par l k from rfl]
        simp only [e2, Option.bind_some, ↓reduceIte, Bool.false_eq_true]
        exact Ev.now _
theorem spec_HeightOf_ev (l : List S33) (hl : l.length ≤ 1048576) (k : Int) : Ev (fun q => spec_HeightOf.f q l k) (heightB l k) := by
  unfold spec_HeightOf.f heightB wayK
  by_cases h : 0 ≤ k ∧ k ≤ (l.length : Int) - 1
  · have hr := spec_HeightOf_l0 l hl k.toNat k 0 rfl h.1 h.2 (by omega) (by omega)
    simp only [h, and_self, ↓reduceIte]
    cases hw : way l k.toNat k with
    | none =>
      rw [hw] at hr
      exact hr
    | some w =>
      rw [hw] at hr
      simp only [Int.zero_add] at hr
      exact hr
  · simp only [h, ↓reduceIte]
    have e0 : wrap64 ((l.length : Int) - 1) = (l.length : Int) - 1 := wrap_id (by omega) (by omega)
    have ein : spec_l01In.f k 0 ((l.length : Int) - 1) = some false := by rw [spec_l01In_eq, decide_eq_false h]
    refine Ev.shift ?_
    by_cases hk : k = 0
    · have hz : (l.length : Int) = 0 := by clear e0; omega
      simp only [spec_HeightOf.l0, hk, hz, ↓reduceIte]
      exact Ev.now _
    · simp only [spec_HeightOf.l0, hk, e0, ein, Option.bind_some, ↓reduceIte, Bool.false_eq_true]
      exact Ev.now _

theorem impl_in_eq (a b c : Int) : impl_in.f a b c = some (decide (b ≤ a ∧ a ≤ c)) := by
  unfold impl_in.f
  by_cases h : a ≥ b
  · simp [h]
  · have h' : ¬ b ≤ a := by omega
    simp [h, h']

def wayR (acc : List Int) : Option (List Int) → List Int × Bool
  | some w => (acc ++ w.tail, true)
  | none => ([], false)
theorem impl_wayDown_l0 (l : List S33) (hl : l.length ≤ 1048576) (d : Nat) : ∀ (k : Int) (acc : List Int), k.toNat = d → 0 ≤ k → k ≤ (l.length : Int) - 1 → acc.length + d ≤ 4000000 →
    Ev (fun q => impl_wayDown.l0 q l k acc) (wayR acc (way l k.toNat k)) := by
  induction d using Nat.strongRecOn with
  | _ d ih =>
    intro k acc hd h0 h1 ha
    refine Ev.shift ?_
    by_cases hk : k > 0
    · have c1 : k < (l.length : Int) := by omega
      have c3 : acc.length < 17592186044416 := by omega
      have m1 : -9223372036854775808 ≤ k - 1 := by omega
      have m2 : k - 1 ≤ 9223372036854775807 := by omega
      by_cases hp : 0 ≤ par l k ∧ par l k ≤ k - 1
      · have hr := ih (par l k).toNat (by omega) (par l k) (acc ++ [par l k]) rfl hp.1 (by omega) (by simp; omega)
        rw [way_step hk hp]
        have e1 : wrap64 (k - 1) = k - 1 := wrap_id m1 m2
        have e2 : impl_in.f (par l k) 0 (k - 1) = some true := by rw [impl_in_eq, decide_eq_true hp]
        simp only [impl_wayDown.l0, hk, h0, c1, e1, c3, ↓reduceIte]
        rw [show (rd_T33 l k).f0 = par l k from rfl]
        simp only [e2, Option.bind_some, ↓reduceIte]
        have e3 : wayR acc (Option.map (fun w => k :: w) (way l (par l k).toNat (par l k))) = wayR (acc ++ [par l k]) (way l (par l k).toNat (par l k)) := by
          cases hw : way l (par l k).toNat (par l k) with
          | none => rfl
          | some w =>
            obtain ⟨t, rfl⟩ := way_head l _ _ w hw
            simp [wayR]
        rw [e3]
        exact hr
      · rw [way_stop hk hp]
        have e1 : wrap64 (k - 1) = k - 1 := wrap_id m1 m2
        have e2 : impl_in.f (par l k) 0 (k - 1) = some false := by rw [impl_in_eq, decide_eq_false hp]
        simp only [impl_wayDown.l0, hk, h0, c1, e1, ↓reduceIte]
        rw [show (rd_T33 l k).f0 = par l k from rfl]
        simp only [e2, Option.bind_some, ↓reduceIte, Bool.false_eq_true, wayR]
        exact Ev.now _
    · obtain rfl : k = 0 := by omega
      rw [way_zero]
      simp only [impl_wayDown.l0, show ¬ (0 : Int) > 0 from by decide, ↓reduceIte, wayR, List.tail_cons, List.append_nil]
      exact Ev.now _
def wayB (l : List S33) (k : Int) : List Int × Bool := match wayK l k with
  | some w => (w, true)
  | none => ([], false)
theorem impl_wayDown_ev (l : List S33) (hl : l.length ≤ 1048576) (k : Int) : Ev (fun q => impl_wayDown.f q l k) (wayB l k) := by
  unfold impl_wayDown.f wayB wayK
  have e : wrap64 ((l.length : Int) - 1) = (l.length : Int) - 1 := wrap_id (by omega) (by omega)
  rw [e, impl_in_eq]
  clear e
  by_cases h : 0 ≤ k ∧ k ≤ (l.length : Int) - 1
  · have hr := impl_wayDown_l0 l hl k.toNat k [k] rfl h.1 h.2 (by simp; omega)
    simp only [h, and_self, decide_true, Option.bind_some, ↓reduceIte]
    cases hw : way l k.toNat k with
    | none =>
      rw [hw] at hr
      exact hr
    | some w =>
      rw [hw] at hr
      obtain ⟨t, rfl⟩ := way_head l _ _ w hw
      exact hr
  · simp only [h, decide_false, Option.bind_some, ↓reduceIte, Bool.false_eq_true]
    exact Ev.now _
theorem wayB_none {l : List S33} {k : Int} (h : wayK l k = none) : wayB l k = ([], false) := by
  unfold wayB
  rw [h]
theorem wayB_some {l : List S33} {k : Int} {w : List Int} (h : wayK l k = some w) : wayB l k = (w, true) := by
  unfold wayB
  rw [h]

theorem rev_l0 (l : List Int) (hl : l.length ≤ 4611686018427387904) (d : Nat) : ∀ (i : Nat) (x : List Int), x.length = l.length → (∀ p : Nat, p < l.length → x[p]? = if p < i ∨ l.length ≤ p + i then l[l.length - 1 - p]? else l[p]?) → l.length ≤ 2 * i + d → i ≤ l.length →
    Ev (fun k => slices_Reverse_int_int.l0 k x (i : Int) ((l.length : Int) - 1 - (i : Int))) l.reverse := by
  induction d with
  | zero =>
    intro i x hx hp hd hi
    refine Ev.shift ?_
    simp only [slices_Reverse_int_int.l0, show ¬ (i : Int) < (l.length : Int) - 1 - (i : Int) from by omega, ↓reduceIte]
    have e : x = l.reverse := by
      apply List.ext_getElem?
      intro p
      by_cases h : p < l.length
      · rw [hp p h, List.getElem?_reverse h]
        by_cases c : p < i ∨ l.length ≤ p + i
        · rw [if_pos c]
        · rw [if_neg c]
          have : l.length - 1 - p = p := by omega
          rw [this]
      · rw [List.getElem?_eq_none (by omega), List.getElem?_eq_none (by rw [List.length_reverse]; omega)]
    rw [e]
    exact Ev.now _
  | succ d ih =>
    intro i x hx hp hd hi
    by_cases h : 2 * i + 1 < l.length
    · obtain ⟨J, hJ⟩ : ∃ J : Nat, (l.length : Int) - 1 - (i : Int) = (J : Int) := ⟨l.length - 1 - i, by omega⟩
      have c1 : (i : Int) < (J : Int) := by omega
      have c2 : (0 : Int) ≤ (J : Int) := by omega
      have c3 : (J : Int) < (x.length : Int) := by omega
      have c4 : (0 : Int) ≤ (i : Int) := by omega
      have c5 : (i : Int) < (x.length : Int) := by omega
      have hJx : J < x.length := by omega
      have hix : i < x.length := by omega
      have w1 : wrap64 ((i : Int) + 1) = ((i + 1 : Nat) : Int) := by rw [wrap_id (by omega) (by omega)]; omega
      have w2 : wrap64 ((J : Int) - 1) = (l.length : Int) - 1 - ((i + 1 : Nat) : Int) := by rw [wrap_id (by omega) (by omega)]; omega
      have gi : l[i]? = some x[i] := by
        have := hp i (by omega)
        rw [List.getElem?_eq_getElem hix, if_neg (by omega)] at this
        exact this.symm
      have gJ : l[J]? = some x[J] := by
        have := hp J (by omega)
        rw [List.getElem?_eq_getElem hJx, if_neg (by omega)] at this
        exact this.symm
      have hr := ih (i + 1) ((x.set i x[J]).set J x[i]) (by simp only [List.length_set]; exact hx) (fun p hpl => by
        by_cases e1 : p = J
        · subst e1
          rw [List.getElem?_set_self (by rw [List.length_set]; exact hJx), if_pos (by omega), ← gi]
          congr 1
          omega
        · rw [List.getElem?_set_ne (Ne.symm e1)]
          by_cases e2 : p = i
          · subst e2
            rw [List.getElem?_set_self hix, if_pos (by omega), ← gJ]
            congr 1
            omega
          · rw [List.getElem?_set_ne (Ne.symm e2), hp p hpl]
            by_cases c : p < i ∨ l.length ≤ p + i
            · rw [if_pos c, if_pos (by omega)]
            · rw [if_neg c, if_neg (by omega)]) (by omega) (by omega)
      refine Ev.shift ?_
      rw [hJ]
      simp only [slices_Reverse_int_int.l0, c1, c2, c3, c4, c5, w1, w2, rd_nat x J hJx, rd_nat x i hix, ↓reduceIte, Int.toNat_natCast]
      exact hr
    · refine Ev.shift ?_
      simp only [slices_Reverse_int_int.l0, show ¬ (i : Int) < (l.length : Int) - 1 - (i : Int) from by omega, ↓reduceIte]
      have e : x = l.reverse := by
        apply List.ext_getElem?
        intro p
        by_cases h : p < l.length
        · rw [hp p h, List.getElem?_reverse h]
          by_cases c : p < i ∨ l.length ≤ p + i
          · rw [if_pos c]
          · rw [if_neg c]
            have : l.length - 1 - p = p := by omega
            rw [this]
        · rw [List.getElem?_eq_none (by omega), List.getElem?_eq_none (by rw [List.length_reverse]; omega)]
      rw [e]
      exact Ev.now _
theorem rev_ev (l : List Int) (hl : l.length ≤ 4611686018427387904) : Ev (fun k => slices_Reverse_int_int.f k l) l.reverse := by
  have h := rev_l0 l hl l.length 0 l rfl (fun p hp => by rw [if_neg (by omega)]) (by omega) (by omega)
  unfold slices_Reverse_int_int.f
  have e : wrap64 ((l.length : Int) - 1) = (l.length : Int) - 1 - ((0 : Nat) : Int) := by rw [wrap_id (by omega) (by omega)]; omega
  rw [e]
  exact h

def rowB (l : List S33) (k : Int) : List Int := match wayK l k with
  | some w => w.reverse.drop 1
  | none => []
theorem row_none {l : List S33} {k : Int} (h : wayK l k = none) : rowB l k = [] := by
  unfold rowB
  rw [h]
theorem row_some {l : List S33} {k : Int} {w : List Int} (h : wayK l k = some w) : rowB l k = w.reverse.drop 1 := by
  unfold rowB
  rw [h]
theorem row_length {l : List S33} {k : Int} (hl : l.length ≤ 1048576) : (rowB l k).length ≤ 1048577 := by
  cases hw : wayK l k with
  | none => rw [row_none hw]; simp
  | some w =>
    rw [row_some hw]
    have := wayK_length hl hw
    simp
    omega
theorem spec_RowTo_l0 (l : List S33) (d : Nat) : ∀ (k : Int) (acc w : List Int), k.toNat = d → 0 ≤ k → k ≤ (l.length : Int) - 1 → way l k.toNat k = some w → acc.length + d ≤ 4000000 → Ev (fun q => spec_RowTo.l0 q l k acc) (w.dropLast.reverse ++ acc) := by
  induction d using Nat.strongRecOn with
  | _ d ih =>
    intro k acc w hd h0 h1 hw ha
    refine Ev.shift ?_
    by_cases hk : k > 0
    · have c1 : k < (l.length : Int) := by omega
      by_cases hp : 0 ≤ par l k ∧ par l k ≤ k - 1
      · rw [way_step hk hp] at hw
        obtain ⟨t, ht, rfl⟩ := Option.map_eq_some_iff.1 hw
        have hz : [k].length + acc.length < 17592186044416 := by simp only [List.length_cons, List.length_nil]; omega
        have hr := ih (par l k).toNat (by omega) (par l k) ([k] ++ acc) t rfl hp.1 (by omega) ht (by simp only [List.length_append, List.length_cons, List.length_nil]; omega)
        have e : (k :: t).dropLast.reverse ++ acc = t.dropLast.reverse ++ ([k] ++ acc) := by
          obtain ⟨t2, rfl⟩ := way_head l _ _ t ht
          simp
        rw [e]
        simp only [spec_RowTo.l0, hk, h0, c1, hz, ↓reduceIte, Option.bind_some]
        exact hr
      · rw [way_stop hk hp] at hw
        simp at hw
    · obtain rfl : k = 0 := by omega
      rw [way_zero] at hw
      obtain rfl := Option.some.inj hw
      simp only [spec_RowTo.l0, hk, ↓reduceIte]
      exact Ev.now _
theorem spec_RowTo_ev (l : List S33) (hl : l.length ≤ 1048576) (k : Int) : Ev (fun q => spec_RowTo.f q l k) (rowB l k) := by
  unfold spec_RowTo.f
  simp only [Option.bind_some]
  refine Ev.bind (spec_HeightOf_ev l hl k) ?_
  cases hw : wayK l k with
  | none =>
    rw [height_none hw, row_none hw]
    simp only [show ((-1 : Int) < 0) = True from eq_true (by decide), ↓reduceIte]
    exact Ev.now _
  | some w =>
    have hz := wayK_length hl hw
    have hn : ¬ (w.length : Int) - 1 < 0 := by omega
    rw [height_some hw, row_some hw]
    simp only [hn, ↓reduceIte]
    unfold wayK at hw
    split at hw
    · rename_i h
      have hr := spec_RowTo_l0 l k.toNat k [] w rfl h.1 h.2 hw (by simp only [List.length_nil]; omega)
      rw [List.append_nil] at hr
      rw [List.drop_one, List.tail_reverse]
      exact hr
    · simp at hw
theorem impl_RowTo_ev (l : List S33) (hl : l.length ≤ 1048576) (k : Int) : Ev (fun q => impl_RowTo.f q l k) (rowB l k) := by
  unfold impl_RowTo.f
  refine Ev.bind (impl_wayDown_ev l hl k) ?_
  cases hw : wayK l k with
  | none =>
    rw [wayB_none hw, row_none hw]
    simp only [Bool.false_eq_true, ↓reduceIte]
    exact Ev.now _
  | some w =>
    have hz := wayK_length hl hw
    have c : 1 ≤ (w.length : Int) := by omega
    rw [wayB_some hw, row_some hw]
    simp only [↓reduceIte, c]
    exact Ev.bind (rev_ev w (by omega)) (Ev.now _)

def idxB (u : Int) : List Int → Int → Int
  | [], _ => -1
  | x :: xs, i => if u = x then i else idxB u xs (i + 1)
theorem index_int_l0 (w : List Int) (hw : w.length ≤ 9223372036854775807) (u : Int) (d : Nat) : ∀ i : Nat, i + d = w.length → Ev (fun q => slices_Index_int_int.l0 q w u (w.length : Int) (i : Int)) (idxB u (w.drop i) (i : Int)) := by
  induction d with
  | zero =>
    intro i hi
    refine Ev.shift ?_
    rw [List.drop_of_length_le (by omega)]
    simp only [slices_Index_int_int.l0, show ¬ (i : Int) < (w.length : Int) from by omega, ↓reduceIte, idxB]
    exact Ev.now _
  | succ d ih =>
    intro i hi
    have hr := ih (i + 1) (by omega)
    have hil : i < w.length := by omega
    have c1 : (i : Int) < (w.length : Int) := by omega
    have c2 : (0 : Int) ≤ (i : Int) := by omega
    refine Ev.shift ?_
    rw [List.drop_eq_getElem_cons hil]
    by_cases hu : u = w[i]
    · simp only [slices_Index_int_int.l0, c1, c2, rd_nat w i hil, hu, ↓reduceIte, idxB]
      exact Ev.now _
    · simp only [slices_Index_int_int.l0, c1, c2, rd_nat w i hil, hu, ↓reduceIte, idxB, int_up hil hw]
      exact hr
theorem index_int_ev (w : List Int) (hw : w.length ≤ 9223372036854775807) (u : Int) : Ev (fun q => slices_Index_int_int.f q w u) (idxB u w 0) := by
  have h := index_int_l0 w hw u w.length 0 (by omega)
  rw [List.drop_zero] at h
  exact h
theorem idxB_pos (u : Int) : ∀ (w : List Int) (i : Int), 0 ≤ i → (idxB u w i ≥ 0 ↔ u ∈ w)
  | [], i, _ => by simp [idxB]
  | x :: xs, i, h => by
    by_cases hu : u = x
    · simp [idxB, hu, h]
    · simp only [idxB, hu, ↓reduceIte, List.mem_cons, false_or]
      exact idxB_pos u xs (i + 1) (by omega)

theorem height_neg (l : List S33) (k : Int) : (heightB l k < 0) = (wayK l k = none) := by
  unfold heightB
  cases hw : wayK l k with
  | none => simp
  | some w =>
    have : 1 ≤ w.length := by
      unfold wayK at hw
      split at hw
      · exact (way_length l _ _ w hw).1
      · simp at hw
    simp only [reduceCtorEq, eq_iff_iff, iff_false]
    omega

theorem contains_int_ev (w : List Int) (hw : w.length ≤ 9223372036854775807) (u : Int) : Ev (fun q => slices_Contains_int_int.f q w u) (decide (u ∈ w)) := by
  unfold slices_Contains_int_int.f
  refine Ev.bind (index_int_ev w hw u) ?_
  rw [decide_eq_decide.2 (idxB_pos u w 0 (Int.le_refl _))]
  exact Ev.now _

theorem impl_Extends_ev (l : List S33) (hl : l.length ≤ 1048576) (k u : Int) : Ev (fun q => impl_Extends.f q l k u) (extB l k u) := by
  unfold impl_Extends.f
  refine Ev.bind (impl_wayDown_ev l hl k) ?_
  cases hw : wayK l k with
  | none =>
    rw [wayB_none hw, ext_none hw]
    simp only [Bool.false_eq_true, ↓reduceIte]
    exact Ev.now _
  | some w =>
    have hz := wayK_length hl hw
    rw [wayB_some hw, ext_some hw]
    simp only [↓reduceIte]
    exact Ev.bind (contains_int_ev w (by omega) u) (Ev.now _)

theorem spec_Extends_l0 (l : List S33) (u : Int) (d : Nat) : ∀ (k : Int) (w : List Int), k.toNat = d → 0 ≤ k → k ≤ (l.length : Int) - 1 → way l k.toNat k = some w → Ev (fun q => spec_Extends.l0 q l k u) (decide (u ∈ w)) := by
  induction d using Nat.strongRecOn with
  | _ d ih =>
    intro k w hd h0 h1 hw
    refine Ev.shift ?_
    by_cases hk : k > 0
    · have c1 : k < (l.length : Int) := by omega
      by_cases hp : 0 ≤ par l k ∧ par l k ≤ k - 1
      · rw [way_step hk hp] at hw
        obtain ⟨t, ht, rfl⟩ := Option.map_eq_some_iff.1 hw
        by_cases hu : k = u
        · subst hu
          simp only [spec_Extends.l0, hk, ↓reduceIte, beq_self_eq_true]
          rw [decide_eq_true (List.mem_cons_self ..)]
          exact Ev.now _
        · have hr := ih (par l k).toNat (by omega) (par l k) t rfl hp.1 (by omega) ht
          simp only [spec_Extends.l0, hk, hu, h0, c1, ↓reduceIte]
          have e : decide (u ∈ k :: t) = decide (u ∈ t) := decide_eq_decide.2 (by rw [List.mem_cons]; exact ⟨fun q => q.elim (fun z => absurd z.symm hu) id, .inr⟩)
          rw [e]
          exact hr
      · rw [way_stop hk hp] at hw
        simp at hw
    · obtain rfl : k = 0 := by omega
      rw [way_zero] at hw
      obtain rfl := Option.some.inj hw
      simp only [spec_Extends.l0, hk, ↓reduceIte]
      have e : decide (u ∈ [(0 : Int)]) = ((0 : Int) == u) := by
        rw [Bool.eq_iff_iff]
        simp only [List.mem_singleton, decide_eq_true_eq, beq_iff_eq]
        exact eq_comm
      rw [e]
      exact Ev.now _
theorem spec_Extends_ev (l : List S33) (hl : l.length ≤ 1048576) (k u : Int) : Ev (fun q => spec_Extends.f q l k u) (extB l k u) := by
  unfold spec_Extends.f
  refine Ev.bind (spec_HeightOf_ev l hl k) ?_
  cases hw : wayK l k with
  | none =>
    rw [height_none hw, ext_none hw]
    simp only [show ((-1 : Int) < 0) = True from eq_true (by decide), ↓reduceIte]
    exact Ev.now _
  | some w =>
    have hz := wayK_length hl hw
    have hn : ¬ (w.length : Int) - 1 < 0 := by omega
    rw [height_some hw, ext_some hw]
    simp only [hn, ↓reduceIte]
    unfold wayK at hw
    split at hw
    · rename_i h
      exact spec_Extends_l0 l u k.toNat k w rfl h.1 h.2 hw
    · simp at hw

theorem way_sorted (l : List S33) : ∀ (d : Nat) (k : Int) (w : List Int), 0 ≤ k → way l d k = some w → w.Pairwise (fun a b => b < a) ∧ (∀ x ∈ w, 0 ≤ x ∧ x ≤ k) ∧ ∃ t, w = t ++ [0]
  | 0, k, w, h0, h => by
    simp only [way] at h
    split at h
    · simp at h
    · have hk : k = 0 := by omega
      subst hk
      rw [← Option.some.inj h]
      exact ⟨List.pairwise_singleton .., fun x hx => by rw [List.mem_singleton.1 hx]; omega, [], rfl⟩
  | d + 1, k, w, h0, h => by
    simp only [way] at h
    split at h
    · split at h
      · rename_i hp
        obtain ⟨t, ht, rfl⟩ := Option.map_eq_some_iff.1 h
        obtain ⟨g1, g2, s, rfl⟩ := way_sorted l d _ t hp.1 ht
        refine ⟨List.pairwise_cons.2 ⟨fun x hx => by have := g2 x hx; omega, g1⟩, fun x hx => ?_, k :: s, rfl⟩
        rcases List.mem_cons.1 hx with rfl | hx
        · omega
        · have := g2 x hx
          omega
      · simp at h
    · have hk : k = 0 := by omega
      subst hk
      rw [← Option.some.inj h]
      exact ⟨List.pairwise_singleton .., fun x hx => by rw [List.mem_singleton.1 hx]; omega, [], rfl⟩
theorem idxB_shift (u : Int) : ∀ (w : List Int) (i : Int), u ∈ w → idxB u w (i + 1) = idxB u w i + 1
  | [], i, h => by simp at h
  | x :: xs, i, h => by
    by_cases hu : u = x
    · simp only [idxB, hu, ↓reduceIte]
    · simp only [idxB, hu, ↓reduceIte]
      exact idxB_shift u xs (i + 1) ((List.mem_cons.1 h).resolve_left hu)
theorem idxB_neg (u : Int) : ∀ (w : List Int) (i : Int), u ∉ w → idxB u w i = -1
  | [], i, _ => rfl
  | x :: xs, i, h => by
    have hu : u ≠ x := fun e => h (e ▸ List.mem_cons_self ..)
    simp only [idxB, hu, ↓reduceIte]
    exact idxB_neg u xs (i + 1) (fun e => h (List.mem_cons_of_mem _ e))
theorem idxB_range (u : Int) : ∀ (w : List Int) (i : Int), 0 ≤ i → -1 ≤ idxB u w i ∧ idxB u w i < i + w.length
  | [], i, h => by simp only [idxB, List.length_nil]; omega
  | x :: xs, i, h => by
    have ih := idxB_range u xs (i + 1) (by omega)
    rw [List.length_cons]
    by_cases hu : u = x
    · simp only [idxB, hu, ↓reduceIte]
      omega
    · simp only [idxB, hu, ↓reduceIte]
      omega
theorem filter_drop (u : Int) : ∀ (w : List Int), w.Pairwise (fun a b => a < b) → (u ∈ w ∨ ∀ x ∈ w, u < x) → w.filter (fun x => decide (x > u)) = w.drop (idxB u w 0 + 1).toNat
  | [], _, _ => rfl
  | x :: xs, hs, h => by
    obtain ⟨h1, h2⟩ := List.pairwise_cons.1 hs
    by_cases hu : u = x
    · subst hu
      have e : idxB u (u :: xs) 0 = 0 := by simp only [idxB, ↓reduceIte]
      rw [e, List.filter_cons_of_neg (by simp)]
      have e2 : xs.filter (fun x => decide (x > u)) = xs := List.filter_eq_self.2 (fun y hy => decide_eq_true (h1 y hy))
      rw [e2]
      rfl
    · by_cases hm : u ∈ xs
      · have hx : x < u := h1 u hm
        have ih := filter_drop u xs h2 (.inl hm)
        have e : idxB u (x :: xs) 0 = idxB u xs 0 + 1 := by
          simp only [idxB, hu, ↓reduceIte]
          exact idxB_shift u xs 0 hm
        have hr := idxB_range u xs 0 (Int.le_refl _)
        rw [List.filter_cons_of_neg (by simp; omega), ih, e]
        have e2 : (idxB u xs 0 + 1 + 1).toNat = (idxB u xs 0 + 1).toNat + 1 := by omega
        rw [e2, List.drop_succ_cons]
      · have hn : u ∉ x :: xs := fun e => (List.mem_cons.1 e).elim hu hm
        have ha := h.resolve_left hn
        rw [idxB_neg u _ 0 hn, List.filter_eq_self.2 (fun y hy => decide_eq_true (ha y hy))]
        rfl
def afterB (l : List S33) (k u : Int) : List Int := if extB l k u = true then (rowB l k).filter (fun x => decide (x > u)) else []
theorem row_sorted {l : List S33} {k u : Int} (h : extB l k u = true) : (rowB l k).Pairwise (fun a b => a < b) ∧ (u ∈ rowB l k ∨ ∀ x ∈ rowB l k, u < x) := by
  cases hw : wayK l k with
  | none => rw [ext_none hw] at h; cases h
  | some w =>
    rw [ext_some hw] at h
    have hm := of_decide_eq_true h
    rw [row_some hw]
    unfold wayK at hw
    split at hw
    · rename_i hk
      obtain ⟨g1, g2, t, rfl⟩ := way_sorted l _ _ w hk.1 hw
      have e : (t ++ [(0 : Int)]).reverse.drop 1 = t.reverse := by simp
      rw [e]
      obtain ⟨p1, _, p3⟩ := List.pairwise_append.1 g1
      refine ⟨List.pairwise_reverse.2 p1, ?_⟩
      rcases List.mem_append.1 hm with hm | hm
      · exact .inl (List.mem_reverse.2 hm)
      · right
        intro x hx
        rw [List.mem_singleton.1 hm]
        exact p3 x (List.mem_reverse.1 hx) 0 (List.mem_singleton.2 rfl)
    · simp at hw
theorem spec_RowAfter_l0 (u : Int) (r : List Int) (hr : r.length ≤ 4000000) (d : Nat) : ∀ (i : Nat) (acc : List Int), i + d = r.length → acc.length ≤ i → Ev (fun q => spec_RowAfter.l0 q u r acc (i : Int)) (acc ++ (r.drop i).filter (fun x => decide (x > u))) := by
  induction d with
  | zero =>
    intro i acc hi ha
    refine Ev.shift ?_
    rw [List.drop_of_length_le (by omega)]
    simp only [spec_RowAfter.l0, show ¬ (i : Int) < (r.length : Int) from by omega, ↓reduceIte, List.filter_nil, List.append_nil]
    exact Ev.now _
  | succ d ih =>
    intro i acc hi ha
    have hil : i < r.length := by omega
    have c1 : (i : Int) < (r.length : Int) := by omega
    have c2 : (0 : Int) ≤ (i : Int) := by omega
    have hup := int_up hil (by omega)
    have c3 : acc.length < 17592186044416 := by omega
    refine Ev.shift ?_
    rw [List.drop_eq_getElem_cons hil]
    by_cases hu : r[i] > u
    · have h := ih (i + 1) (acc ++ [r[i]]) (by omega) (by simp only [List.length_append, List.length_cons, List.length_nil]; omega)
      rw [List.filter_cons_of_pos (p := fun x => decide (x > u)) (decide_eq_true hu)]
      rw [List.append_assoc] at h
      simp only [spec_RowAfter.l0, c1, c2, c3, rd_nat r i hil, hu, hup, ↓reduceIte]
      exact h
    · have h := ih (i + 1) acc (by omega) (by omega)
      rw [List.filter_cons_of_neg (p := fun x => decide (x > u)) (by simp only [decide_eq_true_eq]; exact hu)]
      simp only [spec_RowAfter.l0, c1, c2, rd_nat r i hil, hu, hup, ↓reduceIte]
      exact h
theorem spec_RowAfter_ev (l : List S33) (hl : l.length ≤ 1048576) (k u : Int) : Ev (fun q => spec_RowAfter.f q l k u) (afterB l k u) := by
  have hn := row_length (k := k) hl
  unfold spec_RowAfter.f afterB
  refine Ev.bind (spec_Extends_ev l hl k u) ?_
  by_cases h : extB l k u = true
  · simp only [h, ↓reduceIte]
    refine Ev.bind (spec_RowTo_ev l hl k) ?_
    have hr := spec_RowAfter_l0 u (rowB l k) (by omega) (rowB l k).length 0 [] (by omega) (by simp)
    rw [List.nil_append, List.drop_zero] at hr
    exact hr
  · simp only [h, ↓reduceIte]
    exact Ev.now _
theorem impl_RowAfter_ev (l : List S33) (hl : l.length ≤ 1048576) (k u : Int) : Ev (fun q => impl_RowAfter.f q l k u) (afterB l k u) := by
  have hn := row_length (k := k) hl
  unfold impl_RowAfter.f afterB
  refine Ev.bind (impl_Extends_ev l hl k u) ?_
  by_cases h : extB l k u = true
  · obtain ⟨s1, s2⟩ := row_sorted h
    simp only [h, ↓reduceIte]
    refine Ev.bind (impl_RowTo_ev l hl k) (Ev.bind (index_int_ev (rowB l k) (by omega) u) ?_)
    have hr := idxB_range u (rowB l k) 0 (Int.le_refl _)
    have e : wrap64 (idxB u (rowB l k) 0 + 1) = idxB u (rowB l k) 0 + 1 := wrap_id (by omega) (by omega)
    have c1 : 0 ≤ idxB u (rowB l k) 0 + 1 := by omega
    have c2 : idxB u (rowB l k) 0 + 1 ≤ ((rowB l k).length : Int) := by omega
    simp only [e, c1, c2, ↓reduceIte]
    rw [filter_drop u (rowB l k) s1 s2]
    exact Ev.now _
  · simp only [h, ↓reduceIte]
    exact Ev.now _
theorem after_length {l : List S33} {k u : Int} (hl : l.length ≤ 1048576) : (afterB l k u).length ≤ 1048577 := by
  have hn := row_length (k := k) hl
  unfold afterB
  split
  · have := List.length_filter_le (fun x => decide (x > u)) (rowB l k)
    omega
  · simp

def clashB (l : List S33) (a b : Int) : Bool := if heightB l a ≥ 0 then (if heightB l b ≥ 0 then (if extB l a b = true then false else !extB l b a) else false) else false

theorem spec_Clash_ev (l : List S33) (hl : l.length ≤ 1048576) (a b : Int) : Ev (fun q => spec_Clash.f q l a b) (clashB l a b) := by
  unfold spec_Clash.f clashB
  refine Ev.bind (spec_HeightOf_ev l hl a) ?_
  by_cases h1 : heightB l a ≥ 0
  · simp only [h1, ↓reduceIte]
    refine Ev.bind (spec_HeightOf_ev l hl b) ?_
    by_cases h2 : heightB l b ≥ 0
    · simp only [h2, ↓reduceIte]
      refine Ev.bind (spec_Extends_ev l hl a b) ?_
      by_cases h3 : extB l a b = true
      · simp only [h3, ↓reduceIte]
        exact Ev.now _
      · simp only [h3, ↓reduceIte]
        exact Ev.bind (spec_Extends_ev l hl b a) (Ev.now _)
    · simp only [h2, ↓reduceIte]
      exact Ev.now _
  · simp only [h1, ↓reduceIte]
    exact Ev.now _

theorem impl_HeightOf_ev (l : List S33) (hl : l.length ≤ 1048576) (k : Int) : Ev (fun q => impl_HeightOf.f q l k) (heightB l k) := by
  unfold impl_HeightOf.f
  refine Ev.bind (impl_wayDown_ev l hl k) ?_
  cases hw : wayK l k with
  | none =>
    rw [wayB_none hw, height_none hw]
    exact Ev.eq (Ev.now _) (by show wrap64 ((0 : Int) - 1) = -1; unfold wrap64; omega)
  | some w =>
    have hz := wayK_length hl hw
    rw [wayB_some hw, height_some hw]
    simp only
    rw [wrap_id (by omega) (by omega)]
    exact Ev.now _

theorem impl_Clash_ev (l : List S33) (hl : l.length ≤ 1048576) (a b : Int) : Ev (fun q => impl_Clash.f q l a b) (clashB l a b) := by
  unfold impl_Clash.f clashB
  refine Ev.bind (impl_HeightOf_ev l hl a) ?_
  by_cases h1 : heightB l a ≥ 0
  · simp only [h1, ↓reduceIte]
    refine Ev.bind (impl_HeightOf_ev l hl b) ?_
    by_cases h2 : heightB l b ≥ 0
    · simp only [h2, ↓reduceIte]
      refine Ev.bind (impl_Extends_ev l hl a b) ?_
      by_cases h3 : extB l a b = true
      · simp only [h3, ↓reduceIte]
        exact Ev.now _
      · simp only [h3, ↓reduceIte]
        exact Ev.bind (impl_Extends_ev l hl b a) (Ev.now _)
    · simp only [h2, ↓reduceIte]
      exact Ev.now _
  · simp only [h1, ↓reduceIte]
    exact Ev.now _

theorem spec_Beginning_l0 (a b : List Int) (ha : a.length ≤ 1048576) (d : Nat) : ∀ i : Nat, i + d = a.length → (∀ j : Nat, j < i → j < a.length → j < b.length → rd a j = rd b j) → Ev (fun k => spec_Beginning.l0 k a b (i : Int)) (begB a b) := by
  induction d with
  | zero =>
    intro i hi h
    refine Ev.shift (Ev.shift ?_)
    simp only [spec_Beginning.l0, spec_Beginning.j1, show ¬ (i : Int) < (a.length : Int) from by omega, ↓reduceIte, Bool.false_eq_true]
    rw [begB_yes fun j h1 h2 => h j (by omega) h1 h2]
    exact Ev.now _
  | succ d ih =>
    intro i hi h
    have hia : i < a.length := by omega
    have c1 : (i : Int) < (a.length : Int) := by omega
    have c2 : (0 : Int) ≤ (i : Int) := by omega
    have hup := int_up hia (by omega)
    by_cases hib : i < b.length
    · have c3 : (i : Int) < (b.length : Int) := by omega
      by_cases he : rd a (i : Int) = rd b (i : Int)
      · have hr := ih (i + 1) (by omega) (fun j hj h1 h2 => by
          by_cases hji : j = i
          · subst hji
            exact he
          · exact h j (by omega) h1 h2)
        refine Ev.shift (Ev.shift ?_)
        simp only [spec_Beginning.l0, spec_Beginning.j1, c1, c2, c3, decide_true, he, ↓reduceIte, hup]
        exact hr
      · refine Ev.shift (Ev.shift ?_)
        simp only [spec_Beginning.l0, spec_Beginning.j1, c1, c2, c3, decide_true, he, ↓reduceIte]
        rw [begB_no hia hib he]
        exact Ev.now _
    · have c3 : ¬ (i : Int) < (b.length : Int) := by omega
      refine Ev.shift (Ev.shift ?_)
      simp only [spec_Beginning.l0, spec_Beginning.j1, c1, c3, decide_false, ↓reduceIte, Bool.false_eq_true]
      rw [begB_yes fun j h1 h2 => h j (by omega) h1 h2]
      exact Ev.now _
theorem spec_Beginning_ev (a b : List Int) (ha : a.length ≤ 1048576) : Ev (fun k => spec_Beginning.f k a b) (begB a b) :=
  spec_Beginning_l0 a b ha a.length 0 (by omega) (fun j hj => by omega)

theorem equal_int_l0 (a b : List Int) (ha : a.length ≤ 9223372036854775807) (hab : a.length = b.length) (d : Nat) : ∀ i : Nat, i + d = a.length → (∀ j : Nat, j < i → j < a.length → j < b.length → rd a j = rd b j) → Ev (fun k => slices_Equal_int_int.l0 k a b (a.length : Int) (i : Int)) (begB a b) := by
  induction d with
  | zero =>
    intro i hi h
    refine Ev.shift ?_
    simp only [slices_Equal_int_int.l0, show ¬ (i : Int) < (a.length : Int) from by omega, ↓reduceIte]
    rw [begB_yes fun j h1 h2 => h j (by omega) h1 h2]
    exact Ev.now _
  | succ d ih =>
    intro i hi h
    have hia : i < a.length := by omega
    have c1 : (i : Int) < (a.length : Int) := by omega
    have c2 : (0 : Int) ≤ (i : Int) := by omega
    have c3 : (i : Int) < (b.length : Int) := by omega
    have hup := int_up hia ha
    by_cases he : rd a (i : Int) = rd b (i : Int)
    · have hr := ih (i + 1) (by omega) (fun j hj h1 h2 => by
        by_cases hji : j = i
        · subst hji
          exact he
        · exact h j (by omega) h1 h2)
      refine Ev.shift ?_
      simp only [slices_Equal_int_int.l0, c1, c2, c3, he, ↓reduceIte, hup]
      exact hr
    · refine Ev.shift ?_
      simp only [slices_Equal_int_int.l0, c1, c2, c3, he, ↓reduceIte]
      rw [begB_no hia (by omega) he]
      exact Ev.now _
theorem impl_Beginning_ev (a b : List Int) (ha : a.length ≤ 1048576) (hb : b.length ≤ 1048576) : Ev (fun k => impl_Beginning.f k a b) (begB a b) := by
  unfold impl_Beginning.f
  rw [mn_le]
  have c0 : (0 : Int) ≤ ((min a.length b.length : Nat) : Int) := by omega
  have c1 : ((min a.length b.length : Nat) : Int) ≤ (a.length : Int) := by omega
  have c2 : ((min a.length b.length : Nat) : Int) ≤ (b.length : Int) := by omega
  simp only [c0, c1, c2, ↓reduceIte, Int.toNat_natCast]
  have la : (a.take (min a.length b.length)).length = min a.length b.length := by rw [List.length_take]; omega
  have lb : (b.take (min a.length b.length)).length = min a.length b.length := by rw [List.length_take]; omega
  have hq : begB (a.take (min a.length b.length)) (b.take (min a.length b.length)) = begB a b := by
    unfold begB
    rw [la, lb]
    refine decide_eq_decide.2 ⟨fun h j h1 h2 => ?_, fun h j h1 h2 => ?_⟩
    · have h3 := h j (by omega) (by omega)
      rw [rd_take (by omega), rd_take (by omega)] at h3
      exact h3
    · rw [rd_take (by omega), rd_take (by omega)]
      exact h j (by omega) (by omega)
  have he : Ev (fun k => slices_Equal_int_int.f k (a.take (min a.length b.length)) (b.take (min a.length b.length))) (begB a b) := by
    unfold slices_Equal_int_int.f
    rw [← hq]
    exact Ev.congr (fun k => if_pos (by rw [la, lb])) (equal_int_l0 _ _ (by omega) (by omega) _ 0 (Nat.zero_add _) (fun j hj => absurd hj (Nat.not_lt_zero _)))
  exact Ev.bind he (Ev.now _)

theorem spec_l03Any_eq {l : List Int} (hl : l.length ≤ 9223372036854775807) {i : Int} (hi : CurOk l i) (h : Int) :
    ∃ a s b i' h', spec_l03Any.f l i h = some (a, s, b, i', h') ∧ s.size ≤ 4 ∧ CurOk l i' := by
  obtain ⟨a, s, b, i1, h1, e1, hs, o1⟩ := spec_l03Cmd_eq hl hi h
  obtain ⟨x, i2, h2, e2, _, _, _, o2⟩ := spec_l01Below_eq hl o1 h1 8
  unfold spec_l03Any.f
  simp only [e1, e2, Option.bind_some]
  by_cases x0 : x = 0
  · obtain ⟨y, i3, h3, e3, _, _, _, o3⟩ := spec_l01Below_eq hl o2 h2 5
    simp only [x0, e3, ↓reduceIte, Option.bind_some]
    exact ⟨_, _, _, _, _, rfl, by omega, o3⟩
  · by_cases x1 : x = 1
    · obtain ⟨t, i3, h3, e3, ht, o3⟩ := spec_l01Pick_eq hl o2 h2 (([(⟨#[]⟩ : ByteArray), (⟨#[65]⟩ : ByteArray), (⟨#[97, 98, 99, 100]⟩ : ByteArray)] : List ByteArray)) (by decide)
      simp only [x0, x1, e3, ↓reduceIte, Option.bind_some]
      refine ⟨_, _, _, _, _, rfl, ?_, o3⟩
      simp only [List.mem_cons, List.not_mem_nil, or_false] at ht
      rcases ht with rfl | rfl | rfl <;> decide
    · by_cases x2 : x = 2
      · obtain ⟨t, i3, h3, e3, o3⟩ := spec_l01PickInt_eq hl o2 h2 (([(-1), 1000000000, 1000000001, 9223372036854775807] : List Int)) (by decide)
        simp only [x0, x1, x2, e3, ↓reduceIte, Option.bind_some]
        exact ⟨_, _, _, _, _, rfl, by omega, o3⟩
      · simp only [x0, x1, x2, ↓reduceIte]
        exact ⟨_, _, _, _, _, rfl, by omega, o2⟩

theorem sameInts_l0 (l : List Int) (hl : l.length ≤ 9223372036854775807) (d : Nat) : ∀ i : Nat, i + d = l.length → Ev (fun k => laws_sameInts.l0 k l l (i : Int)) true := by
  induction d with
  | zero =>
    intro i hi
    refine Ev.shift ?_
    simp only [laws_sameInts.l0, show ¬ (i : Int) < (l.length : Int) from by omega, ↓reduceIte]
    exact Ev.now _
  | succ d ih =>
    intro i hi
    have h := ih (i + 1) (by omega)
    have hil : i < l.length := by omega
    refine Ev.shift ?_
    have c1 : (i : Int) < (l.length : Int) := by omega
    have c2 : (0 : Int) ≤ (i : Int) := by omega
    simp only [laws_sameInts.l0, c1, c2, ↓reduceIte, int_up hil hl]
    exact h
theorem sameInts_ev (l : List Int) (hl : l.length ≤ 9223372036854775807) : Ev (fun k => laws_sameInts.f k l l) true := by
  unfold laws_sameInts.f
  simp only [↓reduceIte]
  exact sameInts_l0 l hl l.length 0 (by omega)

theorem spec_l01Place_eq {l : List Int} (hl : l.length ≤ 9223372036854775807) {i : Int} (hi : CurOk l i) (h n : Int) :
    ∃ x i' h', spec_l01Place.f l i h n = some (x, i', h') ∧ CurOk l i' := by
  obtain ⟨b, i1, h1, e1, o1⟩ := spec_l01Once_eq hl hi h 15
  unfold spec_l01Place.f
  simp only [e1, Option.bind_some]
  cases b with
  | true =>
    obtain ⟨x, i2, h2, e2, o2⟩ := spec_l01PickInt_eq hl o1 h1 (([(-1), n, wrap64 (n + 1), 9223372036854775807, (-9223372036854775808)] : List Int)) (by simp)
    simp only [e2, Option.bind_some, ↓reduceIte]
    exact ⟨_, _, _, rfl, o2⟩
  | false =>
    obtain ⟨x, i2, h2, e2, _, _, _, o2⟩ := spec_l01Below_eq hl o1 h1 n
    simp only [e2, Option.bind_some, ↓reduceIte, Bool.false_eq_true]
    exact ⟨_, _, _, rfl, o2⟩
theorem any_last {l : List Int} (hl : l.length ≤ 9223372036854775807) {x1 x2 : Int} (hx : 0 ≤ x2) {i : Int} (hi : CurOk l i) (h : Int) {t : List S33} (ht : TreeUp t 10) :
    ∃ r i' h', anyT.last x1 x2 l i h t = some (r, i', h') ∧ r.length ≤ 11 := by
  have t1 := ht.1
  have t2 := ht.2.1
  have hm0 : 0 ≤ Int.tmod x2 (t.length : Int) := Int.tmod_nonneg _ hx
  have hm1 : Int.tmod x2 (t.length : Int) < (t.length : Int) := Int.tmod_lt_of_pos _ (by omega)
  unfold anyT.last
  rw [if_pos ⟨hx, by omega⟩]
  have hj : (Int.tmod x2 (t.length : Int)).toNat < t.length := by omega
  generalize (Int.tmod x2 (t.length : Int)).toNat = j at hj
  have hs : ∀ e, (t.set j e).length ≤ 11 := fun e => by rw [List.length_set]; omega
  have hE := (ht.2.2.1 _ (List.getElem_mem hj)).1
  unfold anyT.at
  by_cases k0 : x1 = 0
  · rw [if_pos k0]; exact ⟨_, _, _, rfl, hs _⟩
  · rw [if_neg k0]
    by_cases k1 : x1 = 1
    · rw [if_pos k1]; exact ⟨_, _, _, rfl, hs _⟩
    · rw [if_neg k1]
      by_cases k2 : x1 = 2
      · rw [if_pos k2]; exact ⟨_, _, _, rfl, hs _⟩
      · rw [if_neg k2]
        by_cases k3 : x1 = 3
        · obtain ⟨a, s, b, i', h', e, _, _⟩ := spec_l03Any_eq hl hi h
          rw [if_pos k3, e, Option.bind_some]
          rw [if_pos (by rw [rdBlock_nat t j hj]; omega)]
          exact ⟨_, _, _, rfl, hs _⟩
        · rw [if_neg k3]
          by_cases k4 : x1 = 4
          · rw [if_pos k4, if_pos (by omega), rdBlock_nat t j hj, spec_l05Block_eq _ _ _ _ _ _ _ hE, Option.bind_some]
            exact ⟨_, _, _, rfl, by rw [List.length_append, List.length_singleton]; omega⟩
          · rw [if_neg k4]
            exact ⟨_, _, _, rfl, by omega⟩
theorem spec_l05Any_ev {l : List Int} (hl : l.length ≤ 9223372036854775807) {i : Int} (hi : CurOk l i) (h : Int) :
    ∃ r i' h', Ev (fun k => spec_l05Any.f k l i h) (r, i', h') ∧ r.length ≤ 11 := by
  obtain ⟨x1, i1, h1, e1, _, _, _, o1⟩ := spec_l01Below_eq hl hi h 12
  obtain ⟨x2, i2, h2, e2, hx, _, _, o2⟩ := spec_l01Below_eq hl o1 h1 60
  obtain ⟨t, i3, h3, e3, ht, o3⟩ := spec_l05Drawn_ev hl o2 h2
  have e4 := spec_l05Tree_ev t (by have := ht.2.1; omega) ht.2.2.1
  obtain ⟨r, i4, h4, e5, hr⟩ := any_last (x1 := x1) hl hx o3 h3 ht
  refine ⟨r, i4, h4, ?_, hr⟩
  unfold spec_l05Any.f
  simp only [e1, e2, Option.bind_some]
  refine Ev.bind e3 (Ev.bind e4 ?_)
  simp only [e5]
  exact Ev.now _
theorem spec_DrawExtends_ev {l : List Int} (hl : l.length ≤ 9223372036854775807) : ∃ r a b, Ev (fun k => spec_DrawExtends.f k l) (r, a, b) ∧ r.length ≤ 11 := by
  obtain ⟨h, hn⟩ := spec_l01New_ev l
  obtain ⟨a, i1, h1, e1, o1⟩ := spec_l01Place_eq hl (curOk_zero l) h 8
  obtain ⟨b, i2, h2, e2, o2⟩ := spec_l01Place_eq hl o1 h1 8
  obtain ⟨r, i3, h3, e3, hr⟩ := spec_l05Any_ev hl o2 h2
  refine ⟨r, a, b, ?_, hr⟩
  have h6 : Ev (fun k => spec_l06Place.f k l) (r, a, b) := by
    unfold spec_l06Place.f
    refine Ev.bind hn ?_
    simp only [e1, e2, Option.bind_some]
    exact Ev.bind e3 (Ev.now _)
  unfold spec_DrawExtends.f
  exact Ev.bind h6 (Ev.now _)
theorem drawBeginning_stop {l : List Int} (hl : l.length ≤ 9223372036854775807) (j : Nat) (acc : List Int) (i h x i1 h1 : Int) (ha : acc.length = j) (hj : j ≤ 6) (e1 : spec_l01Below.f l i h 6 = some (x, i1, h1)) (hx : ¬ (j : Int) < x) (o1 : CurOk l i1) :
    ∃ p q, Ev (fun k => spec_DrawBeginning.l0 k acc (j : Int) l i h) (p, q) ∧ p.length ≤ 6 ∧ q.length ≤ 7 := by
  have hw : wrap64 ((acc.length : Int) + 1) = (acc.length : Int) + 1 := wrap_id (by omega) (by omega)
  obtain ⟨y, i2, h2, e2, y0, y1, _, o2⟩ := spec_l01Below_eq hl o1 h1 ((acc.length : Int) + 1)
  have y2 := y1 (by omega)
  have y3 : y ≤ (acc.length : Int) := by omega
  obtain ⟨b, i3, h3, e3, _⟩ := spec_l01Once_eq hl o2 h2 3
  have hq : (acc.take y.toNat).length ≤ 6 := by rw [List.length_take]; omega
  generalize hz : acc.take y.toNat = z at hq
  have hlt : ([] : List Int).length + z.length < 17592186044416 := by rw [List.length_nil]; omega
  have hlt2 : z.length < 17592186044416 := by omega
  have step : ∀ k, spec_DrawBeginning.l0 (k + 1) acc (j : Int) l i h = if b = true then some (acc, z ++ [9]) else some (acc, z) := by
    intro k
    rw [spec_DrawBeginning.l0, e1, Option.bind_some, if_neg hx, Option.bind_some, hw, e2, Option.bind_some, if_pos y0, if_pos y3, Option.bind_some, hz, if_pos hlt, List.nil_append, Option.bind_some, e3, Option.bind_some, if_pos hlt2]
  cases b with
  | true => exact ⟨acc, z ++ [9], Ev.step step (Ev.now _), by omega, by rw [List.length_append, List.length_singleton]; omega⟩
  | false => exact ⟨acc, z, Ev.step step (Ev.now _), by omega, by omega⟩
theorem spec_DrawBeginning_l0 {l : List Int} (hl : l.length ≤ 9223372036854775807) (d : Nat) : ∀ (j : Nat) (acc : List Int) (i h : Int), j + d = 6 → acc.length = j → CurOk l i →
    ∃ p q, Ev (fun k => spec_DrawBeginning.l0 k acc (j : Int) l i h) (p, q) ∧ p.length ≤ 6 ∧ q.length ≤ 7 := by
  induction d with
  | zero =>
    intro j acc i h hj ha hc
    obtain ⟨x, i1, h1, e1, x0, x1, _, o1⟩ := spec_l01Below_eq hl hc h 6
    have x2 := x1 (by omega)
    exact drawBeginning_stop hl j acc i h x i1 h1 ha (by omega) e1 (by omega) o1
  | succ d ih =>
    intro j acc i h hj ha hc
    obtain ⟨x, i1, h1, e1, x0, x1, _, o1⟩ := spec_l01Below_eq hl hc h 6
    by_cases hx : (j : Int) < x
    · obtain ⟨y, i2, h2, e2, _, _, _, o2⟩ := spec_l01Below_eq hl o1 h1 5
      have h6 : wrap64 ((j : Int) + 1) = ((j + 1 : Nat) : Int) := by rw [wrap_id (by omega) (by omega)]; omega
      have hlt : acc.length < 17592186044416 := by omega
      obtain ⟨p, q, hr, g1, g2⟩ := ih (j + 1) (acc ++ [y]) i2 h2 (by omega) (by rw [List.length_append, List.length_singleton]; omega) o2
      have step : ∀ k, spec_DrawBeginning.l0 (k + 1) acc (j : Int) l i h = spec_DrawBeginning.l0 k (acc ++ [y]) ((j + 1 : Nat) : Int) l i2 h2 := by
        intro k
        rw [spec_DrawBeginning.l0, e1, Option.bind_some, if_pos hx, e2, Option.bind_some, if_pos hlt, h6]
      exact ⟨p, q, Ev.step step hr, g1, g2⟩
    · exact drawBeginning_stop hl j acc i h x i1 h1 ha (by omega) e1 hx o1
theorem spec_DrawBeginning_ev {l : List Int} (hl : l.length ≤ 9223372036854775807) : ∃ p q, Ev (fun k => spec_DrawBeginning.f k l) (p, q) ∧ p.length ≤ 6 ∧ q.length ≤ 7 := by
  obtain ⟨h, hn⟩ := spec_l01New_ev l
  obtain ⟨p, q, e, g⟩ := spec_DrawBeginning_l0 hl 6 0 [] 0 h rfl rfl (curOk_zero l)
  refine ⟨p, q, ?_, g⟩
  unfold spec_DrawBeginning.f
  exact Ev.bind hn e
theorem FnStandsTold : laws_FnStandsTold.Pure := by
  intro l hl1 _ _
  have hl : l.length ≤ 9223372036854775807 := hl1
  refine Ev.rounds ?_
  unfold laws_FnStandsTold.f laws_big.f
  simp only [Option.bind_some]
  by_cases hb : (l.length : Int) > 1048576
  · simp only [hb, decide_true, ↓reduceIte]
    exact Ev.now _
  · simp only [hb, decide_false, ↓reduceIte, Bool.false_eq_true]
    obtain ⟨t, a, b, hT, htl⟩ := spec_DrawExtends_ev hl
    obtain ⟨p, q, hP, hp, hq⟩ := spec_DrawBeginning_ev hl
    have ht : t.length ≤ 1048576 := by omega
    have hrow := row_length (k := a) ht
    have haft := after_length (k := a) (u := b) ht
    have hpp : begB p p = true := begB_yes fun j _ _ => rfl
    have hnq : begB [] q = true := begB_yes fun j h1 _ => by simp at h1
    refine Ev.bind hT (Ev.bind hP ?_)
    refine Ev.bind (impl_HeightOf_ev t ht a) (Ev.bind (spec_HeightOf_ev t ht a) ?_)
    simp only [↓reduceIte]
    refine Ev.bind (impl_Extends_ev t ht a b) (Ev.bind (spec_Extends_ev t ht a b) ?_)
    simp only [↓reduceIte, beq_self_eq_true]
    refine Ev.bind (impl_RowTo_ev t ht a) (Ev.bind (spec_RowTo_ev t ht a) (Ev.bind (sameInts_ev _ (by omega)) ?_))
    simp only [↓reduceIte]
    refine Ev.bind (impl_Clash_ev t ht a b) (Ev.bind (spec_Clash_ev t ht a b) ?_)
    simp only [↓reduceIte, beq_self_eq_true]
    refine Ev.bind (impl_RowAfter_ev t ht a b) (Ev.bind (spec_RowAfter_ev t ht a b) (Ev.bind (sameInts_ev _ (by omega)) ?_))
    simp only [↓reduceIte]
    refine Ev.bind (impl_Beginning_ev p q (by omega) (by omega)) (Ev.bind (spec_Beginning_ev p q (by omega)) ?_)
    simp only [↓reduceIte, beq_self_eq_true]
    have h1 := impl_Beginning_ev p p (by omega) (by omega)
    rw [hpp] at h1
    refine Ev.bind h1 ?_
    simp only [↓reduceIte]
    have h2 := impl_Beginning_ev [] q (by decide) (by omega)
    rw [hnq] at h2
    exact Ev.bind h2 (Ev.now _)

end Go.Proofs.Ytjbbdjdbffaidaa.Pure
