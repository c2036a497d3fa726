/- For every input that the statement reads, the law FnCerts of the given program returns true and leaves its arguments as they were. Conditions: none but the statement's own. -/
import Derived.Test.YtmcopcpeacikmaaQFnCertsx11
import Derived.Test.YtmcopcpeacikmaaTcLib
import Derived.Test.YtmcopcpeacikmaaTcLibList
set_option linter.unusedVariables false
set_option linter.unusedSimpArgs false
namespace Go.Proofs.Ytmcopcpeacikmaa.Pure
open Go.RowKit Go.Proofs.Ytmcopcpeacikmaa.QFnCerts Go.Proofs.YtmcopcpeacikmaaW.PrintWords Go.Proofs.YtmcopcpeacikmaaW.PrintLast Go.Proofs.YtmcopcpeacikmaaW.PrintMore Go.Proofs.Ytmcopcpeacikmaa.Lib

theorem spec_l01New_l0 (l : List Int) (d : Nat) : ∀ (i : Nat) (x : Int), i + d = 4000 → ∃ h, Ev (fun k => spec_l01New.l0 k l x (i : Int)) (l, 0, h) := by
  induction d with
  | zero =>
    intro i x hi
    refine ⟨x, Ev.shift ?_⟩
    have h2 : ¬ (i : Int) < 4000 := by omega
    by_cases h1 : (i : Int) < (l.length : Int)
    · simp only [spec_l01New.l0, h1, h2, ↓reduceIte]
      exact Ev.now _
    · simp only [spec_l01New.l0, h1, ↓reduceIte]
      exact Ev.now _
  | succ d ih =>
    intro i x hi
    have h2 : (i : Int) < 4000 := by omega
    have h4 : (0 : Int) ≤ i := by omega
    have h6 : wrap64 ((i : Int) + 1) = ((i + 1 : Nat) : Int) := by rw [wrap_id (by omega) (by omega)]; omega
    by_cases h1 : (i : Int) < (l.length : Int)
    · obtain ⟨h, hh⟩ := ih (i + 1) (Go.bits .and .i64 (wrap64 ((wrap64 ((wrap64 (x * 131)) + (wrap64 (rd l (i : Int))))) + 7)) 1073741823) (by omega)
      refine ⟨h, Ev.shift ?_⟩
      simp only [spec_l01New.l0, h1, h2, h4, h6, ↓reduceIte]
      exact hh
    · refine ⟨x, Ev.shift ?_⟩
      simp only [spec_l01New.l0, h1, ↓reduceIte]
      exact Ev.now _
theorem spec_l01New_ev (l : List Int) : ∃ h, Ev (fun k => spec_l01New.f k l) (l, 0, h) := spec_l01New_l0 l 4000 0 _ rfl
/-- A cursor's place lies in its bytes. -/
def CurOk (l : List Int) (i : Int) : Prop := 0 ≤ i ∧ i ≤ (l.length : Int)
theorem spec_l01Byte_eq {l : List Int} (hl : l.length ≤ 9223372036854775807) {i : Int} (hi : CurOk l i) (h : Int) :
    ∃ x i' h', spec_l01Byte.f l i h = some (x, i', h') ∧ 0 ≤ x ∧ x ≤ 255 ∧ CurOk l i' := by
  unfold spec_l01Byte.f
  have hm := fun y => i64_and_range y 255 (by omega)
  by_cases h1 : i < (l.length : Int)
  · have h4 : 0 ≤ i := hi.1
    simp only [h1, h4, ↓reduceIte]
    refine ⟨_, _, _, rfl, (hm _).1, (hm _).2, ?_⟩
    rw [wrap_id (by omega) (by omega)]
    exact ⟨by omega, by omega⟩
  · simp only [h1, ↓reduceIte]
    exact ⟨_, _, _, rfl, (hm _).1, (hm _).2, hi⟩
theorem spec_l01Below_eq {l : List Int} (hl : l.length ≤ 9223372036854775807) {i : Int} (hi : CurOk l i) (h : Int) (n : Int) :
    ∃ x i' h', spec_l01Below.f l i h n = some (x, i', h') ∧ 0 ≤ x ∧ (0 < n → x < n) ∧ (n ≤ 0 → x = 0) ∧ CurOk l i' := by
  unfold spec_l01Below.f
  by_cases h0 : n ≤ 0
  · simp only [h0, ↓reduceIte]
    exact ⟨0, i, h, rfl, by omega, fun hn => by omega, fun _ => rfl, hi⟩
  · have hn : ¬ n = 0 := by omega
    by_cases h1 : n ≤ 256
    · obtain ⟨x, i', h', e, x0, x1, hc⟩ := spec_l01Byte_eq hl hi h
      simp only [h0, h1, hn, e, ↓reduceIte, Option.bind_some]
      refine ⟨_, _, _, rfl, ?_, fun _ => ?_, fun hh => by first | exact hh.elim | exact absurd hh h0, hc⟩
      · rw [tmod_pos x0]
        exact Int.emod_nonneg _ hn
      · rw [tmod_pos x0]
        exact Int.emod_lt_of_pos _ (by omega)
    · obtain ⟨x, i1, h1', e1, x0, x1, hc1⟩ := spec_l01Byte_eq hl hi h
      obtain ⟨y, i2, h2', e2, y0, y1, hc2⟩ := spec_l01Byte_eq hl hc1 h1'
      obtain ⟨z, i3, h3', e3, z0, z1, hc3⟩ := spec_l01Byte_eq hl hc2 h2'
      obtain ⟨v, i4, h4', e4, v0, v1, hc4⟩ := spec_l01Byte_eq hl hc3 h3'
      simp only [h0, h1, hn, e1, e2, e3, e4, ↓reduceIte, Option.bind_some]
      have ew : wrap64 ((wrap64 ((wrap64 ((wrap64 (x * 16777216)) + (wrap64 (y * 65536)))) + (wrap64 (z * 256)))) + v) = x * 16777216 + y * 65536 + z * 256 + v := by
        rw [wrap_id (x := x * 16777216) (by omega) (by omega), wrap_id (x := y * 65536) (by omega) (by omega), wrap_id (x := z * 256) (by omega) (by omega),
          wrap_id (x := x * 16777216 + y * 65536) (by omega) (by omega), wrap_id (x := x * 16777216 + y * 65536 + z * 256) (by omega) (by omega), wrap_id (by omega) (by omega)]
      refine ⟨_, _, _, rfl, ?_, fun _ => ?_, fun hh => by first | exact hh.elim | exact absurd hh h0, hc4⟩
      · rw [ew, tmod_pos (by omega)]
        exact Int.emod_nonneg _ hn
      · rw [ew, tmod_pos (by omega)]
        exact Int.emod_lt_of_pos _ (by omega)
theorem curOk_zero (l : List Int) : CurOk l 0 := ⟨by omega, by omega⟩

theorem rdCmd_nat (l : List S95) (i : Nat) (h : i < l.length) : rd_T95 l (i : Int) = l[i] := getD_nat l _ i h

theorem rdBlock_nat (l : List S63) (i : Nat) (h : i < l.length) : rd_T63 l (i : Int) = l[i] := getD_nat l _ i h

theorem spec_l01Once_eq {l : List Int} (hl : l.length ≤ 9223372036854775807) {i : Int} (hi : CurOk l i) (h : Int) (n : Int) :
    ∃ b i' h', spec_l01Once.f l i h n = some (b, i', h') ∧ CurOk l i' := by
  obtain ⟨x, i', h', e, _, _, _, hc⟩ := spec_l01Below_eq hl hi h n
  exact ⟨_, _, _, by unfold spec_l01Once.f; rw [e]; rfl, hc⟩
theorem spec_l01PickInt_eq {l : List Int} (hl : l.length ≤ 9223372036854775807) {i : Int} (hi : CurOk l i) (h : Int) (c : List Int) (hc : 0 < c.length) :
    ∃ x i' h', spec_l01PickInt.f l i h c = some (x, i', h') ∧ CurOk l i' := by
  obtain ⟨x, i', h', e, x0, x1, _, hc'⟩ := spec_l01Below_eq hl hi h (c.length : Int)
  have x2 := x1 (by omega)
  refine ⟨rd c x, i', h', ?_, hc'⟩
  unfold spec_l01PickInt.f
  simp only [e, x0, x2, Option.bind_some, ↓reduceIte]
theorem spec_l01Pick_eq {l : List Int} (hl : l.length ≤ 9223372036854775807) {i : Int} (hi : CurOk l i) (h : Int) (c : List ByteArray) (hc : 0 < c.length) :
    ∃ x i' h', spec_l01Pick.f l i h c = some (x, i', h') ∧ x ∈ c ∧ CurOk l i' := by
  obtain ⟨x, i', h', e, x0, x1, _, hc'⟩ := spec_l01Below_eq hl hi h (c.length : Int)
  have x2 := x1 (by omega)
  obtain ⟨j, rfl⟩ := Int.eq_ofNat_of_zero_le x0
  have hj : j < c.length := by omega
  refine ⟨rdOf ByteArray.empty c (j : Int), i', h', ?_, ?_, hc'⟩
  · unfold spec_l01Pick.f
    simp only [e, x0, x2, Option.bind_some, ↓reduceIte]
  · rw [show rdOf ByteArray.empty c (j : Int) = c[j] from getD_nat c _ j hj]
    exact List.getElem_mem hj
theorem spec_l03Key_eq {l : List Int} (hl : l.length ≤ 9223372036854775807) {i : Int} (hi : CurOk l i) (h : Int) :
    ∃ s i' h', spec_l03Key.f l i h = some (s, i', h') ∧ s.size ≤ 3 ∧ CurOk l i' := by
  obtain ⟨s, i', h', e, hs, hc⟩ := spec_l01Pick_eq hl hi h (([(⟨#[97]⟩ : ByteArray), (⟨#[98]⟩ : ByteArray), (⟨#[99]⟩ : ByteArray), (⟨#[97, 98, 99]⟩ : ByteArray)] : List ByteArray)) (by decide)
  refine ⟨s, i', h', by unfold spec_l03Key.f; rw [e]; rfl, ?_, hc⟩
  simp only [List.mem_cons, List.not_mem_nil, or_false] at hs
  rcases hs with rfl | rfl | rfl | rfl <;> decide
theorem spec_l03Cmd_eq {l : List Int} (hl : l.length ≤ 9223372036854775807) {i : Int} (hi : CurOk l i) (h : Int) :
    ∃ a s b i' h', spec_l03Cmd.f l i h = some (a, s, b, i', h') ∧ s.size ≤ 3 ∧ CurOk l i' := by
  obtain ⟨x, i1, h1, e1, _, _, _, hc1⟩ := spec_l01Below_eq hl hi h 3
  obtain ⟨s, i2, h2, e2, hs, hc2⟩ := spec_l03Key_eq hl hc1 h1
  obtain ⟨b, i3, h3, e3, hc3⟩ := spec_l01PickInt_eq hl hc2 h2 (([0, 1, 7, 500, 999999999] : List Int)) (by decide)
  exact ⟨_, s, b, i3, h3, by unfold spec_l03Cmd.f; rw [e1, Option.bind_some, e2, Option.bind_some, e3, Option.bind_some], hs, hc3⟩
def CmdsGood (c : List S95) : Prop := c.length ≤ 1000 ∧ ∀ x ∈ c, x.f1.size ≤ 140737488351232
theorem spec_l03Cmds_l0 {l : List Int} (hl : l.length ≤ 9223372036854775807) (d : Nat) : ∀ (j : Nat) (acc : List S95) (i h : Int), j + d = 5 → acc.length = j → (∀ x ∈ acc, x.f1.size ≤ 140737488351232) → CurOk l i →
    ∃ r i' h', Ev (fun k => spec_l03Cmds.l0 k acc (j : Int) l i h) (r, i', h') ∧ CmdsGood r ∧ CurOk l i' := by
  induction d with
  | zero =>
    intro j acc i h hj ha hg hc
    obtain ⟨x, i1, h1, e1, x0, x1, _, hc1⟩ := spec_l01Below_eq hl hc h 5
    have x2 := x1 (by omega)
    refine ⟨acc, i1, h1, Ev.shift ?_, ⟨by omega, hg⟩, hc1⟩
    simp only [spec_l03Cmds.l0, e1, Option.bind_some, show ¬ (j : Int) < x from by omega, ↓reduceIte]
    exact Ev.now _
  | succ d ih =>
    intro j acc i h hj ha hg hc
    obtain ⟨x, i1, h1, e1, x0, x1, _, hc1⟩ := spec_l01Below_eq hl hc h 5
    by_cases hx : (j : Int) < x
    · obtain ⟨a, s, b, i2, h2, e2, hs, hc2⟩ := spec_l03Cmd_eq hl hc1 h1
      have h6 : wrap64 ((j : Int) + 1) = ((j + 1 : Nat) : Int) := by rw [wrap_id (by omega) (by omega)]; omega
      have hlt : acc.length < 4398046511104 := by omega
      obtain ⟨r, i', h', hr, g, c⟩ := ih (j + 1) (acc ++ [⟨a, s, b⟩]) i2 h2 (by omega) (by rw [List.length_append, List.length_singleton]; omega) (fun y hy => by
        rcases List.mem_append.1 hy with hy | hy
        · exact hg y hy
        · rw [List.mem_singleton.1 hy]
          show s.size ≤ _
          omega) hc2
      refine ⟨r, i', h', Ev.shift ?_, g, c⟩
      simp only [spec_l03Cmds.l0, e1, e2, Option.bind_some, hx, hlt, h6, ↓reduceIte]
      exact hr
    · refine ⟨acc, i1, h1, Ev.shift ?_, ⟨by omega, hg⟩, hc1⟩
      simp only [spec_l03Cmds.l0, e1, Option.bind_some, hx, ↓reduceIte]
      exact Ev.now _
theorem spec_l03Cmds_ev {l : List Int} (hl : l.length ≤ 9223372036854775807) {i : Int} (hi : CurOk l i) (h : Int) :
    ∃ r i' h', Ev (fun k => spec_l03Cmds.f k l i h) (r, i', h') ∧ CmdsGood r ∧ CurOk l i' :=
  spec_l03Cmds_l0 hl 5 0 [] i h rfl rfl (fun x hx => by simp at hx) hi

theorem spec_l01In_eq (a b c : Int) : spec_l01In.f a b c = some (decide (b ≤ a ∧ a ≤ c)) := by
  unfold spec_l01In.f
  by_cases h : a ≥ b
  · simp [h]
  · have h' : ¬ b ≤ a := by omega
    simp [h, h']

theorem spec_KeyOk_l0 (s : ByteArray) (hs : s.size ≤ 140737488351232) (d : Nat) : ∀ i : Nat, i + d = s.size → (∀ j : Nat, j < i → 97 ≤ bt s j ∧ bt s j ≤ 122) → Ev (fun k => spec_KeyOk.l0 k s (i : Int)) (keyB s) := by
  induction d with
  | zero =>
    intro i hi h
    obtain rfl : i = s.size := by omega
    refine Ev.shift ?_
    simp only [spec_KeyOk.l0, show ¬ (s.size : Int) < s.size from by omega, ↓reduceIte, spec_l01In_eq, Option.bind_some]
    rw [keyB_low h]
    exact Ev.now _
  | succ d ih =>
    intro i hi h
    refine Ev.shift ?_
    have h1 : (i : Int) < s.size := by omega
    have h4 : (0 : Int) ≤ i := by omega
    have h6 : wrap64 ((i : Int) + 1) = ((i + 1 : Nat) : Int) := by rw [wrap_id (by omega) (by omega)]; omega
    by_cases ha : bt s (i : Int) < 97
    · simp only [spec_KeyOk.l0, h1, h4, ha, ↓reduceIte]
      rw [keyB_not (i := i) (by omega) (by omega)]
      exact Ev.now _
    · by_cases hb : bt s (i : Int) > 122
      · simp only [spec_KeyOk.l0, h1, h4, ha, hb, ↓reduceIte]
        rw [keyB_not (i := i) (by omega) (by omega)]
        exact Ev.now _
      · simp only [spec_KeyOk.l0, h1, h4, ha, hb, h6, ↓reduceIte]
        refine ih (i + 1) (by omega) fun j hj => ?_
        by_cases he : j = i
        · subst he
          omega
        · exact h j (by omega)
theorem spec_KeyOk_ev (s : ByteArray) (hs : s.size ≤ 140737488351232) : Ev (fun k => spec_KeyOk.f k s) (keyB s) :=
  spec_KeyOk_l0 s hs s.size 0 (by omega) (fun j hj => by omega)

def cmdB (kind : Int) (key : ByteArray) (num : Int) : Bool := decide (1 ≤ kind ∧ kind ≤ 3) && (keyB key && decide (0 ≤ num ∧ num ≤ 1000000000))
theorem spec_CmdOk_ev (a : Int) {s : ByteArray} (b : Int) (hs : s.size ≤ 140737488351232) : Ev (fun k => spec_CmdOk.f k a s b) (cmdB a s b) := by
  unfold spec_CmdOk.f cmdB
  simp only [spec_l01In_eq, Option.bind_some]
  by_cases h : decide (1 ≤ a ∧ a ≤ 3) = true
  · simp only [h, ↓reduceIte, Bool.true_and]
    refine Ev.bind (spec_KeyOk_ev s hs) ?_
    by_cases hk : keyB s = true
    · simp only [hk, ↓reduceIte, Bool.true_and]
      exact Ev.now _
    · simp only [Bool.not_eq_true] at hk
      simp only [hk, ↓reduceIte, Bool.false_and, Bool.false_eq_true]
      exact Ev.now _
  · simp only [Bool.not_eq_true] at h
    simp only [h, ↓reduceIte, Bool.false_and, Bool.false_eq_true]
    exact Ev.now _

def okC (c : S95) : Bool := cmdB c.f0 c.f1 c.f2
def finB (t : List S63) (a0 a4 a5 : Int) : Bool := if a5 = a0 then a4 == (rd_T63 t a0).f1 else false
def blockB (t : List S63) (a0 a1 : Int) (c : List S95) (a4 a5 : Int) : Bool :=
  if 0 ≤ a0 ∧ a0 ≤ (t.length : Int) - 1 then (if a1 ≤ (rd_T63 t a0).f1 then false else if a1 > 900 then false else if (c.length : Int) > 4 then false else (c.all okC && finB t a0 a4 a5)) else false

theorem spec_BlockOk_l0 (t : List S63) (a0 a1 : Int) (c : List S95) (a3 a4 a5 a6 : Int) (h0 : 0 ≤ a0) (h1 : a0 < (t.length : Int)) (hl : c.length ≤ 9223372036854775807) (hk : ∀ x ∈ c, x.f1.size ≤ 140737488351232)
    (d : Nat) : ∀ i : Nat, i + d = c.length → Ev (fun k => spec_BlockOk.l0 k t (i : Int) a0 a1 c a3 a4 a5 a6) ((c.drop i).all okC && finB t a0 a4 a5) := by
  induction d with
  | zero =>
    intro i hi
    refine Ev.shift ?_
    rw [List.drop_of_length_le (by omega)]
    simp only [spec_BlockOk.l0, show ¬ (i : Int) < (c.length : Int) from by omega, ↓reduceIte, h0, h1, List.all_nil, Bool.true_and, finB]
    by_cases h : a5 = a0
    · simp only [h, ↓reduceIte]
      exact Ev.now _
    · simp only [h, ↓reduceIte]
      exact Ev.now _
  | succ d ih =>
    intro i hi
    have hr := ih (i + 1) (by omega)
    have hil : i < c.length := by omega
    have c1 : (i : Int) < (c.length : Int) := by omega
    have c2 : (0 : Int) ≤ (i : Int) := by omega
    have hup := int_up hil hl
    have hs : (c[i]).f1.size ≤ 140737488351232 := hk _ (List.getElem_mem hil)
    have he := spec_CmdOk_ev (c[i]).f0 (c[i]).f2 hs
    refine Ev.shift ?_
    rw [List.drop_eq_getElem_cons hil, List.all_cons]
    simp only [spec_BlockOk.l0, c1, c2, rdCmd_nat c i hil, hup, ↓reduceIte]
    refine Ev.bind he ?_
    by_cases h : cmdB (c[i]).f0 (c[i]).f1 (c[i]).f2 = true
    · simp only [okC, h, ↓reduceIte, Bool.true_and]
      exact hr
    · simp only [Bool.not_eq_true] at h
      simp only [okC, h, ↓reduceIte, Bool.false_and, Bool.false_eq_true]
      exact Ev.now _
theorem spec_BlockOk_ev (t : List S63) (ht : t.length ≤ 1048576) (a0 a1 : Int) (c : List S95) (a3 a4 a5 a6 : Int) (hl : c.length ≤ 9223372036854775807) (hk : ∀ x ∈ c, x.f1.size ≤ 140737488351232) :
    Ev (fun k => spec_BlockOk.f k t a0 a1 c a3 a4 a5 a6) (blockB t a0 a1 c a4 a5) := by
  have e : wrap64 ((t.length : Int) - 1) = (t.length : Int) - 1 := wrap_id (by omega) (by omega)
  unfold spec_BlockOk.f blockB
  simp only [spec_l01In_eq, Option.bind_some, e]
  by_cases h : 0 ≤ a0 ∧ a0 ≤ (t.length : Int) - 1
  · have c1 : a0 < (t.length : Int) := by omega
    simp only [decide_eq_true h, if_pos h, ↓reduceIte]
    simp only [h.1, c1, ↓reduceIte]
    by_cases h2 : a1 ≤ (rd_T63 t a0).f1
    · simp only [h2, ↓reduceIte]
      refine Ev.shift ?_
      simp only [spec_BlockOk.j0, ↓reduceIte]
      exact Ev.now _
    · simp only [h2, ↓reduceIte]
      by_cases h3 : a1 > 900
      · simp only [h3, ↓reduceIte]
        refine Ev.shift ?_
        simp only [spec_BlockOk.j0, ↓reduceIte]
        exact Ev.now _
      · simp only [h3, ↓reduceIte]
        refine Ev.shift ?_
        simp only [spec_BlockOk.j0]
        by_cases h4 : (c.length : Int) > 4
        · simp only [h4, decide_true, ↓reduceIte]
          exact Ev.now _
        · simp only [h4, decide_false, ↓reduceIte, Bool.false_eq_true]
          have hr := spec_BlockOk_l0 t a0 a1 c a3 a4 a5 a6 h.1 c1 hl hk c.length 0 (by omega)
          rw [List.drop_zero] at hr
          exact hr
  · simp only [decide_eq_false h, if_neg h, ↓reduceIte, Bool.false_eq_true]
    refine Ev.shift ?_
    simp only [spec_BlockOk.j0, ↓reduceIte]
    exact Ev.now _

def neC (a b : S95) : Bool := !(a.f0 == b.f0) || (!(a.f1.toList == b.f1.toList) || !(a.f2 == b.f2))
def sameL (c e : List S95) : Nat → Nat → Bool
  | 0, _ => true
  | d + 1, i => !(neC (rd_T95 c (i : Int)) (rd_T95 e (i : Int))) && sameL c e d (i + 1)
def sameB (a0 a1 : Int) (c : List S95) (a3 a4 a5 a6 b0 b1 : Int) (e : List S95) (b3 b4 b5 b6 : Int) : Bool :=
  if a0 = b0 then (if a1 = b1 then (if (c.length : Int) = (e.length : Int) then (sameL c e c.length 0 && (a3 == b3 && (a4 == b4 && (a5 == b5 && a6 == b6)))) else false) else false) else false

/-- The first place of a block that says the same; -1 where there is none. -/
def atBl (b0 b1 : Int) (e : List S95) (b3 b4 b5 b6 : Int) : List S63 → Int → Int
  | [], _ => -1
  | x :: xs, i => if sameB x.f0 x.f1 x.f2 x.f3.f0 x.f3.f1 x.f3.f2 x.f3.f3 b0 b1 e b3 b4 b5 b6 = true then i else atBl b0 b1 e b3 b4 b5 b6 xs (i + 1)

theorem spec_SameBlock_l0 (a0 a1 : Int) (c : List S95) (a3 a4 a5 a6 b0 b1 : Int) (e : List S95) (b3 b4 b5 b6 : Int) (hl : c.length ≤ 9223372036854775807) (he : (c.length : Int) = (e.length : Int)) (d : Nat) :
    ∀ i : Nat, i + d = c.length → Ev (fun k => spec_SameBlock.l0 k (i : Int) a0 a1 c a3 a4 a5 a6 b0 b1 e b3 b4 b5 b6) (sameL c e d i) := by
  induction d with
  | zero =>
    intro i hi
    refine Ev.shift ?_
    simp only [spec_SameBlock.l0, show ¬ (i : Int) < (c.length : Int) from by omega, ↓reduceIte, sameL]
    exact Ev.now _
  | succ d ih =>
    intro i hi
    have hr := ih (i + 1) (by omega)
    have hil : i < c.length := by omega
    have c1 : (i : Int) < (c.length : Int) := by omega
    have c2 : (0 : Int) ≤ (i : Int) := by omega
    have c3 : (i : Int) < (e.length : Int) := by omega
    have hup := int_up hil hl
    refine Ev.shift ?_
    simp only [spec_SameBlock.l0, c1, c2, c3, hup, ↓reduceIte, sameL]
    by_cases h : neC (rd_T95 c (i : Int)) (rd_T95 e (i : Int)) = true
    · rw [h]
      unfold neC at h
      simp only [if_pos h]
      exact Ev.now _
    · have h' := h
      simp only [Bool.not_eq_true] at h'
      rw [h', Bool.not_false, Bool.true_and]
      unfold neC at h
      simp only [if_neg h]
      exact hr
theorem spec_SameBlock_ev (a0 a1 : Int) (c : List S95) (a3 a4 a5 a6 b0 b1 : Int) (e : List S95) (b3 b4 b5 b6 : Int) (hl : c.length ≤ 9223372036854775807) :
    Ev (fun k => spec_SameBlock.f k a0 a1 c a3 a4 a5 a6 b0 b1 e b3 b4 b5 b6) (sameB a0 a1 c a3 a4 a5 a6 b0 b1 e b3 b4 b5 b6) := by
  unfold spec_SameBlock.f sameB
  by_cases h0 : a0 = b0
  · rw [if_pos h0]
    simp only [if_pos h0]
    by_cases h1 : a1 = b1
    · rw [if_pos h1]
      simp only [if_pos h1]
      by_cases h2 : (!(a3 == b3) || (!(a4 == b4) || (!(a5 == b5) || (!(a6 == b6))))) = true
      · have h3 : (a3 == b3 && (a4 == b4 && (a5 == b5 && a6 == b6))) = false := by
          revert h2
          cases (a3 == b3) <;> cases (a4 == b4) <;> cases (a5 == b5) <;> cases (a6 == b6) <;> decide
        rw [h3, Bool.and_false, ite_self]
        simp only [if_pos h2]
        refine Ev.shift ?_
        simp only [spec_SameBlock.j0, ↓reduceIte]
        exact Ev.now _
      · have h3 : (a3 == b3 && (a4 == b4 && (a5 == b5 && a6 == b6))) = true := by
          revert h2
          cases (a3 == b3) <;> cases (a4 == b4) <;> cases (a5 == b5) <;> cases (a6 == b6) <;> decide
        rw [h3, Bool.and_true]
        simp only [if_neg h2]
        refine Ev.shift ?_
        simp only [spec_SameBlock.j0]
        by_cases h4 : (c.length : Int) = (e.length : Int)
        · have h5 : ((c.length : Int) != (e.length : Int)) = false := by rw [h4]; exact bne_self_eq_false _
          rw [h5, if_pos h4]
          simp only [Bool.false_eq_true, ↓reduceIte]
          exact spec_SameBlock_l0 a0 a1 c a3 a4 a5 a6 b0 b1 e b3 b4 b5 b6 hl h4 c.length 0 (by omega)
        · have h5 : ((c.length : Int) != (e.length : Int)) = true := bne_iff_ne.2 h4
          rw [h5, if_neg h4]
          simp only [↓reduceIte]
          exact Ev.now _
    · rw [if_neg h1]
      simp only [if_neg h1]
      refine Ev.shift ?_
      simp only [spec_SameBlock.j0, ↓reduceIte]
      exact Ev.now _
  · rw [if_neg h0]
    simp only [if_neg h0]
    refine Ev.shift ?_
    simp only [spec_SameBlock.j0, ↓reduceIte]
    exact Ev.now _

theorem spec_BlockAt_l0 (b0 b1 : Int) (e : List S95) (b3 b4 b5 b6 : Int) (l : List S63) (hl : l.length ≤ 9223372036854775807) (hk : ∀ x ∈ l, x.f2.length ≤ 9223372036854775807) (d : Nat) :
    ∀ i : Nat, i + d = l.length → Ev (fun k => spec_BlockAt.l0 k l (i : Int) b0 b1 e b3 b4 b5 b6) (atBl b0 b1 e b3 b4 b5 b6 (l.drop i) (i : Int)) := by
  induction d with
  | zero =>
    intro i hi
    refine Ev.shift ?_
    rw [List.drop_of_length_le (by omega)]
    simp only [spec_BlockAt.l0, show ¬ (i : Int) < (l.length : Int) from by omega, ↓reduceIte, atBl]
    exact Ev.now _
  | succ d ih =>
    intro i hi
    have hr := ih (i + 1) (by omega)
    have hil : i < l.length := by omega
    have c1 : (i : Int) < (l.length : Int) := by omega
    have c2 : (0 : Int) ≤ (i : Int) := by omega
    have hup := int_up hil hl
    have he := spec_SameBlock_ev (l[i]).f0 (l[i]).f1 (l[i]).f2 (l[i]).f3.f0 (l[i]).f3.f1 (l[i]).f3.f2 (l[i]).f3.f3 b0 b1 e b3 b4 b5 b6 (hk _ (List.getElem_mem hil))
    refine Ev.shift ?_
    rw [List.drop_eq_getElem_cons hil]
    simp only [spec_BlockAt.l0, c1, c2, rdBlock_nat l i hil, hup, ↓reduceIte, atBl]
    refine Ev.bind he ?_
    generalize sameB (l[i]).f0 (l[i]).f1 (l[i]).f2 (l[i]).f3.f0 (l[i]).f3.f1 (l[i]).f3.f2 (l[i]).f3.f3 b0 b1 e b3 b4 b5 b6 = s
    cases s with
    | true =>
      simp only [↓reduceIte]
      exact Ev.now _
    | false =>
      simp only [↓reduceIte, Bool.false_eq_true]
      exact hr
theorem spec_BlockAt_ev (b0 b1 : Int) (e : List S95) (b3 b4 b5 b6 : Int) (l : List S63) (hl : l.length ≤ 9223372036854775807) (hk : ∀ x ∈ l, x.f2.length ≤ 9223372036854775807) :
    Ev (fun k => spec_BlockAt.f k l b0 b1 e b3 b4 b5 b6) (atBl b0 b1 e b3 b4 b5 b6 l 0) := by
  have h := spec_BlockAt_l0 b0 b1 e b3 b4 b5 b6 l hl hk l.length 0 (by omega)
  rw [List.drop_zero] at h
  exact h

def BlocksFit (t : List S63) : Prop := ∀ x ∈ t, CmdsGood x.f2
theorem spec_l05Block_eq (a0 a1 : Int) (c : List S95) (a3 a4 a5 a6 : Int) (h : c.length ≤ 1000) : spec_l05Block.f a0 a1 c a3 a4 a5 a6 = some (a0, a1, c, a3, a4, a5, a6) := by
  have h2 : ([] : List S95).length + c.length < 4398046511104 := by rw [List.length_nil]; omega
  unfold spec_l05Block.f
  simp only [Option.bind_some, h2, ↓reduceIte, List.nil_append]
theorem spec_l05Tree_l0 (t : List S63) (ht : t.length ≤ 100) (hg : BlocksFit t) (d : Nat) : ∀ i : Nat, i + d = t.length → Ev (fun k => spec_l05Tree.l0 k t (t.take i) (i : Int)) t := by
  induction d with
  | zero =>
    intro i hi
    refine Ev.shift ?_
    simp only [spec_l05Tree.l0, show ¬ (i : Int) < (t.length : Int) from by omega, ↓reduceIte]
    rw [List.take_of_length_le (by omega)]
    exact Ev.now _
  | succ d ih =>
    intro i hi
    have hr := ih (i + 1) (by omega)
    have hil : i < t.length := by omega
    have c1 : (i : Int) < (t.length : Int) := by omega
    have c2 : (0 : Int) ≤ (i : Int) := by omega
    have hup := int_up hil (by omega)
    have hb := spec_l05Block_eq (t[i]).f0 (t[i]).f1 (t[i]).f2 (t[i]).f3.f0 (t[i]).f3.f1 (t[i]).f3.f2 (t[i]).f3.f3 (hg _ (List.getElem_mem hil)).1
    have hlt : (t.take i).length < 1954687338268 := by rw [List.length_take]; omega
    refine Ev.shift ?_
    simp only [spec_l05Tree.l0, c1, c2, rdBlock_nat t i hil, hup, hb, hlt, Option.bind_some, ↓reduceIte]
    rw [List.take_succ_eq_append_getElem hil] at hr
    exact hr
theorem spec_l05Tree_ev (t : List S63) (ht : t.length ≤ 100) (hg : BlocksFit t) : Ev (fun k => spec_l05Tree.f k t) t := by
  have h := spec_l05Tree_l0 t ht hg t.length 0 (by omega)
  rw [List.take_zero] at h
  exact h
theorem blockB_par {t : List S63} {a0 a1 : Int} {c : List S95} {a4 a5 : Int} (h : blockB t a0 a1 c a4 a5 = true) : 0 ≤ a0 ∧ a0 ≤ (t.length : Int) - 1 := by
  unfold blockB at h
  split at h
  · assumption
  · cases h
/-- What a drawn tree is: of few blocks, the Parent of each but the first before it. -/
def TreeUp (t : List S63) (n : Nat) : Prop := 1 ≤ t.length ∧ t.length ≤ n ∧ BlocksFit t ∧ ∀ k : Nat, 0 < k → ∀ h : k < t.length, 0 ≤ (t[k]).f0 ∧ (t[k]).f0 ≤ (k : Int) - 1
theorem TreeUp.more {t : List S63} {n : Nat} (h : TreeUp t n) : TreeUp t (n + 1) := ⟨h.1, by have := h.2.1; omega, h.2.2⟩
theorem spec_PutBlock_ev (t : List S63) (n : Nat) (hn : n ≤ 90) (ht : TreeUp t n) (a0 a1 : Int) (c : List S95) (a3 a4 a5 a6 : Int) (hc : CmdsGood c) :
    ∃ r m, Ev (fun k => spec_PutBlock.f k t a0 a1 c a3 a4 a5 a6) (r, m) ∧ TreeUp r (n + 1) := by
  obtain ⟨t1, t2, t3, t4⟩ := ht
  have hT := spec_l05Tree_ev t (by omega) t3
  have hA := spec_BlockAt_ev a0 a1 c a3 a4 a5 a6 t (by omega) (fun x hx => by have := (t3 x hx).1; omega)
  have hO := spec_BlockOk_ev t (by omega) a0 a1 c a3 a4 a5 a6 (by have := hc.1; omega) hc.2
  unfold spec_PutBlock.f
  by_cases h1 : atBl a0 a1 c a3 a4 a5 a6 t 0 ≥ 0
  · refine ⟨t, atBl a0 a1 c a3 a4 a5 a6 t 0, Ev.bind hT (Ev.bind hA ?_), t1, by omega, t3, t4⟩
    simp only [h1, ↓reduceIte]
    exact Ev.now _
  · by_cases h2 : blockB t a0 a1 c a4 a5 = true
    · by_cases h3 : (t.length : Int) ≥ 60
      · refine ⟨t, -1, Ev.bind hT (Ev.bind hA ?_), t1, by omega, t3, t4⟩
        simp only [h1, ↓reduceIte]
        refine Ev.bind hO ?_
        simp only [h2, h3, ↓reduceIte]
        exact Ev.now _
      · have hb := spec_l05Block_eq a0 a1 c a3 a4 a5 a6 hc.1
        have hlt : t.length < 1954687338268 := by omega
        refine ⟨t ++ [⟨a0, a1, c, ⟨a3, a4, a5, a6⟩⟩], (t.length : Int), Ev.bind hT (Ev.bind hA ?_), by rw [List.length_append, List.length_singleton]; omega, by rw [List.length_append, List.length_singleton]; omega, ?_, ?_⟩
        · simp only [h1, ↓reduceIte]
          refine Ev.bind hO ?_
          simp only [h2, h3, hb, hlt, Option.bind_some, ↓reduceIte]
          exact Ev.now _
        · intro x hx
          rcases List.mem_append.1 hx with hx | hx
          · exact t3 x hx
          · rw [List.mem_singleton.1 hx]
            exact hc
        · intro k k0 hk
          rw [List.length_append, List.length_singleton] at hk
          by_cases hkt : k < t.length
          · rw [List.getElem_append_left hkt]
            exact t4 k k0 hkt
          · obtain rfl : k = t.length := by omega
            rw [List.getElem_append_right (Nat.le_refl _)]
            simp only [Nat.sub_self, List.getElem_cons_zero]
            exact blockB_par h2
    · refine ⟨t, -1, Ev.bind hT (Ev.bind hA ?_), t1, by omega, t3, t4⟩
      simp only [h1, ↓reduceIte]
      refine Ev.bind hO ?_
      simp only [h2, ↓reduceIte]
      exact Ev.now _
theorem spec_l05On_eq (t : List S63) (k more : Int) (c : List S95) (ph : Int) (h0 : 0 ≤ k) (h1 : k < (t.length : Int)) : ∃ v a3 a4 a6, spec_l05On.f t k more c ph = some (k, v, c, a3, a4, k, a6) := by
  unfold spec_l05On.f
  by_cases h : k > 0
  · simp only [h0, h1, h, ↓reduceIte]
    exact ⟨_, _, _, _, rfl⟩
  · simp only [h0, h1, h, ↓reduceIte]
    exact ⟨_, _, _, _, rfl⟩
theorem spec_l05Drawn_l0 {l : List Int} (hl : l.length ≤ 9223372036854775807) (ph : Int) (d : Nat) : ∀ (j : Nat) (t : List S63) (i h : Int), j + d = 9 → TreeUp t (j + 1) → CurOk l i →
    ∃ r i' h', Ev (fun k => spec_l05Drawn.l0 k t ph (j : Int) l i h) (r, i', h') ∧ TreeUp r 10 ∧ CurOk l i' := by
  induction d with
  | zero =>
    intro j t i h hj ht hc
    obtain ⟨x, i1, h1, e1, x0, x1, _, hc1⟩ := spec_l01Below_eq hl hc h 9
    have x2 := x1 (by omega)
    refine ⟨t, i1, h1, Ev.shift ?_, ⟨ht.1, by have := ht.2.1; omega, ht.2.2⟩, hc1⟩
    simp only [spec_l05Drawn.l0, e1, Option.bind_some, show ¬ (j : Int) < x from by omega, ↓reduceIte]
    exact Ev.now _
  | succ d ih =>
    intro j t i h hj ht hc
    obtain ⟨x, i1, h1, e1, x0, x1, _, hc1⟩ := spec_l01Below_eq hl hc h 9
    by_cases hx : (j : Int) < x
    · have h6 : wrap64 ((j : Int) + 1) = ((j + 1 : Nat) : Int) := by rw [wrap_id (by omega) (by omega)]; omega
      have t1 := ht.1
      have t2 := ht.2.1
      have key : ∀ (p : Int) (i h : Int), 0 ≤ p → p < (t.length : Int) → CurOk l i → ∃ r i' h', Ev (fun k => spec_l05Drawn.j1 k t ph (j : Int) p l i h) (r, i', h') ∧ TreeUp r 10 ∧ CurOk l i' := by
        intro p i h p0 p1 hc
        obtain ⟨b, i2, h2, e2, hc2⟩ := spec_l01Once_eq hl hc h 4
        obtain ⟨c, i3, h3, e3, hg, hc3⟩ := spec_l03Cmds_ev hl hc2 h2
        have go : ∀ more : Int, ∃ r i' h', Ev (fun k => (spec_l05On.f t p more c ph).bind fun bt => (spec_PutBlock.f k t bt.1 bt.2.1 bt.2.2.1 bt.2.2.2.1 bt.2.2.2.2.1 bt.2.2.2.2.2.1 bt.2.2.2.2.2.2).bind fun bt2 => spec_l05Drawn.l0 k bt2.1 ph (wrap64 ((j : Int) + 1)) l i3 h3) (r, i', h') ∧ TreeUp r 10 ∧ CurOk l i' := by
          intro more
          obtain ⟨v, a3, a4, a6, eo⟩ := spec_l05On_eq t p more c ph p0 p1
          obtain ⟨u, m, hu, hup⟩ := spec_PutBlock_ev t (j + 1) (by omega) ht p v c a3 a4 p a6 hg
          obtain ⟨r, i', h', hr, g, cc⟩ := ih (j + 1) u i3 h3 (by omega) hup hc3
          refine ⟨r, i', h', ?_, g, cc⟩
          simp only [eo, Option.bind_some, h6]
          exact Ev.bind hu hr
        cases b with
        | true =>
          obtain ⟨r, i', h', hr, g, cc⟩ := go 2
          refine ⟨r, i', h', Ev.shift ?_, g, cc⟩
          simp only [spec_l05Drawn.j1, e2, Option.bind_some, ↓reduceIte]
          exact Ev.bind e3 hr
        | false =>
          obtain ⟨r, i', h', hr, g, cc⟩ := go 1
          refine ⟨r, i', h', Ev.shift ?_, g, cc⟩
          simp only [spec_l05Drawn.j1, e2, Option.bind_some, ↓reduceIte, Bool.false_eq_true]
          exact Ev.bind e3 hr
      obtain ⟨b, i2, h2, e2, hc2⟩ := spec_l01Once_eq hl hc1 h1 4
      cases b with
      | true =>
        obtain ⟨y, i3, h3, e3, y0, y1, _, hc3⟩ := spec_l01Below_eq hl hc2 h2 (t.length : Int)
        obtain ⟨r, i', h', hr, g, cc⟩ := key y i3 h3 y0 (y1 (by omega)) hc3
        refine ⟨r, i', h', Ev.shift ?_, g, cc⟩
        simp only [spec_l05Drawn.l0, e1, e2, e3, hx, Option.bind_some, ↓reduceIte]
        exact hr
      | false =>
        have w1 : wrap64 ((t.length : Int) - 1) = (t.length : Int) - 1 := wrap_id (by omega) (by omega)
        obtain ⟨r, i', h', hr, g, cc⟩ := key ((t.length : Int) - 1) i2 h2 (by omega) (by omega) hc2
        refine ⟨r, i', h', Ev.shift ?_, g, cc⟩
        simp only [spec_l05Drawn.l0, e1, e2, hx, w1, Option.bind_some, ↓reduceIte, Bool.false_eq_true]
        exact hr
    · refine ⟨t, i1, h1, Ev.shift ?_, ⟨ht.1, by have := ht.2.1; omega, ht.2.2⟩, hc1⟩
      simp only [spec_l05Drawn.l0, e1, Option.bind_some, hx, ↓reduceIte]
      exact Ev.now _
theorem spec_l05Drawn_ev {l : List Int} (hl : l.length ≤ 9223372036854775807) {i : Int} (hi : CurOk l i) (h : Int) :
    ∃ r i' h', Ev (fun k => spec_l05Drawn.f k l i h) (r, i', h') ∧ TreeUp r 10 ∧ CurOk l i' := by
  obtain ⟨p, i1, h1, e1, hc1⟩ := spec_l01PickInt_eq hl hi h (([1, 4] : List Int)) (by decide)
  have hT : TreeUp ([(⟨-1, 0, [], (⟨0, 0, 0, 0⟩)⟩ : S63)]) (0 + 1) := by
    refine ⟨by decide, by decide, fun x hx => ?_, fun k k0 hk => ?_⟩
    · rw [List.mem_singleton.1 hx]
      exact ⟨Nat.zero_le _, fun y hy => by cases hy⟩
    · rw [List.length_singleton] at hk
      omega
  obtain ⟨r, i', h', hr, g, cc⟩ := spec_l05Drawn_l0 hl p 9 0 _ i1 h1 rfl hT hc1
  refine ⟨r, i', h', ?_, g, cc⟩
  unfold spec_l05Drawn.f spec_TreeNew.f spec_FirstBlock.f
  simp only [Option.bind_some, e1]
  exact hr

def okV (p v b : Int) (x : S40) : Bool := decide (x.f0 = p) && (decide (x.f1 = v) && decide (x.f2 = b))
def hasV (l : List S40) (p v b : Int) (j : Nat) : Bool := l.any fun x => okV p v b x && decide (x.f3 = (j : Int))
def sgnV (l : List S40) (p v b : Int) : Int := sgnT 7 (hasV l p v b)
theorem rdV_nat (l : List S40) (i : Nat) (h : i < l.length) : rd_T40 l (i : Int) = l[i] := getD_nat l _ i h
theorem hasV_drop {l : List S40} {i : Nat} (h : i < l.length) (p v b : Int) (j : Nat) : hasV (l.drop i) p v b j = ((okV p v b l[i] && decide (l[i].f3 = (j : Int))) || hasV (l.drop (i + 1)) p v b j) := by
  unfold hasV
  rw [List.drop_eq_getElem_cons h, List.any_cons]
theorem hasV_take {l : List S40} {i : Nat} (h : i < l.length) (p v b : Int) (j : Nat) : hasV (l.take (i + 1)) p v b j = (hasV (l.take i) p v b j || (okV p v b l[i] && decide (l[i].f3 = (j : Int)))) := by
  unfold hasV
  rw [List.take_succ_eq_append_getElem h, List.any_append, List.any_cons, List.any_nil, Bool.or_false]

theorem spec_l07Vote_eq {l : List Int} (hl : l.length ≤ 9223372036854775807) {i : Int} (hi : CurOk l i) (h : Int) (t : List S63) (ht : 1 ≤ t.length) :
    ∃ a b c d i' h', spec_l07Vote.f l i h t = some (a, b, c, d, i', h') ∧ CurOk l i' := by
  obtain ⟨x, i1, h1, e1, x0, x1, _, hc1⟩ := spec_l01Below_eq hl hi h 4
  obtain ⟨y, i2, h2, e2, y0, y1, _, hc2⟩ := spec_l01Below_eq hl hc1 h1 4
  obtain ⟨z, i3, h3, e3, z0, z1, _, hc3⟩ := spec_l01Below_eq hl hc2 h2 (t.length : Int)
  have z2 := z1 (by omega)
  refine ⟨wrap64 (1 + x), (rd_T63 t z).f1, z, y, i3, h3, ?_, hc3⟩
  unfold spec_l07Vote.f
  simp only [e1, e2, e3, z0, z2, Option.bind_some, ↓reduceIte]
theorem spec_l07Votes_l0 {l : List Int} (hl : l.length ≤ 9223372036854775807) (t : List S63) (ht : 1 ≤ t.length) (p v b y : Int) (d : Nat) : ∀ (j : Nat) (acc : List S40) (i h : Int), j + d = 8 → acc.length = j → CurOk l i →
    ∃ r i' h', Ev (fun k => spec_l07Votes.l0 k t acc (j : Int) l i h p v b y) (r, i', h') ∧ r.length ≤ 8 := by
  induction d with
  | zero =>
    intro j acc i h hj ha hc
    obtain ⟨x, i1, h1, e1, x0, x1, _, hc1⟩ := spec_l01Below_eq hl hc h 8
    have x2 := x1 (by omega)
    refine ⟨acc, i1, h1, Ev.shift ?_, by omega⟩
    simp only [spec_l07Votes.l0, e1, Option.bind_some, show ¬ (j : Int) < x from by omega, ↓reduceIte]
    exact Ev.now _
  | succ d ih =>
    intro j acc i h hj ha hc
    obtain ⟨x, i1, h1, e1, x0, x1, _, hc1⟩ := spec_l01Below_eq hl hc h 8
    have h6 : wrap64 ((j : Int) + 1) = ((j + 1 : Nat) : Int) := by rw [wrap_id (by omega) (by omega)]; omega
    have hlt : acc.length < 4398046511104 := by omega
    by_cases hx : (j : Int) < x
    · obtain ⟨z, i2, h2, e2, _, _, _, hc2⟩ := spec_l01Below_eq hl hc1 h1 5
      obtain ⟨o, i3, h3, e3, hc3⟩ := spec_l01Once_eq hl hc2 h2 4
      cases o with
      | true =>
        obtain ⟨a1, a2, a3, a4, i4, h4, e4, hc4⟩ := spec_l07Vote_eq hl hc3 h3 t ht
        obtain ⟨r, i', h', hr, g⟩ := ih (j + 1) (acc ++ [⟨a1, a2, a3, a4⟩]) i4 h4 (by omega) (by rw [List.length_append, List.length_singleton]; omega) hc4
        refine ⟨r, i', h', Ev.shift ?_, g⟩
        simp only [spec_l07Votes.l0, e1, e2, e3, e4, hx, hlt, h6, Option.bind_some, ↓reduceIte]
        exact hr
      | false =>
        obtain ⟨r, i', h', hr, g⟩ := ih (j + 1) (acc ++ [⟨p, v, b, z⟩]) i3 h3 (by omega) (by rw [List.length_append, List.length_singleton]; omega) hc3
        refine ⟨r, i', h', Ev.shift ?_, g⟩
        simp only [spec_l07Votes.l0, e1, e2, e3, hx, hlt, h6, Option.bind_some, ↓reduceIte, Bool.false_eq_true]
        exact hr
    · refine ⟨acc, i1, h1, Ev.shift ?_, by omega⟩
      simp only [spec_l07Votes.l0, e1, Option.bind_some, hx, ↓reduceIte]
      exact Ev.now _
theorem spec_DrawVotes_ev {l : List Int} (hl : l.length ≤ 9223372036854775807) : ∃ t v, Ev (fun k => spec_DrawVotes.f k l) (t, v) ∧ v.length ≤ 8 := by
  obtain ⟨h, hn⟩ := spec_l01New_ev l
  obtain ⟨t, i1, h1, hT, g, hc1⟩ := spec_l05Drawn_ev hl (curOk_zero l) h
  obtain ⟨a1, a2, a3, a4, i2, h2, e2, hc2⟩ := spec_l07Vote_eq hl hc1 h1 t g.1
  obtain ⟨v, i3, h3, hV, hv⟩ := spec_l07Votes_l0 hl t g.1 a1 a2 a3 a4 8 0 [] i2 h2 rfl rfl hc2
  refine ⟨t, v, ?_, hv⟩
  unfold spec_DrawVotes.f
  refine Ev.bind hn (Ev.bind hT ?_)
  have hV2 : Ev (fun k => spec_l07Votes.f k l i1 h1 t) (v, i3, h3) := by
    unfold spec_l07Votes.f
    simp only [e2, Option.bind_some]
    exact hV
  exact Ev.bind hV2 (Ev.now _)

theorem impl_isPeer_eq (a n : Int) : impl_isPeer.f a n = some (decide (0 ≤ a ∧ a < n)) := by
  unfold impl_isPeer.f
  by_cases h : a ≥ 0
  · simp [h]
  · have h' : ¬ 0 ≤ a := by omega
    simp [h, h']
theorem impl_SignersOf_l0 (l : List S40) (hl : l.length ≤ 9223372036854775806) (p v b : Int) (d : Nat) : ∀ i : Nat, i + d = l.length →
    Ev (fun k => impl_SignersOf.l0 k p v b (sgnT 7 (hasV (l.take i) p v b)) l (l.length : Int) (i : Int)) (sgnV l p v b) := by
  induction d with
  | zero =>
    intro i hi
    obtain rfl : i = l.length := by omega
    refine Ev.shift ?_
    simp only [impl_SignersOf.l0, show ¬ (l.length : Int) < (l.length : Int) from by omega, ↓reduceIte, List.take_length]
    exact Ev.now _
  | succ d ih =>
    intro i hi
    have hr := ih (i + 1) (by omega)
    have hil : i < l.length := by omega
    have c1 : (i : Int) < (l.length : Int) := by omega
    have c2 : (0 : Int) ≤ (i : Int) := by omega
    have hup : wrap64 ((i : Int) + 1) = ((i + 1 : Nat) : Int) := int_up hil (by omega)
    have idle : (∀ j : Nat, j < 7 → (okV p v b l[i] && decide (l[i].f3 = (j : Int))) = false) → Ev (fun k => impl_SignersOf.l0 k p v b (sgnT 7 (hasV (l.take i) p v b)) l (l.length : Int) ((i + 1 : Nat) : Int)) (sgnV l p v b) := by
      intro hno
      have e : sgnT 7 (hasV (l.take i) p v b) = sgnT 7 (hasV (l.take (i + 1)) p v b) := sgnT_congr 7 fun j hj => by rw [hasV_take hil, hno j hj, Bool.or_false]
      rw [e]
      exact hr
    refine Ev.shift ?_
    by_cases b0 : l[i].f0 = p
    · by_cases b1 : l[i].f1 = v
      · by_cases b2 : l[i].f2 = b
        · by_cases b3 : 0 ≤ l[i].f3 ∧ l[i].f3 < 7
          · obtain ⟨j, hj⟩ : ∃ j : Nat, l[i].f3 = (j : Int) := ⟨l[i].f3.toNat, by omega⟩
            have hj7 : j < 7 := by omega
            have c4 : (0 : Int) ≤ (j : Int) := by omega
            have hd : impl_isPeer.f (j : Int) 7 = some true := by rw [impl_isPeer_eq, decide_eq_true ⟨c4, by omega⟩]
            simp only [impl_SignersOf.l0, c1, c2, rdV_nat l i hil, b0, b1, b2, hj, hd, c4, Option.bind_some, shl_one hj7, sgn_or _ hj7, hup, ↓reduceIte]
            have e : sgnT 7 (fun m => hasV (l.take i) p v b m || decide (m = j)) = sgnT 7 (hasV (l.take (i + 1)) p v b) := sgnT_congr 7 fun m hm => by
              rw [hasV_take hil]
              congr 1
              unfold okV
              by_cases q : m = j
              · subst q
                simp [b0, b1, b2, hj]
              · have q' : ¬ (j : Int) = (m : Int) := fun z => q (by omega)
                simp [q, hj, q']
            rw [e]
            exact hr
          · have hd : impl_isPeer.f l[i].f3 7 = some false := by rw [impl_isPeer_eq, decide_eq_false b3]
            simp only [impl_SignersOf.l0, c1, c2, rdV_nat l i hil, b0, b1, b2, hd, Option.bind_some, hup, ↓reduceIte, Bool.false_eq_true]
            exact idle fun j hj => by
              have q : ¬ l[i].f3 = (j : Int) := fun z => b3 (by omega)
              simp [q]
        · simp only [impl_SignersOf.l0, c1, c2, rdV_nat l i hil, b0, b1, b2, hup, ↓reduceIte]
          exact idle fun j hj => by unfold okV; simp [b2]
      · simp only [impl_SignersOf.l0, c1, c2, rdV_nat l i hil, b0, b1, hup, ↓reduceIte]
        exact idle fun j hj => by unfold okV; simp [b1]
    · simp only [impl_SignersOf.l0, c1, c2, rdV_nat l i hil, b0, hup, ↓reduceIte]
      exact idle fun j hj => by unfold okV; simp [b0]
theorem impl_SignersOf_ev (l : List S40) (hl : l.length ≤ 9223372036854775806) (p v b : Int) : Ev (fun k => impl_SignersOf.f k l p v b) (sgnV l p v b) := by
  have h := impl_SignersOf_l0 l hl p v b l.length 0 (by omega)
  have e : sgnT 7 (hasV (l.take 0) p v b) = 0 := by
    exact (sgnT_congr (f := hasV (l.take 0) p v b) (g := fun _ => false) 7 fun j hj => rfl).trans (by decide)
  rw [e] at h
  exact h

theorem impl_CountOf_l0 (x : Int) (hx : 0 < x) (hx1 : x ≤ 9223372036854775807) (d : Nat) : ∀ i : Nat, i + d = 7 → Ev (fun k => impl_CountOf.l0 k x (cntTo i x) (i : Int)) (cntTo 7 x) := by
  induction d with
  | zero =>
    intro i hi
    obtain rfl : i = 7 := by omega
    refine Ev.shift ?_
    simp only [impl_CountOf.l0, show ¬ ((7 : Nat) : Int) < 7 from by omega, ↓reduceIte]
    exact Ev.now _
  | succ d ih =>
    intro i hi
    refine Ev.shift ?_
    have h1 : (i : Int) < 7 := by omega
    have h2 : x > 0 := hx
    have h4 : (0 : Int) ≤ i := by omega
    have hc := cntTo_range x i
    have hb := bitAt_range x i
    have hs := shr_nonneg (i := i) (Int.le_of_lt hx) hx1
    have h5 : wrap64 (cntTo i x + Go.bits .and .i64 (shr .i64 x (i : Int)) 1) = cntTo (i + 1) x := by
      rw [shr_bit (by omega), and1_i64 hs.1 hs.2]
      show wrap64 (cntTo i x + bitAt x i) = cntTo i x + bitAt x i
      exact wrap_id (by omega) (by omega)
    have h6 : wrap64 ((i : Int) + 1) = ((i + 1 : Nat) : Int) := by rw [wrap_id (by omega) (by omega)]; omega
    simp only [impl_CountOf.l0, h1, h2, h4, h5, h6, ↓reduceIte]
    exact ih (i + 1) (by omega)
theorem impl_CountOf_neg (x : Int) (hx : ¬ x > 0) (d : Nat) : ∀ i : Nat, i + d = 7 → Ev (fun k => impl_CountOf.l0 k x 0 (i : Int)) 0 := by
  induction d with
  | zero =>
    intro i hi
    obtain rfl : i = 7 := by omega
    refine Ev.shift ?_
    simp only [impl_CountOf.l0, show ¬ ((7 : Nat) : Int) < 7 from by omega, ↓reduceIte]
    exact Ev.now _
  | succ d ih =>
    intro i hi
    refine Ev.shift ?_
    have h1 : (i : Int) < 7 := by omega
    have h6 : wrap64 ((i : Int) + 1) = ((i + 1 : Nat) : Int) := by rw [wrap_id (by omega) (by omega)]; omega
    simp only [impl_CountOf.l0, h1, hx, h6, ↓reduceIte]
    exact ih (i + 1) (by omega)
theorem impl_CountOf_ev (x : Int) (hx1 : x ≤ 9223372036854775807) : Ev (fun k => impl_CountOf.f k x) (cnt x) := by
  unfold cnt
  by_cases h0 : x > 0
  · simp only [h0, ↓reduceIte]
    exact impl_CountOf_l0 x h0 hx1 7 0 rfl
  · simp only [h0, ↓reduceIte]
    exact impl_CountOf_neg x h0 7 0 rfl

def quoB (n : Int) : Int := if n < 1 then wrap64 (n - 0) else wrap64 (n - wrap64 (Int.tdiv (wrap64 (n - 1)) 3))
theorem impl_Quorum_q (n : Int) : impl_Quorum.f n = some (quoB n) := by
  unfold impl_Quorum.f impl_Faults.f quoB
  by_cases h : n < 1 <;> simp [h]

def qcOfB (l : List S40) (p v b n : Int) : Int × Int × Int × Int × Bool := if cnt (sgnV l p v b) < quoB n then (0, 0, 0, 0, false) else (p, v, b, sgnV l p v b, true)
theorem impl_QcOf_ev (l : List S40) (hl : l.length ≤ 9223372036854775806) (p v b n : Int) : Ev (fun k => impl_QcOf.f k l p v b n) (qcOfB l p v b n) := by
  unfold impl_QcOf.f qcOfB
  have hr := sgnT_range (hasV l p v b)
  refine Ev.bind (impl_SignersOf_ev l hl p v b) (Ev.bind (impl_CountOf_ev _ (Int.le_trans hr.2 (by decide))) ?_)
  simp only [impl_Quorum_q, Option.bind_some]
  by_cases h : cnt (sgnV l p v b) < quoB n
  · simp only [h, ↓reduceIte]
    exact Ev.now _
  · simp only [h, ↓reduceIte]
    exact Ev.now _

theorem impl_in_eq (a b c : Int) : impl_in.f a b c = some (decide (b ≤ a ∧ a ≤ c)) := by
  unfold impl_in.f
  by_cases h : a ≥ b
  · simp [h]
  · have h' : ¬ b ≤ a := by omega
    simp [h, h']

theorem sgn_bit (h : Nat → Bool) {j : Nat} (hj : j < 7) : bitAt (sgnT 7 h) j = if h j = true then 1 else 0 := by
  obtain ⟨A, hA, he, hb⟩ := sgn_nat h
  rw [he, ← hb j hj]
  unfold bitAt
  rw [pow_nat, Nat.testBit_eq_decide_div_mod_eq]
  have e : ((A : Int) / ((2 ^ j : Nat) : Int)) % 2 = ((A / 2 ^ j % 2 : Nat) : Int) := by
    rw [← Int.natCast_ediv]
    omega
  rw [e]
  by_cases q : A / 2 ^ j % 2 = 1
  · simp [q]
  · have q0 : A / 2 ^ j % 2 = 0 := by omega
    simp [q0]
theorem hasVote_l0 (l : List S40) (hl : l.length ≤ 9223372036854775806) (p v b : Int) (m : Nat) (d : Nat) : ∀ i : Nat, i + d = l.length →
    ∃ r, Ev (fun k => impl_Vote_99.l0 k l (l.length : Int) (i : Int) p v b (m : Int)) r ∧ decide (r ≥ 0) = hasV (l.drop i) p v b m := by
  induction d with
  | zero =>
    intro i hi
    refine ⟨-1, Ev.shift ?_, ?_⟩
    · simp only [impl_Vote_99.l0, show ¬ (i : Int) < (l.length : Int) from by omega, ↓reduceIte]
      exact Ev.now _
    · rw [List.drop_of_length_le (by omega)]
      rfl
  | succ d ih =>
    intro i hi
    have hil : i < l.length := by omega
    have c1 : (i : Int) < (l.length : Int) := by omega
    have c2 : (0 : Int) ≤ (i : Int) := by omega
    have hup := int_up hil (by omega)
    obtain ⟨r, hr, hq⟩ := ih (i + 1) (by omega)
    have e : (p == (l[i]).f0 && (v == (l[i]).f1 && (b == (l[i]).f2 && ((m : Int) == (l[i]).f3)))) = (okV p v b l[i] && decide (l[i].f3 = (m : Int))) := by
      unfold okV
      rw [Bool.eq_iff_iff]
      simp only [Bool.and_eq_true, beq_iff_eq, decide_eq_true_eq]
      exact ⟨fun ⟨q1, q2, q3, q4⟩ => ⟨⟨q1.symm, q2.symm, q3.symm⟩, q4.symm⟩, fun ⟨⟨q1, q2, q3⟩, q4⟩ => ⟨q1.symm, q2.symm, q3.symm, q4.symm⟩⟩
    rw [hasV_drop hil]
    by_cases h : (okV p v b l[i] && decide (l[i].f3 = (m : Int))) = true
    · refine ⟨(i : Int), Ev.shift ?_, ?_⟩
      · simp only [impl_Vote_99.l0, c1, c2, rdV_nat l i hil, e, h, ↓reduceIte]
        exact Ev.now _
      · rw [h, Bool.true_or]
        exact decide_eq_true (by omega)
    · refine ⟨r, Ev.shift ?_, ?_⟩
      · simp only [impl_Vote_99.l0, c1, c2, rdV_nat l i hil, e, h, hup, ↓reduceIte, Bool.false_eq_true]
        exact hr
      · rw [hq, Bool.eq_false_iff.2 h, Bool.false_or]
theorem hasVote_ev (l : List S40) (hl : l.length ≤ 9223372036854775806) (p v b : Int) (m : Nat) : Ev (fun k => impl_Vote_70.f k l p v b (m : Int)) (hasV l p v b m) := by
  obtain ⟨r, hr, hq⟩ := hasVote_l0 l hl p v b m l.length 0 (by omega)
  rw [List.drop_zero] at hq
  unfold impl_Vote_70.f
  refine Ev.bind (show Ev (fun k => impl_Vote_99.f k l p v b (m : Int)) r from hr) ?_
  rw [hq]
  exact Ev.now _
/-- Proven, from place i on. -/
def provB (l : List S40) (p v b s x : Int) : Nat → Nat → Bool
  | 0, _ => true
  | d + 1, i => (decide (v = 0) || (decide (s ≤ 0) || (decide (bitAt s i = 0) || (decide (bitAt x i = 1) || hasV l p v b i)))) && provB l p v b s x d (i + 1)
theorem proven_l0 (l : List S40) (hl : l.length ≤ 9223372036854775806) (p v b s x : Int) (hs : s ≤ 9223372036854775807) (hx : 0 ≤ x ∧ x ≤ 9223372036854775807) (d : Nat) : ∀ i : Nat, i + d = 7 →
    Ev (fun k => impl_Proven.l0 k l x (i : Int) p v b s) (provB l p v b s x d i) := by
  induction d with
  | zero =>
    intro i hi
    refine Ev.shift ?_
    simp only [impl_Proven.l0, show ¬ (i : Int) < 7 from by omega, ↓reduceIte, provB]
    exact Ev.now _
  | succ d ih =>
    intro i hi
    have c1 : (i : Int) < 7 := by omega
    have c2 : (0 : Int) ≤ (i : Int) := by omega
    have hup : wrap64 ((i : Int) + 1) = ((i + 1 : Nat) : Int) := by rw [wrap_id (by omega) (by omega)]; omega
    have hr := ih (i + 1) (by omega)
    have on : Ev (fun k => impl_Proven.j1 k l x (i : Int) (i : Int) true p v b s) (provB l p v b s x d (i + 1)) := by
      refine Ev.shift ?_
      simp only [impl_Proven.j1, ↓reduceIte, hup]
      exact hr
    refine Ev.shift ?_
    by_cases h1 : v = 0
    · simp only [impl_Proven.l0, c1, h1, ↓reduceIte, provB, decide_true, Bool.true_or, Bool.true_and]
      rw [h1] at on
      exact on
    · by_cases h2 : s ≤ 0
      · simp only [impl_Proven.l0, c1, h1, h2, ↓reduceIte, provB, decide_true, decide_false, Bool.true_or, Bool.false_or, Bool.true_and]
        exact on
      · have e1 : Go.bits .and .i64 (shr .i64 s (i : Int)) 1 = bitAt s i := by
          have q := shr_nonneg (i := i) (show 0 ≤ s by omega) hs
          rw [shr_bit (by omega), and1_i64 q.1 q.2]
          rfl
        have e2 : Go.bits .and .i64 (shr .i64 x (i : Int)) 1 = bitAt x i := by
          have q := shr_nonneg (i := i) hx.1 hx.2
          rw [shr_bit (by omega), and1_i64 q.1 q.2]
          rfl
        by_cases h3 : bitAt s i = 0
        · simp only [impl_Proven.l0, c1, c2, h1, h2, e1, h3, ↓reduceIte, provB, decide_true, decide_false, Bool.true_or, Bool.false_or, Bool.true_and]
          exact on
        · simp only [impl_Proven.l0, c1, c2, h1, h2, e1, e2, h3, ↓reduceIte, provB, decide_false, Bool.false_or]
          by_cases h4 : bitAt x i = 1
          · simp only [h4, beq_self_eq_true, decide_true, Bool.true_or, Bool.true_and]
            exact on
          · have h5 : (bitAt x i == 1) = false := beq_eq_false_iff_ne.2 h4
            simp only [h5, h4, decide_false, Bool.false_or]
            refine Ev.shift ?_
            simp only [impl_Proven.j1, ↓reduceIte, Bool.false_eq_true, hup]
            refine Ev.bind (hasVote_ev l hl p v b i) ?_
            cases hasV l p v b i with
            | true =>
              simp only [↓reduceIte, Bool.true_and]
              exact hr
            | false =>
              simp only [↓reduceIte, Bool.false_and, Bool.false_eq_true]
              exact Ev.now _
theorem proven_ev (l : List S40) (hl : l.length ≤ 9223372036854775806) (p v b s x : Int) (hs : s ≤ 9223372036854775807) (hx : 0 ≤ x ∧ x ≤ 9223372036854775807) :
    Ev (fun k => impl_Proven.f k l p v b s x) (provB l p v b s x 7 0) := proven_l0 l hl p v b s x hs hx 7 0 rfl
theorem prov_all (l : List S40) (p v b s x : Int) (d : Nat) : ∀ i : Nat, (∀ j, i ≤ j → j < i + d → v = 0 ∨ bitAt s j = 0 ∨ bitAt x j = 1 ∨ hasV l p v b j = true) → provB l p v b s x d i = true := by
  induction d with
  | zero => intro i _; rfl
  | succ d ih =>
    intro i h
    rw [provB, ih (i + 1) (fun j h1 h2 => h j (by omega) (by omega)), Bool.and_true]
    rcases h i (Nat.le_refl _) (by omega) with q | q | q | q
    · simp [q]
    · simp [q]
    · simp [q]
    · simp [q]
theorem certs_l1 {l : List S40} (hl : l.length ≤ 1000) {p v b : Int} {ok : Bool} {y q0 q1 q2 q3 : Int} {m : Nat} (hm : m < 7)
    (hn : Ev (fun k => laws_FnCerts.l0 k l (sgnV l p v b) ok ((m + 1 : Nat) : Int) p v b y q0 q1 q2 q3) true) (d : Nat) : ∀ (i : Nat) (has : Bool), i + d = l.length → (has || hasV (l.drop i) p v b m) = hasV l p v b m →
    Ev (fun k => laws_FnCerts.l1 k l (sgnV l p v b) ok (m : Int) has (i : Int) p v b y q0 q1 q2 q3) true := by
  have hr := sgnT_range (hasV l p v b)
  induction d with
  | zero =>
    intro i has hi hh
    rw [List.drop_of_length_le (by omega)] at hh
    have hh : has = hasV l p v b m := by rw [← hh]; cases has <;> rfl
    have u1 : IntKind.u64.wrap (m : Int) = (m : Int) := u64_id (by omega) (by omega)
    have c2 : (0 : Int) ≤ (m : Int) := by omega
    have hup : wrap64 ((m : Int) + 1) = ((m + 1 : Nat) : Int) := by rw [wrap_id (by omega) (by omega)]; omega
    have e1 : Int.tmod (shr .i64 (sgnV l p v b) (m : Int)) 2 = if hasV l p v b m = true then 1 else 0 := by
      rw [show sgnV l p v b = sgnT 7 (hasV l p v b) from rfl, shr_tmod hr.1 (Int.le_trans hr.2 (by decide)) hm]
      exact sgn_bit _ hm
    have e2 : (has != ((Int.tmod (shr .i64 (sgnV l p v b) (m : Int)) 2) == 1)) = false := by
      rw [e1, hh]
      cases hasV l p v b m <;> rfl
    refine Ev.shift ?_
    simp only [laws_FnCerts.l1, show ¬ (i : Int) < (l.length : Int) from by omega, ↓reduceIte, u1, c2, e2, hup, Bool.false_eq_true]
    exact hn
  | succ d ih =>
    intro i has hi hh
    have hil : i < l.length := by omega
    have c1 : (i : Int) < (l.length : Int) := by omega
    have c2 : (0 : Int) ≤ (i : Int) := by omega
    have hup := int_up hil (by omega)
    rw [hasV_drop hil] at hh
    have key : ∀ has2 : Bool, has2 = (has || (okV p v b l[i] && decide (l[i].f3 = (m : Int)))) → Ev (fun k => laws_FnCerts.l1 k l (sgnV l p v b) ok (m : Int) has2 ((i + 1 : Nat) : Int) p v b y q0 q1 q2 q3) true := fun has2 h2 =>
      ih (i + 1) has2 (by omega) (by rw [h2, ← hh, Bool.or_assoc])
    refine Ev.shift ?_
    cases has with
    | true =>
      simp only [laws_FnCerts.l1, c1, c2, hup, ↓reduceIte]
      exact key true (by simp)
    | false =>
      simp only [laws_FnCerts.l1, c1, c2, rdV_nat l i hil, hup, ↓reduceIte, Bool.false_eq_true]
      by_cases b3 : l[i].f3 = (m : Int)
      · by_cases b0 : l[i].f0 = p
        · by_cases b1 : l[i].f1 = v
          · simp only [b0, b1, b3, ↓reduceIte]
            refine key _ ?_
            unfold okV
            simp [b0, b1, b3]
            rfl
          · simp only [b0, b1, b3, ↓reduceIte]
            refine key _ ?_
            unfold okV
            simp [b1]
        · simp only [b0, b3, ↓reduceIte]
          refine key _ ?_
          unfold okV
          simp [b0]
      · simp only [b3, ↓reduceIte]
        refine key _ ?_
        simp [b3]
theorem certs_j2 {l : List S40} (hl : l.length ≤ 1000) (p v b y : Int) : Ev (fun k => laws_FnCerts.j2 k l (sgnV l p v b) false p v b y) true := by
  have hr := sgnT_range (hasV l p v b)
  refine Ev.shift ?_
  by_cases h1 : v = 0
  · simp only [laws_FnCerts.j2, h1, ↓reduceIte, Bool.false_eq_true]
    exact Ev.now _
  · have e1 : Go.bits .or .i64 (sgnV l p v b) 64 = sgnT 7 (fun m => hasV l p v b m || decide (m = 6)) := sgn_or (hasV l p v b) (j := 6) (by decide)
    have hr2 := sgnT_range (fun m => hasV l p v b m || decide (m = 6))
    have hb := fun (j : Nat) (hj : j < 7) => sgn_bit (fun m => hasV l p v b m || decide (m = 6)) hj
    have b6 := hb 6 (by decide)
    have pos : ¬ sgnT 7 (fun m => hasV l p v b m || decide (m = 6)) ≤ 0 := by
      intro q
      have : sgnT 7 (fun m => hasV l p v b m || decide (m = 6)) = 0 := by omega
      rw [this] at b6
      simp [bitAt] at b6
    have x6 : bitAt 64 6 = 1 := by decide
    have small : ∀ j, j < 6 → bitAt (sgnT 7 (fun m => hasV l p v b m || decide (m = 6))) j = 0 ∨ hasV l p v b j = true := by
      intro j hj
      have hj6 : ¬ j = 6 := by omega
      rw [hb j (by omega)]
      cases hasV l p v b j with
      | true => exact .inr rfl
      | false => left; simp [hj6]
    have p1 : provB l p v b (sgnT 7 (fun m => hasV l p v b m || decide (m = 6))) 64 7 0 = true := prov_all _ _ _ _ _ _ 7 0 fun j _ hj => by
      by_cases q : j = 6
      · subst q
        exact .inr (.inr (.inl x6))
      · rcases small j (by omega) with z | z
        · exact .inr (.inl z)
        · exact .inr (.inr (.inr z))
    have p2 : provB l p v b (sgnT 7 (fun m => hasV l p v b m || decide (m = 6))) 0 7 0 = hasV l p v b 6 := by
      have one : ∀ j, j < 6 → (decide (v = 0) || (decide (sgnT 7 (fun m => hasV l p v b m || decide (m = 6)) ≤ 0) || (decide (bitAt (sgnT 7 (fun m => hasV l p v b m || decide (m = 6))) j = 0) || (decide (bitAt 0 j = 1) || hasV l p v b j)))) = true := by
        intro j hj
        rcases small j hj with z | z
        · rw [z]; simp
        · rw [z]; simp
      have six : (decide (v = 0) || (decide (sgnT 7 (fun m => hasV l p v b m || decide (m = 6)) ≤ 0) || (decide (bitAt (sgnT 7 (fun m => hasV l p v b m || decide (m = 6))) 6 = 0) || (decide (bitAt 0 6 = 1) || hasV l p v b 6)))) = hasV l p v b 6 := by
        rw [b6, decide_eq_false h1, decide_eq_false pos, bitAt_zero]
        simp
      simp only [provB, one 0 (by decide), one 1 (by decide), one 2 (by decide), one 3 (by decide), one 4 (by decide), one 5 (by decide), six, Bool.true_and, Bool.and_true]
    have e3 : ((sgnV l p v b) / 64 == 1) = hasV l p v b 6 := by
      have q := sgn_bit (hasV l p v b) (j := 6) (by decide)
      unfold bitAt at q
      have q2 : (2 : Int) ^ 6 = 64 := by decide
      rw [q2] at q
      have z : (sgnV l p v b) / 64 = if hasV l p v b 6 = true then 1 else 0 := by
        rw [← q]
        show sgnT 7 (hasV l p v b) / 64 = sgnT 7 (hasV l p v b) / 64 % 2
        omega
      rw [z]
      cases hasV l p v b 6 <;> rfl
    simp only [laws_FnCerts.j2, h1, ↓reduceIte, Bool.false_eq_true, e1]
    have d1 := proven_ev l (by omega) p v b (sgnT 7 (fun m => hasV l p v b m || decide (m = 6))) 64 (Int.le_trans hr2.2 (by decide)) (by decide)
    have d2 := proven_ev l (by omega) p v b (sgnT 7 (fun m => hasV l p v b m || decide (m = 6))) 0 (Int.le_trans hr2.2 (by decide)) (by decide)
    rw [p1] at d1
    rw [p2] at d2
    refine Ev.bind d1 ?_
    simp only [↓reduceIte]
    refine Ev.bind d2 ?_
    rw [e3]
    exact Ev.eq (Ev.now _) (by cases hasV l p v b 6 <;> rfl)
theorem quo4 : quoB 4 = 3 := by
  unfold quoB
  rw [if_neg (by decide), wrap_id (x := 4 - 1) (by decide) (by decide), show Int.tdiv (4 - 1) 3 = 1 from by decide, wrap_id (x := 1) (by decide) (by decide), wrap_id (x := 4 - 1) (by decide) (by decide)]
  rfl
theorem certs_l0 {l : List S40} (hl : l.length ≤ 1000) (p v b y : Int) (d : Nat) : ∀ i : Nat, i + d = 7 →
    Ev (fun k => laws_FnCerts.l0 k l (sgnV l p v b) (qcOfB l p v b 4).2.2.2.2 (i : Int) p v b y (qcOfB l p v b 4).1 (qcOfB l p v b 4).2.1 (qcOfB l p v b 4).2.2.1 (qcOfB l p v b 4).2.2.2.1) true := by
  have hr := sgnT_range (hasV l p v b)
  induction d with
  | zero =>
    intro i hi
    refine Ev.shift ?_
    simp only [laws_FnCerts.l0, show ¬ (i : Int) < 7 from by omega, ↓reduceIte]
    refine Ev.bind (impl_CountOf_ev _ (Int.le_trans hr.2 (by decide))) ?_
    have hj := certs_j2 hl p v b y
    unfold qcOfB
    rw [quo4]
    by_cases h : cnt (sgnV l p v b) < 3
    · have e : decide (cnt (sgnV l p v b) ≥ 3) = false := decide_eq_false (by omega)
      simp only [if_pos h, e, bne_self_eq_false, Bool.false_eq_true, ↓reduceIte]
      exact hj
    · have e : decide (cnt (sgnV l p v b) ≥ 3) = true := decide_eq_true (by omega)
      simp only [if_neg h, e, bne_self_eq_false, Bool.false_eq_true, ↓reduceIte]
      have d1 := proven_ev l (by omega) p v b (sgnV l p v b) 0 (Int.le_trans hr.2 (by decide)) (by decide)
      rw [prov_all _ _ _ _ _ _ 7 0 (fun j _ hj => by
        rw [show sgnV l p v b = sgnT 7 (hasV l p v b) from rfl, sgn_bit _ (by omega : j < 7)]
        cases hasV l p v b j with
        | true => exact .inr (.inr (.inr rfl))
        | false => exact .inr (.inl rfl))] at d1
      refine Ev.bind d1 ?_
      exact hj
  | succ d ih =>
    intro i hi
    have hn := ih (i + 1) (by omega)
    refine Ev.shift ?_
    simp only [laws_FnCerts.l0, show (i : Int) < 7 from by omega, ↓reduceIte]
    exact certs_l1 hl (by omega) hn l.length 0 false (by omega) (by rw [Bool.false_or, List.drop_zero])
theorem FnCerts : laws_FnCerts.Pure := by
  intro l hl1 _ _
  have hl : l.length ≤ 9223372036854775807 := hl1
  refine Ev.rounds ?_
  unfold laws_FnCerts.f laws_big.f
  simp only [Option.bind_some]
  by_cases hb : (l.length : Int) > 1048576
  · simp only [hb, decide_true, ↓reduceIte]
    exact Ev.now _
  · simp only [hb, decide_false, ↓reduceIte, Bool.false_eq_true]
    obtain ⟨t, q, hD, hq⟩ := spec_DrawVotes_ev hl
    refine Ev.bind hD ?_
    by_cases h0 : (q.length : Int) = 0
    · have hq0 : q = [] := List.length_eq_zero_iff.1 (by omega)
      subst hq0
      simp only [h0, ↓reduceIte]
      refine Ev.bind (impl_QcOf_ev [] (by decide) 1 1 1 4) ?_
      have e : (qcOfB [] 1 1 1 4).2.2.2.2 = false := by
        unfold qcOfB
        have e0 : sgnV [] 1 1 1 = 0 := (sgnT_congr (f := hasV [] 1 1 1) (g := fun _ => false) 7 fun j hj => rfl).trans (by decide)
        rw [quo4, e0, if_pos (by decide)]
      simp only [e, ↓reduceIte, Bool.false_eq_true]
      have hQ : Ev (fun k => impl_QcRight.f k t 4 0 0 0 0) true := by
        unfold impl_QcRight.f
        simp only [beq_self_eq_true, Bool.and_self, ↓reduceIte]
        exact Ev.now _
      refine Ev.bind hQ ?_
      simp only [↓reduceIte]
      have d1 := proven_ev [] (by decide) 0 0 0 0 0 (by decide) (by decide)
      rw [prov_all _ _ _ _ _ _ 7 0 (fun j _ _ => .inl rfl)] at d1
      exact Ev.bind d1 (Ev.now _)
    · have h1 : 0 < (q.length : Int) := by omega
      simp only [h0, h1, ↓reduceIte]
      refine Ev.bind (impl_SignersOf_ev q (by omega) _ _ _) (Ev.bind (impl_QcOf_ev q (by omega) _ _ _ 4) ?_)
      exact certs_l0 (by omega) _ _ _ _ 7 0 rfl

end Go.Proofs.Ytmcopcpeacikmaa.Pure
