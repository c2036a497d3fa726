/- For every input that the statement reads, the law FnExactCellsText of the given program returns true and leaves its arguments as they were. Conditions: none but the statement's own. -/
import Derived.Test.YtngppcfnaeceoaaStmFnExactCellsText
import Derived.Test.YtngppcfnaeceoaaLib
import Derived.Test.YtngppcfnaeceoaaLibList
set_option linter.unusedVariables false
set_option linter.unusedSimpArgs false
namespace Go.Proofs.Ytngppcfnaeceoaa.Pure
open Go.RowKit Go.Proofs.Ytngppcfnaeceoaa.QFnExactCellsText Go.Proofs.YtngppcfnaeceoaaW.PrintWords Go.Proofs.YtngppcfnaeceoaaW.PrintLast Go.Proofs.YtngppcfnaeceoaaW.PrintMore Go.Proofs.Ytngppcfnaeceoaa.Lib

def cvCell (x : S91) : S92 := ⟨x.f0, x.f1⟩
theorem rdLCell_nat (l : List S91) (i : Nat) (h : i < l.length) : rd_T91 l (i : Int) = l[i] := getD_nat l _ i h
theorem rdCell_nat (l : List S92) (i : Nat) (h : i < l.length) : rd_T92 l (i : Int) = l[i] := getD_nat l _ i h
theorem laws_szCell_eq (s : ByteArray) (b x : Int) (hs : s.size ≤ 9223372036854775807) (h0 : 0 ≤ x) (h1 : x ≤ 1048576) :
    laws_szCell.f s b x = some (if x - (s.size : Int) < 0 then -1 else x - (s.size : Int)) := by
  unfold laws_szCell.f
  rw [wrap_id (by omega) (by omega)]
  split <;> rfl
def CellsFit (l : List S91) (x : Int) : Prop := (l.length : Int) ≤ x ∧ ∀ c ∈ l, (c.f0.size : Int) ≤ x
theorem laws_szCellS_l0 (l : List S91) (hl : l.length ≤ 1048576) (hk : ∀ c ∈ l, c.f0.size ≤ 9223372036854775807) (d : Nat) : ∀ (i : Nat) (x : Int), i + d = l.length → 0 ≤ x → x ≤ 1048576 →
    ∃ r, Ev (fun k => laws_szCellS.l0 k l x (i : Int)) r ∧ (r = -1 ∨ (0 ≤ r ∧ r ≤ x ∧ ∀ j : Nat, i ≤ j → ∀ h : j < l.length, ((l[j]).f0.size : Int) ≤ x)) := by
  induction d with
  | zero =>
    intro i x hi h0 h1
    refine ⟨x, Ev.shift ?_, .inr ⟨h0, Int.le_refl _, fun j hj h => by omega⟩⟩
    simp only [laws_szCellS.l0, show ¬ (i : Int) < (l.length : Int) from by omega, ↓reduceIte]
    exact Ev.now _
  | succ d ih =>
    intro i x hi h0 h1
    have hil : i < l.length := by omega
    have c1 : (i : Int) < (l.length : Int) := by omega
    have c2 : (0 : Int) ≤ (i : Int) := by omega
    have hup := int_up hil (by omega)
    have hz := laws_szCell_eq l[i].f0 l[i].f1 x (hk _ (List.getElem_mem hil)) h0 h1
    by_cases hneg : x - (l[i].f0.size : Int) < 0
    · refine ⟨-1, Ev.shift ?_, .inl rfl⟩
      rw [if_pos hneg] at hz
      simp only [laws_szCellS.l0, c1, c2, rdLCell_nat l i hil, hz, Option.bind_some, ↓reduceIte, show ((-1 : Int) < 0) = True from eq_true (by decide)]
      exact Ev.now _
    · obtain ⟨r, hr, hq⟩ := ih (i + 1) (x - (l[i].f0.size : Int)) (by omega) (by omega) (by omega)
      refine ⟨r, Ev.shift ?_, ?_⟩
      · rw [if_neg hneg] at hz
        simp only [laws_szCellS.l0, c1, c2, rdLCell_nat l i hil, hz, Option.bind_some, ↓reduceIte, hneg, hup]
        exact hr
      · rcases hq with hq | ⟨q0, q1, q2⟩
        · exact .inl hq
        · refine .inr ⟨q0, by omega, fun j hj h => ?_⟩
          by_cases e : j = i
          · subst e
            omega
          · have := q2 j (by omega) h
            omega
theorem laws_szCellS_ev (l : List S91) (hl : l.length ≤ 9223372036854775807) (hk : ∀ c ∈ l, c.f0.size ≤ 9223372036854775807) (x : Int) (h0 : 0 ≤ x) (h1 : x ≤ 1048576) :
    ∃ r, Ev (fun k => laws_szCellS.f k l x) r ∧ (r = -1 ∨ (0 ≤ r ∧ r ≤ x ∧ CellsFit l x)) := by
  have e : wrap64 (x - (l.length : Int)) = x - (l.length : Int) := wrap_id (by omega) (by omega)
  by_cases hneg : x - (l.length : Int) < 0
  · refine ⟨-1, ?_, .inl rfl⟩
    unfold laws_szCellS.f
    simp only [e, hneg, ↓reduceIte]
    exact Ev.now _
  · obtain ⟨r, hr, hq⟩ := laws_szCellS_l0 l (by omega) hk l.length 0 (x - (l.length : Int)) (by omega) (by omega) (by omega)
    refine ⟨r, ?_, ?_⟩
    · unfold laws_szCellS.f
      simp only [e, hneg, ↓reduceIte]
      exact hr
    · rcases hq with hq | ⟨q0, q1, q2⟩
      · exact .inl hq
      · refine .inr ⟨q0, by omega, by omega, fun c hc => ?_⟩
        obtain ⟨j, hj, rfl⟩ := List.getElem_of_mem hc
        have := q2 j (by omega) hj
        omega
theorem laws_toCellS_l0 (l : List S91) (hl : l.length ≤ 1048576) (d : Nat) : ∀ i : Nat, i + d = l.length →
    Ev (fun k => laws_toCellS.l0 k l ((l.map cvCell).take i ++ List.replicate ((l.map cvCell).length - i) z92) (i : Int)) (l.map cvCell) := by
  have hm : (l.map cvCell).length = l.length := List.length_map ..
  induction d with
  | zero =>
    intro i hi
    obtain rfl : i = (l.map cvCell).length := by omega
    refine Ev.shift ?_
    simp only [laws_toCellS.l0, show ¬ ((l.map cvCell).length : Int) < (l.length : Int) from by omega, ↓reduceIte, fill_all]
    exact Ev.now _
  | succ d ih =>
    intro i hi
    have h := ih (i + 1) (by omega)
    have hil : i < l.length := by omega
    have him : i < (l.map cvCell).length := by omega
    refine Ev.shift ?_
    have c1 : (i : Int) < (l.length : Int) := by omega
    have c2 : (0 : Int) ≤ (i : Int) := by omega
    have c3 : (i : Int) < (((l.map cvCell).take i ++ List.replicate ((l.map cvCell).length - i) z92).length : Int) := by rw [fill_length _ _ i (by omega)]; omega
    have hup := int_up hil (by omega)
    have hset := fill_set (l.map cvCell) z92 i him
    rw [List.getElem_map] at hset
    simp only [laws_toCellS.l0, c1, c2, ↓reduceIte, rdLCell_nat l i hil, laws_toCell.f, Option.bind_some, c3, hup, Int.toNat_natCast]
    rw [show (⟨l[i].f0, l[i].f1⟩ : S92) = cvCell l[i] from rfl, hset]
    exact h
theorem laws_toCellS_ev (l : List S91) (hl : l.length ≤ 1048576) : Ev (fun k => laws_toCellS.f k l) (l.map cvCell) := by
  unfold laws_toCellS.f
  have c1 : (0 : Int) ≤ (l.length : Int) := by omega
  have c2 : l.length ≤ 11728124029610 := by omega
  simp only [c1, Int.toNat_natCast, c2, ↓reduceIte]
  have h := laws_toCellS_l0 l hl l.length 0 (by omega)
  rw [fill_none, List.length_map] at h
  exact h
theorem laws_eqCellS_l0 (l : List S92) (hl : l.length ≤ 9223372036854775807) (d : Nat) : ∀ i : Nat, i + d = l.length → Ev (fun k => laws_eqCellS.l0 k l l (i : Int)) true := by
  induction d with
  | zero =>
    intro i hi
    refine Ev.shift ?_
    simp only [laws_eqCellS.l0, show ¬ (i : Int) < (l.length : Int) from by omega, ↓reduceIte]
    exact Ev.now _
  | succ d ih =>
    intro i hi
    have h := ih (i + 1) (by omega)
    have hil : i < l.length := by omega
    refine Ev.shift ?_
    have c1 : (i : Int) < (l.length : Int) := by omega
    have c2 : (0 : Int) ≤ (i : Int) := by omega
    simp only [laws_eqCellS.l0, c1, c2, ↓reduceIte, laws_eqCell.f, Option.bind_some, int_up hil hl]
    exact h
theorem laws_eqCellS_ev (l : List S92) (hl : l.length ≤ 9223372036854775807) : Ev (fun k => laws_eqCellS.f k l l) true := by
  unfold laws_eqCellS.f
  simp only [↓reduceIte]
  exact laws_eqCellS_l0 l hl l.length 0 (by omega)
theorem cells_cases (l : List S91) (hl : l.length ≤ 9223372036854775807 ∧ ∀ c ∈ l, WF91 c) (x : Int) (h0 : 0 ≤ x) (h1 : x ≤ 1048576) :
    ∃ r, Ev (fun k => laws_szCellS.f k l x) r ∧ (r < 0 ∨ (¬ r < 0 ∧ r ≤ x ∧ 0 ≤ r ∧ l.length ≤ 1048576 ∧ Ev (fun k => laws_toCellS.f k l) (l.map cvCell) ∧
      Ev (fun k => laws_eqCellS.f k (l.map cvCell) (l.map cvCell)) true ∧ (l.map cvCell).length ≤ 1048576 ∧ ∀ c ∈ l.map cvCell, c.f0.size ≤ 1048576)) := by
  obtain ⟨r, hr, hq⟩ := laws_szCellS_ev l hl.1 (fun c hc => (hl.2 c hc).1) x h0 h1
  refine ⟨r, hr, ?_⟩
  rcases hq with rfl | ⟨q0, q1, q2, q3⟩
  · exact .inl (by decide)
  · have h2 : l.length ≤ 1048576 := by omega
    refine .inr ⟨by omega, q1, q0, h2, laws_toCellS_ev l h2, laws_eqCellS_ev _ (by rw [List.length_map]; omega), by rw [List.length_map]; omega, fun c hc => ?_⟩
    obtain ⟨a, ha, rfl⟩ := List.mem_map.1 hc
    show a.f0.size ≤ _
    have := q3 a ha
    omega

/-- One cell is right: its key, its number. -/
def cellB (c : S92) : Bool := keyB c.f0 && decide (0 ≤ c.f1 ∧ c.f1 ≤ 1000000000)
def keyLt (a b : ByteArray) : Bool := Op.bytesLess a.toList b.toList
/-- Cells from place i on are right, each above the one ahead. -/
def formB (l : List S92) : Nat → Nat → Bool
  | 0, _ => true
  | d + 1, i => cellB (rd_T92 l (i : Int)) && ((i == 0 || keyLt (rd_T92 l ((i - 1 : Nat) : Int)).f0 (rd_T92 l (i : Int)).f0) && formB l d (i + 1))
def cellsB (l : List S92) : Bool := decide ((l.length : Int) ≤ 12) && formB l l.length 0
theorem rdC_nat (l : List S92) (i : Nat) (h : i < l.length) : rd_T92 l (i : Int) = l[i] := getD_nat l _ i h

def cellTxt (c : S92) : ByteArray := (varS (c.f0.size : Int) ++ c.f0) ++ varS c.f1
def joinC (l : List S92) : Nat → Nat → ByteArray → ByteArray
  | 0, _, acc => acc
  | d + 1, i, acc => joinC l d (i + 1) (acc ++ cellTxt (rd_T92 l (i : Int)))
theorem formB_all (l : List S92) : ∀ (d i : Nat), formB l d i = true → ∀ j : Nat, i ≤ j → j < i + d → cellB (rd_T92 l (j : Int)) = true
  | 0, i, _, j, h1, h2 => by omega
  | d + 1, i, h, j, h1, h2 => by
    simp only [formB, Bool.and_eq_true] at h
    by_cases e : j = i
    · subst e
      exact h.1
    · exact formB_all l d (i + 1) h.2.2 j (by omega) (by omega)
theorem cellsB_all (l : List S92) (h : cellsB l = true) : l.length ≤ 12 ∧ ∀ j : Nat, j < l.length → 0 ≤ (rd_T92 l (j : Int)).f1 ∧ (rd_T92 l (j : Int)).f1 ≤ 1000000000 := by
  unfold cellsB at h
  rw [Bool.and_eq_true] at h
  refine ⟨by have := of_decide_eq_true h.1; omega, fun j hj => ?_⟩
  have := formB_all l _ 0 h.2 j (by omega) (by omega)
  unfold cellB at this
  rw [Bool.and_eq_true] at this
  exact of_decide_eq_true this.2

theorem spec_l01In_eq (a b c : Int) : spec_l01In.f a b c = some (decide (b ≤ a ∧ a ≤ c)) := by
  unfold spec_l01In.f
  by_cases h : a ≥ b
  · simp [h]
  · have h' : ¬ b ≤ a := by omega
    simp [h, h']

theorem spec_KeyOk_l0 (s : ByteArray) (hs : s.size ≤ 140737488351232) (d : Nat) : ∀ i : Nat, i + d = s.size → (∀ j : Nat, j < i → 97 ≤ bt s j ∧ bt s j ≤ 122) → Ev (fun k => spec_KeyOk.l0 k s (i : Int)) (keyB s) := by
  induction d with
  | zero =>
    intro i hi h
    obtain rfl : i = s.size := by omega
    refine Ev.shift ?_
    simp only [spec_KeyOk.l0, show ¬ (s.size : Int) < s.size from by omega, ↓reduceIte, spec_l01In_eq, Option.bind_some]
    rw [keyB_low h]
    exact Ev.now _
  | succ d ih =>
    intro i hi h
    refine Ev.shift ?_
    have h1 : (i : Int) < s.size := by omega
    have h4 : (0 : Int) ≤ i := by omega
    have h6 : wrap64 ((i : Int) + 1) = ((i + 1 : Nat) : Int) := by rw [wrap_id (by omega) (by omega)]; omega
    by_cases ha : bt s (i : Int) < 97
    · simp only [spec_KeyOk.l0, h1, h4, ha, ↓reduceIte]
      rw [keyB_not (i := i) (by omega) (by omega)]
      exact Ev.now _
    · by_cases hb : bt s (i : Int) > 122
      · simp only [spec_KeyOk.l0, h1, h4, ha, hb, ↓reduceIte]
        rw [keyB_not (i := i) (by omega) (by omega)]
        exact Ev.now _
      · simp only [spec_KeyOk.l0, h1, h4, ha, hb, h6, ↓reduceIte]
        refine ih (i + 1) (by omega) fun j hj => ?_
        by_cases he : j = i
        · subst he
          omega
        · exact h j (by omega)
theorem spec_KeyOk_ev (s : ByteArray) (hs : s.size ≤ 140737488351232) : Ev (fun k => spec_KeyOk.f k s) (keyB s) :=
  spec_KeyOk_l0 s hs s.size 0 (by omega) (fun j hj => by omega)

theorem spec_CellsOk_l0 (l : List S92) (hl : l.length ≤ 9223372036854775807) (hk : ∀ c ∈ l, c.f0.size ≤ 140737488351232) (d : Nat) : ∀ i : Nat, i + d = l.length →
    Ev (fun k => spec_CellsOk.l0 k l (i : Int)) (formB l d i && decide ((l.length : Int) ≤ 12)) := by
  induction d with
  | zero =>
    intro i hi
    refine Ev.shift ?_
    simp only [spec_CellsOk.l0, show ¬ (i : Int) < (l.length : Int) from by omega, ↓reduceIte, formB, Bool.true_and]
    exact Ev.now _
  | succ d ih =>
    intro i hi
    have hr := ih (i + 1) (by omega)
    have hil : i < l.length := by omega
    have c1 : (i : Int) < (l.length : Int) := by omega
    have c2 : (0 : Int) ≤ (i : Int) := by omega
    have hup := int_up hil hl
    have hs : (rd_T92 l (i : Int)).f0.size ≤ 140737488351232 := by rw [rdC_nat l i hil]; exact hk _ (List.getElem_mem hil)
    refine Ev.shift ?_
    simp only [spec_CellsOk.l0, c1, c2, ↓reduceIte, formB, cellB]
    refine Ev.bind (spec_KeyOk_ev _ hs) ?_
    by_cases k1 : keyB (rd_T92 l (i : Int)).f0 = true
    · by_cases k2 : 0 ≤ (rd_T92 l (i : Int)).f1 ∧ (rd_T92 l (i : Int)).f1 ≤ 1000000000
      · simp only [k1, spec_l01In_eq, decide_eq_true k2, Option.bind_some, ↓reduceIte, Bool.true_and]
        by_cases k3 : i = 0
        · subst k3
          simp only [show ¬ ((0 : Nat) : Int) > 0 from by decide, ↓reduceIte, beq_self_eq_true, Bool.true_or, Bool.true_and]
          rw [hup]
          exact hr
        · have c3 : (i : Int) > 0 := by clear hup; omega
          have m1 : -9223372036854775808 ≤ (i : Int) - 1 := by clear hup; omega
          have m2 : (i : Int) - 1 ≤ 9223372036854775807 := by clear hup; omega
          have m3 : (i : Int) - 1 = ((i - 1 : Nat) : Int) := by clear hup; omega
          have c4 : (0 : Int) ≤ ((i - 1 : Nat) : Int) := by clear hup; omega
          have c5 : ((i - 1 : Nat) : Int) < (l.length : Int) := by clear hup; omega
          have e1 : wrap64 ((i : Int) - 1) = ((i - 1 : Nat) : Int) := (wrap_id m1 m2).trans m3
          have e2 : (i == 0) = false := by simpa using k3
          simp only [c3, e1, c4, c5, ↓reduceIte, e2, Bool.false_or, keyLt]
          by_cases k4 : Op.bytesLess (rd_T92 l ((i - 1 : Nat) : Int)).f0.toList (rd_T92 l (i : Int)).f0.toList = true
          · simp only [k4, ↓reduceIte, Bool.true_and, hup]
            exact hr
          · simp only [Bool.not_eq_true] at k4
            simp only [k4, ↓reduceIte, Bool.false_and, Bool.false_eq_true]
            exact Ev.now _
      · simp only [k1, spec_l01In_eq, decide_eq_false k2, Option.bind_some, ↓reduceIte, Bool.true_and, Bool.false_and, Bool.false_eq_true]
        exact Ev.now _
    · simp only [Bool.not_eq_true] at k1
      simp only [k1, ↓reduceIte, Bool.false_and, Bool.false_eq_true]
      exact Ev.now _
theorem spec_CellsOk_ev (l : List S92) (hl : l.length ≤ 9223372036854775807) (hk : ∀ c ∈ l, c.f0.size ≤ 140737488351232) : Ev (fun k => spec_CellsOk.f k l) (cellsB l) := by
  have h := spec_CellsOk_l0 l hl hk l.length 0 (by omega)
  rw [Bool.and_comm] at h
  exact h

theorem spec_l01Var_l0 (d : Nat) : ∀ (n : Int) (acc : List Int), 0 ≤ n → n < lim d → n ≤ 9223372036854775807 → acc.length + d < 1000 →
    Ev (fun k => spec_l01Var.l0 k n acc) (strOfNums (acc ++ varL d n)) := by
  induction d with
  | zero =>
    intro n acc h0 h1 h2 hl
    refine Ev.shift ?_
    have hn : ¬ n > 127 := by simp only [lim] at h1; omega
    have hl' : acc.length < 140737488355328 := by omega
    simp only [spec_l01Var.l0, hn, hl', ↓reduceIte, varL]
    rw [show n % 256 = n from by omega]
    exact Ev.now _
  | succ d ih =>
    intro n acc h0 h1 h2 hl
    refine Ev.shift ?_
    have hl' : acc.length < 140737488355328 := by omega
    by_cases hn : n > 127
    · have e1 : wrap64 (Int.tdiv n 128) = n / 128 := by rw [tdiv_pos h0]; exact wrap_id (by omega) (by omega)
      have e2 : (wrap64 (Int.tmod n 128 + 128)) % 256 = n % 128 + 128 := by rw [tmod_pos h0, wrap_id (by omega) (by omega)]; omega
      simp only [spec_l01Var.l0, hn, hl', ↓reduceIte, varL, e1, e2]
      have h := ih (n / 128) (acc ++ [n % 128 + 128]) (by omega) (by simp only [lim] at h1; omega) (by omega) (by simp; omega)
      rw [List.append_assoc] at h
      exact h
    · simp only [spec_l01Var.l0, hn, hl', ↓reduceIte, varL]
      rw [show n % 256 = n from by omega]
      exact Ev.now _
theorem spec_l01Var_ev {n : Int} (h0 : 0 ≤ n) (h1 : n ≤ 9223372036854775807) : Ev (fun k => spec_l01Var.f k n) (varS n) := by
  have h := spec_l01Var_l0 9 n [] h0 (by have := lim9; omega) h1 (by simp)
  exact h

theorem spec_CellsText_l0 (l : List S92) (hl : l.length ≤ 12) (hk : ∀ c ∈ l, c.f0.size ≤ 1048576) (hn : ∀ j : Nat, j < l.length → 0 ≤ (rd_T92 l (j : Int)).f1 ∧ (rd_T92 l (j : Int)).f1 ≤ 1000000000)
    (d : Nat) : ∀ (i : Nat) (acc : ByteArray), i + d = l.length → acc.size ≤ i * 1048600 → Ev (fun k => spec_CellsText.l0 k l acc (i : Int)) (joinC l d i acc) := by
  induction d with
  | zero =>
    intro i acc hi hz
    refine Ev.shift ?_
    simp only [spec_CellsText.l0, show ¬ (i : Int) < (l.length : Int) from by omega, ↓reduceIte, joinC]
    exact Ev.now _
  | succ d ih =>
    intro i acc hi hz
    have hil : i < l.length := by omega
    have c1 : (i : Int) < (l.length : Int) := by omega
    have c2 : (0 : Int) ≤ (i : Int) := by omega
    have hup := int_up hil (by omega)
    have hs : (rd_T92 l (i : Int)).f0.size ≤ 1048576 := by rw [rdC_nat l i hil]; exact hk _ (List.getElem_mem hil)
    obtain ⟨n1, n2⟩ := hn i hil
    have hr := ih (i + 1) (acc ++ cellTxt (rd_T92 l (i : Int))) (by omega)
    have e : joinC l (d + 1) i acc = joinC l d (i + 1) (acc ++ cellTxt (rd_T92 l (i : Int))) := rfl
    rw [e]
    clear e
    obtain ⟨c, hc⟩ : ∃ c, rd_T92 l (i : Int) = c := ⟨_, rfl⟩
    rw [hc] at hs n1 n2 hr ⊢
    have za := varS_size (c.f0.size : Int)
    have zb := varS_size c.f1
    have zt : (cellTxt c).size ≤ 1048600 := by unfold cellTxt; rw [ByteArray.size_append, ByteArray.size_append]; omega
    have z1 : acc.size + (varS (c.f0.size : Int)).size ≤ 9223372036854775807 := by omega
    have z2 : (acc ++ varS (c.f0.size : Int)).size + c.f0.size ≤ 9223372036854775807 := by rw [ByteArray.size_append]; omega
    have z3 : ((acc ++ varS (c.f0.size : Int)) ++ c.f0).size + (varS c.f1).size ≤ 9223372036854775807 := by rw [ByteArray.size_append, ByteArray.size_append]; omega
    have hr := hr (by rw [ByteArray.size_append]; omega)
    have v1 := spec_l01Var_ev (n := (c.f0.size : Int)) (by omega) (by omega)
    have v2 := spec_l01Var_ev (n := c.f1) n1 (by omega)
    refine Ev.shift ?_
    simp only [spec_CellsText.l0, c1, c2, hc, hup, ↓reduceIte]
    refine Ev.bind v1 ?_
    simp only [z1, z2, ↓reduceIte]
    refine Ev.bind v2 ?_
    simp only [z3, ↓reduceIte]
    have e : ((acc ++ varS (c.f0.size : Int)) ++ c.f0) ++ varS c.f1 = acc ++ cellTxt c := by unfold cellTxt; simp only [ByteArray.append_assoc]
    rw [e]
    exact hr
theorem spec_CellsText_ev (l : List S92) (hl : l.length ≤ 9223372036854775807) (hk : ∀ c ∈ l, c.f0.size ≤ 1048576) : Ev (fun k => spec_CellsText.f k l) (if cellsB l = true then joinC l l.length 0 ⟨#[]⟩ else ⟨#[]⟩) := by
  have h1 := spec_CellsOk_ev l hl (fun c hc => Nat.le_trans (hk c hc) (by decide))
  unfold spec_CellsText.f
  refine Ev.bind h1 ?_
  by_cases h : cellsB l = true
  · simp only [h, ↓reduceIte]
    have ⟨a, b⟩ := cellsB_all l h
    exact spec_CellsText_l0 l a hk b l.length 0 ⟨#[]⟩ (by omega) (by decide)
  · simp only [h, ↓reduceIte]
    exact Ev.now _

theorem impl_in_eq (a b c : Int) : impl_in.f a b c = some (decide (b ≤ a ∧ a ≤ c)) := by
  unfold impl_in.f
  by_cases h : a ≥ b
  · simp [h]
  · have h' : ¬ b ≤ a := by omega
    simp [h, h']

theorem impl_KeyOk_l0 (s : ByteArray) (hs : s.size ≤ 140737488351232) (d : Nat) : ∀ i : Nat, i + d = s.size → (∀ j : Nat, j < i → 97 ≤ bt s j ∧ bt s j ≤ 122) → Ev (fun k => impl_KeyOk.l0 k s (s.size : Int) (i : Int)) (keyB s) := by
  induction d with
  | zero =>
    intro i hi h
    obtain rfl : i = s.size := by omega
    refine Ev.shift ?_
    simp only [impl_KeyOk.l0, show ¬ (s.size : Int) < s.size from by omega, ↓reduceIte, impl_in_eq, Option.bind_some]
    rw [keyB_low h]
    exact Ev.now _
  | succ d ih =>
    intro i hi h
    refine Ev.shift ?_
    have h1 : (i : Int) < s.size := by omega
    have h4 : (0 : Int) ≤ i := by omega
    have h6 : wrap64 ((i : Int) + 1) = ((i + 1 : Nat) : Int) := by rw [wrap_id (by omega) (by omega)]; omega
    by_cases ha : bt s (i : Int) < 97
    · simp only [impl_KeyOk.l0, h1, h4, ha, ↓reduceIte]
      rw [keyB_not (i := i) (by omega) (by omega)]
      exact Ev.now _
    · by_cases hb : bt s (i : Int) > 122
      · simp only [impl_KeyOk.l0, h1, h4, ha, hb, ↓reduceIte]
        rw [keyB_not (i := i) (by omega) (by omega)]
        exact Ev.now _
      · simp only [impl_KeyOk.l0, h1, h4, ha, hb, h6, ↓reduceIte]
        refine ih (i + 1) (by omega) fun j hj => ?_
        by_cases he : j = i
        · subst he
          omega
        · exact h j (by omega)
theorem impl_KeyOk_ev (s : ByteArray) (hs : s.size ≤ 140737488351232) : Ev (fun k => impl_KeyOk.f k s) (keyB s) :=
  impl_KeyOk_l0 s hs s.size 0 (by omega) (fun j hj => by omega)

theorem impl_isNum_eq (n : Int) : impl_isNum.f n = some (decide (0 ≤ n ∧ n ≤ 1000000000)) := by
  unfold impl_isNum.f
  rw [impl_in_eq]
  rfl

theorem impl_cellsForm_l0 (l : List S92) (hl : l.length ≤ 9223372036854775807) (hk : ∀ c ∈ l, c.f0.size ≤ 140737488351232) (d : Nat) : ∀ i : Nat, i + d = l.length →
    Ev (fun k => impl_cellsForm.l0 k l l (l.length : Int) (i : Int)) (formB l d i) := by
  induction d with
  | zero =>
    intro i hi
    refine Ev.shift ?_
    simp only [impl_cellsForm.l0, show ¬ (i : Int) < (l.length : Int) from by omega, ↓reduceIte, formB, Bool.true_and]
    exact Ev.now _
  | succ d ih =>
    intro i hi
    have hr := ih (i + 1) (by omega)
    have hil : i < l.length := by omega
    have c1 : (i : Int) < (l.length : Int) := by omega
    have c2 : (0 : Int) ≤ (i : Int) := by omega
    have hup := int_up hil hl
    have hs : (rd_T92 l (i : Int)).f0.size ≤ 140737488351232 := by rw [rdC_nat l i hil]; exact hk _ (List.getElem_mem hil)
    refine Ev.shift ?_
    simp only [impl_cellsForm.l0, c1, c2, ↓reduceIte, formB, cellB]
    refine Ev.bind (impl_KeyOk_ev _ hs) ?_
    by_cases k1 : keyB (rd_T92 l (i : Int)).f0 = true
    · by_cases k2 : 0 ≤ (rd_T92 l (i : Int)).f1 ∧ (rd_T92 l (i : Int)).f1 ≤ 1000000000
      · simp only [k1, impl_isNum_eq, decide_eq_true k2, Option.bind_some, ↓reduceIte, Bool.true_and]
        by_cases k3 : i = 0
        · subst k3
          simp only [show ¬ ((0 : Nat) : Int) > 0 from by decide, ↓reduceIte, beq_self_eq_true, Bool.true_or, Bool.true_and]
          rw [hup]
          exact hr
        · have c3 : (i : Int) > 0 := by clear hup; omega
          have m1 : -9223372036854775808 ≤ (i : Int) - 1 := by clear hup; omega
          have m2 : (i : Int) - 1 ≤ 9223372036854775807 := by clear hup; omega
          have m3 : (i : Int) - 1 = ((i - 1 : Nat) : Int) := by clear hup; omega
          have c4 : (0 : Int) ≤ ((i - 1 : Nat) : Int) := by clear hup; omega
          have c5 : ((i - 1 : Nat) : Int) < (l.length : Int) := by clear hup; omega
          have e1 : wrap64 ((i : Int) - 1) = ((i - 1 : Nat) : Int) := (wrap_id m1 m2).trans m3
          have e2 : (i == 0) = false := by simpa using k3
          simp only [c3, e1, c4, c5, ↓reduceIte, e2, Bool.false_or, keyLt]
          by_cases k4 : Op.bytesLess (rd_T92 l ((i - 1 : Nat) : Int)).f0.toList (rd_T92 l (i : Int)).f0.toList = true
          · simp only [k4, ↓reduceIte, Bool.true_and, hup]
            exact hr
          · simp only [Bool.not_eq_true] at k4
            simp only [k4, ↓reduceIte, Bool.false_and, Bool.false_eq_true]
            exact Ev.now _
      · simp only [k1, impl_isNum_eq, decide_eq_false k2, Option.bind_some, ↓reduceIte, Bool.true_and, Bool.false_and, Bool.false_eq_true]
        exact Ev.now _
    · simp only [Bool.not_eq_true] at k1
      simp only [k1, ↓reduceIte, Bool.false_and, Bool.false_eq_true]
      exact Ev.now _
theorem impl_CellsOk_ev (l : List S92) (hl : l.length ≤ 9223372036854775807) (hk : ∀ c ∈ l, c.f0.size ≤ 140737488351232) : Ev (fun k => impl_CellsOk.f k l) (cellsB l) := by
  unfold impl_CellsOk.f cellsB
  by_cases h : (l.length : Int) ≤ 12
  · simp only [h, decide_true, ↓reduceIte, Bool.true_and]
    exact Ev.bind (impl_cellsForm_l0 l hl hk l.length 0 (by omega)) (Ev.now _)
  · simp only [h, decide_false, ↓reduceIte, Bool.false_and]
    exact Ev.now _

theorem impl_varText_l0 (d : Nat) : ∀ (n : Int) (acc : List Int), 0 ≤ n → n < lim d → n ≤ 9223372036854775807 → acc.length + d < 1000 →
    Ev (fun k => impl_varText.l0 k n acc) (strOfNums (acc ++ varL d n)) := by
  induction d with
  | zero =>
    intro n acc h0 h1 h2 hl
    refine Ev.shift ?_
    have hn : ¬ n > 127 := by simp only [lim] at h1; omega
    have hl' : acc.length < 140737488355328 := by omega
    simp only [impl_varText.l0, hn, hl', ↓reduceIte, varL]
    rw [show n % 256 = n from by omega]
    exact Ev.now _
  | succ d ih =>
    intro n acc h0 h1 h2 hl
    refine Ev.shift ?_
    have hl' : acc.length < 140737488355328 := by omega
    by_cases hn : n > 127
    · have e2 : (Go.bits .or .i64 (Go.bits .and .i64 n 127) 128) % 256 = n % 128 + 128 := by rw [and127_i64 h0 h2, or128_i64 (by omega) (by omega)]; omega
      simp only [impl_varText.l0, hn, hl', ↓reduceIte, varL, e2]
      have h := ih (n / 128) (acc ++ [n % 128 + 128]) (by omega) (by simp only [lim] at h1; omega) (by omega) (by simp; omega)
      rw [List.append_assoc] at h
      exact h
    · simp only [impl_varText.l0, hn, hl', ↓reduceIte, varL]
      rw [show n % 256 = n from by omega]
      exact Ev.now _
theorem impl_varText_ev {n : Int} (h0 : 0 ≤ n) (h1 : n ≤ 9223372036854775807) : Ev (fun k => impl_varText.f k n) (varS n) := by
  have h := impl_varText_l0 9 n [] h0 (by have := lim9; omega) h1 (by simp)
  exact h

theorem impl_CellsText_l0 (l : List S92) (hl : l.length ≤ 12) (hk : ∀ c ∈ l, c.f0.size ≤ 1048576) (hn : ∀ j : Nat, j < l.length → 0 ≤ (rd_T92 l (j : Int)).f1 ∧ (rd_T92 l (j : Int)).f1 ≤ 1000000000)
    (d : Nat) : ∀ (i : Nat) (acc : ByteArray), i + d = l.length → acc.size ≤ i * 1048600 → Ev (fun k => impl_CellsText.l0 k acc l (l.length : Int) (i : Int)) (joinC l d i acc) := by
  induction d with
  | zero =>
    intro i acc hi hz
    refine Ev.shift ?_
    simp only [impl_CellsText.l0, show ¬ (i : Int) < (l.length : Int) from by omega, ↓reduceIte, joinC]
    exact Ev.now _
  | succ d ih =>
    intro i acc hi hz
    have hil : i < l.length := by omega
    have c1 : (i : Int) < (l.length : Int) := by omega
    have c2 : (0 : Int) ≤ (i : Int) := by omega
    have hup := int_up hil (by omega)
    have hs : (rd_T92 l (i : Int)).f0.size ≤ 1048576 := by rw [rdC_nat l i hil]; exact hk _ (List.getElem_mem hil)
    obtain ⟨n1, n2⟩ := hn i hil
    have hr := ih (i + 1) (acc ++ cellTxt (rd_T92 l (i : Int))) (by omega)
    have e : joinC l (d + 1) i acc = joinC l d (i + 1) (acc ++ cellTxt (rd_T92 l (i : Int))) := rfl
    rw [e]
    clear e
    obtain ⟨c, hc⟩ : ∃ c, rd_T92 l (i : Int) = c := ⟨_, rfl⟩
    rw [hc] at hs n1 n2 hr ⊢
    have za := varS_size (c.f0.size : Int)
    have zb := varS_size c.f1
    have zt : (cellTxt c).size ≤ 1048600 := by unfold cellTxt; rw [ByteArray.size_append, ByteArray.size_append]; omega
    have z0 : (varS (c.f0.size : Int)).size + c.f0.size ≤ 9223372036854775807 := by omega
    have z1 : (varS (c.f0.size : Int) ++ c.f0).size + (varS c.f1).size ≤ 9223372036854775807 := by rw [ByteArray.size_append]; omega
    have z2 : acc.size + ((varS (c.f0.size : Int) ++ c.f0) ++ varS c.f1).size ≤ 9223372036854775807 := by have := zt; unfold cellTxt at this; omega
    have hr := hr (by rw [ByteArray.size_append]; omega)
    have v1 := impl_varText_ev (n := (c.f0.size : Int)) (by omega) (by omega)
    have v2 := impl_varText_ev (n := c.f1) n1 (by omega)
    have v3 : Ev (fun k => impl_shortOf.f k c.f0) (varS (c.f0.size : Int) ++ c.f0) := by
      unfold impl_shortOf.f
      refine Ev.bind v1 ?_
      simp only [z0, ↓reduceIte]
      exact Ev.now _
    refine Ev.shift ?_
    simp only [impl_CellsText.l0, c1, c2, hc, hup, ↓reduceIte]
    refine Ev.bind v3 (Ev.bind v2 ?_)
    simp only [z1, z2, ↓reduceIte]
    exact hr
theorem impl_CellsText_ev (l : List S92) (hl : l.length ≤ 9223372036854775807) (hk : ∀ c ∈ l, c.f0.size ≤ 1048576) : Ev (fun k => impl_CellsText.f k l) (if cellsB l = true then joinC l l.length 0 ⟨#[]⟩ else ⟨#[]⟩) := by
  have h1 := impl_CellsOk_ev l hl (fun c hc => Nat.le_trans (hk c hc) (by decide))
  unfold impl_CellsText.f
  refine Ev.bind h1 ?_
  by_cases h : cellsB l = true
  · simp only [h, ↓reduceIte]
    have ⟨a, b⟩ := cellsB_all l h
    exact impl_CellsText_l0 l a hk b l.length 0 ⟨#[]⟩ (by omega) (by decide)
  · simp only [h, ↓reduceIte]
    exact Ev.now _

theorem FnExactCellsText : laws_FnExactCellsText.Pure := by
  intro l hl
  obtain ⟨r, hr, hq⟩ := cells_cases l hl 1048576 (by decide) (by decide)
  refine Ev.rounds ?_
  unfold laws_FnExactCellsText.f
  refine Ev.bind hr ?_
  rcases hq with hq | ⟨hq, _, _, h1, ht, he, hm, hk⟩
  · simp only [hq, ↓reduceIte]
    exact Ev.now _
  · simp only [hq, ↓reduceIte]
    refine Ev.bind ht (Ev.bind (spec_CellsText_ev _ (by omega) hk) (Ev.bind ht (Ev.bind (impl_CellsText_ev _ (by omega) hk) ?_)))
    simp only [↓reduceIte]
    refine Ev.bind ht (Ev.bind he ?_)
    simp only [↓reduceIte]
    exact Ev.now _

end Go.Proofs.Ytngppcfnaeceoaa.Pure
