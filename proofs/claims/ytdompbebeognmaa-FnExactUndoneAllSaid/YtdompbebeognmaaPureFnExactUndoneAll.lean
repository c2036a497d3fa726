/- For every input that the statement reads, the law FnExactUndoneAll of the given program returns true and leaves its arguments as they were. Conditions: none but the statement's own. -/
import Derived.Test.YtdompbebeognmaaStmFnExactUndoneAll
import Derived.Test.YtdompbebeognmaaTaLib
import Derived.Test.YtdompbebeognmaaTaLibList
import Derived.Test.YtdompbebeognmaaTaLibText
set_option linter.unusedVariables false
set_option linter.unusedSimpArgs false
namespace Go.Proofs.Ytdompbebeognmaa.Pure
open Go.RowKit Go.Proofs.Ytdompbebeognmaa.QFnExactUndoneAll Go.Proofs.YtdompbebeognmaaW.PrintWords Go.Proofs.YtdompbebeognmaaW.PrintLast Go.Proofs.YtdompbebeognmaaW.PrintMore Go.Proofs.Ytdompbebeognmaa.Lib

def cvCell (x : S91) : S92 := ⟨x.f0, x.f1⟩
theorem rdLCell_nat (l : List S91) (i : Nat) (h : i < l.length) : rd_T91 l (i : Int) = l[i] := getD_nat l _ i h
theorem rdCell_nat (l : List S92) (i : Nat) (h : i < l.length) : rd_T92 l (i : Int) = l[i] := getD_nat l _ i h
theorem laws_szCell_eq (s : ByteArray) (b x : Int) (hs : s.size ≤ 9223372036854775807) (h0 : 0 ≤ x) (h1 : x ≤ 1048576) :
    laws_szCell.f s b x = some (if x - (s.size : Int) < 0 then -1 else x - (s.size : Int)) := by
  unfold laws_szCell.f
  rw [wrap_id (by omega) (by omega)]
  split <;> rfl
def CellsFit (l : List S91) (x : Int) : Prop := (l.length : Int) ≤ x ∧ ∀ c ∈ l, (c.f0.size : Int) ≤ x
theorem laws_szCellS_l0 (l : List S91) (hl : l.length ≤ 1048576) (hk : ∀ c ∈ l, c.f0.size ≤ 9223372036854775807) (d : Nat) : ∀ (i : Nat) (x : Int), i + d = l.length → 0 ≤ x → x ≤ 1048576 →
    ∃ r, Ev (fun k => laws_szCellS.l0 k l x (i : Int)) r ∧ (r = -1 ∨ (0 ≤ r ∧ r ≤ x ∧ ∀ j : Nat, i ≤ j → ∀ h : j < l.length, ((l[j]).f0.size : Int) ≤ x)) := by
  induction d with
  | zero =>
    intro i x hi h0 h1
    refine ⟨x, Ev.shift ?_, .inr ⟨h0, Int.le_refl _, fun j hj h => by omega⟩⟩
    simp only [laws_szCellS.l0, show ¬ (i : Int) < (l.length : Int) from by omega, ↓reduceIte]
    exact Ev.now _
  | succ d ih =>
    intro i x hi h0 h1
    have hil : i < l.length := by omega
    have c1 : (i : Int) < (l.length : Int) := by omega
    have c2 : (0 : Int) ≤ (i : Int) := by omega
    have hup := int_up hil (by omega)
    have hz := laws_szCell_eq l[i].f0 l[i].f1 x (hk _ (List.getElem_mem hil)) h0 h1
    by_cases hneg : x - (l[i].f0.size : Int) < 0
    · refine ⟨-1, Ev.shift ?_, .inl rfl⟩
      rw [if_pos hneg] at hz
      simp only [laws_szCellS.l0, c1, c2, rdLCell_nat l i hil, hz, Option.bind_some, ↓reduceIte, show ((-1 : Int) < 0) = True from eq_true (by decide)]
      exact Ev.now _
    · obtain ⟨r, hr, hq⟩ := ih (i + 1) (x - (l[i].f0.size : Int)) (by omega) (by omega) (by omega)
      refine ⟨r, Ev.shift ?_, ?_⟩
      · rw [if_neg hneg] at hz
        simp only [laws_szCellS.l0, c1, c2, rdLCell_nat l i hil, hz, Option.bind_some, ↓reduceIte, hneg, hup]
        exact hr
      · rcases hq with hq | ⟨q0, q1, q2⟩
        · exact .inl hq
        · refine .inr ⟨q0, by omega, fun j hj h => ?_⟩
          by_cases e : j = i
          · subst e
            omega
          · have := q2 j (by omega) h
            omega
theorem laws_szCellS_ev (l : List S91) (hl : l.length ≤ 9223372036854775807) (hk : ∀ c ∈ l, c.f0.size ≤ 9223372036854775807) (x : Int) (h0 : 0 ≤ x) (h1 : x ≤ 1048576) :
    ∃ r, Ev (fun k => laws_szCellS.f k l x) r ∧ (r = -1 ∨ (0 ≤ r ∧ r ≤ x ∧ CellsFit l x)) := by
  have e : wrap64 (x - (l.length : Int)) = x - (l.length : Int) := wrap_id (by omega) (by omega)
  by_cases hneg : x - (l.length : Int) < 0
  · refine ⟨-1, ?_, .inl rfl⟩
    unfold laws_szCellS.f
    simp only [e, hneg, ↓reduceIte]
    exact Ev.now _
  · obtain ⟨r, hr, hq⟩ := laws_szCellS_l0 l (by omega) hk l.length 0 (x - (l.length : Int)) (by omega) (by omega) (by omega)
    refine ⟨r, ?_, ?_⟩
    · unfold laws_szCellS.f
      simp only [e, hneg, ↓reduceIte]
      exact hr
    · rcases hq with hq | ⟨q0, q1, q2⟩
      · exact .inl hq
      · refine .inr ⟨q0, by omega, by omega, fun c hc => ?_⟩
        obtain ⟨j, hj, rfl⟩ := List.getElem_of_mem hc
        have := q2 j (by omega) hj
        omega
theorem laws_toCellS_l0 (l : List S91) (hl : l.length ≤ 1048576) (d : Nat) : ∀ i : Nat, i + d = l.length →
    Ev (fun k => laws_toCellS.l0 k l ((l.map cvCell).take i ++ List.replicate ((l.map cvCell).length - i) z92) (i : Int)) (l.map cvCell) := by
  have hm : (l.map cvCell).length = l.length := List.length_map ..
  induction d with
  | zero =>
    intro i hi
    obtain rfl : i = (l.map cvCell).length := by omega
    refine Ev.shift ?_
    simp only [laws_toCellS.l0, show ¬ ((l.map cvCell).length : Int) < (l.length : Int) from by omega, ↓reduceIte, fill_all]
    exact Ev.now _
  | succ d ih =>
    intro i hi
    have h := ih (i + 1) (by omega)
    have hil : i < l.length := by omega
    have him : i < (l.map cvCell).length := by omega
    refine Ev.shift ?_
    have c1 : (i : Int) < (l.length : Int) := by omega
    have c2 : (0 : Int) ≤ (i : Int) := by omega
    have c3 : (i : Int) < (((l.map cvCell).take i ++ List.replicate ((l.map cvCell).length - i) z92).length : Int) := by rw [fill_length _ _ i (by omega)]; omega
    have hup := int_up hil (by omega)
    have hset := fill_set (l.map cvCell) z92 i him
    rw [List.getElem_map] at hset
    simp only [laws_toCellS.l0, c1, c2, ↓reduceIte, rdLCell_nat l i hil, laws_toCell.f, Option.bind_some, c3, hup, Int.toNat_natCast]
    rw [show (⟨l[i].f0, l[i].f1⟩ : S92) = cvCell l[i] from rfl, hset]
    exact h
theorem laws_toCellS_ev (l : List S91) (hl : l.length ≤ 1048576) : Ev (fun k => laws_toCellS.f k l) (l.map cvCell) := by
  unfold laws_toCellS.f
  have c1 : (0 : Int) ≤ (l.length : Int) := by omega
  have c2 : l.length ≤ 11728124029610 := by omega
  simp only [c1, Int.toNat_natCast, c2, ↓reduceIte]
  have h := laws_toCellS_l0 l hl l.length 0 (by omega)
  rw [fill_none, List.length_map] at h
  exact h
theorem laws_eqCellS_l0 (l : List S92) (hl : l.length ≤ 9223372036854775807) (d : Nat) : ∀ i : Nat, i + d = l.length → Ev (fun k => laws_eqCellS.l0 k l l (i : Int)) true := by
  induction d with
  | zero =>
    intro i hi
    refine Ev.shift ?_
    simp only [laws_eqCellS.l0, show ¬ (i : Int) < (l.length : Int) from by omega, ↓reduceIte]
    exact Ev.now _
  | succ d ih =>
    intro i hi
    have h := ih (i + 1) (by omega)
    have hil : i < l.length := by omega
    refine Ev.shift ?_
    have c1 : (i : Int) < (l.length : Int) := by omega
    have c2 : (0 : Int) ≤ (i : Int) := by omega
    simp only [laws_eqCellS.l0, c1, c2, ↓reduceIte, laws_eqCell.f, Option.bind_some, int_up hil hl]
    exact h
theorem laws_eqCellS_ev (l : List S92) (hl : l.length ≤ 9223372036854775807) : Ev (fun k => laws_eqCellS.f k l l) true := by
  unfold laws_eqCellS.f
  simp only [↓reduceIte]
  exact laws_eqCellS_l0 l hl l.length 0 (by omega)
theorem cells_cases (l : List S91) (hl : l.length ≤ 9223372036854775807 ∧ ∀ c ∈ l, WF91 c) (x : Int) (h0 : 0 ≤ x) (h1 : x ≤ 1048576) :
    ∃ r, Ev (fun k => laws_szCellS.f k l x) r ∧ (r < 0 ∨ (¬ r < 0 ∧ r ≤ x ∧ 0 ≤ r ∧ l.length ≤ 1048576 ∧ Ev (fun k => laws_toCellS.f k l) (l.map cvCell) ∧
      Ev (fun k => laws_eqCellS.f k (l.map cvCell) (l.map cvCell)) true ∧ (l.map cvCell).length ≤ 1048576 ∧ ∀ c ∈ l.map cvCell, c.f0.size ≤ 1048576)) := by
  obtain ⟨r, hr, hq⟩ := laws_szCellS_ev l hl.1 (fun c hc => (hl.2 c hc).1) x h0 h1
  refine ⟨r, hr, ?_⟩
  rcases hq with rfl | ⟨q0, q1, q2, q3⟩
  · exact .inl (by decide)
  · have h2 : l.length ≤ 1048576 := by omega
    refine .inr ⟨by omega, q1, q0, h2, laws_toCellS_ev l h2, laws_eqCellS_ev _ (by rw [List.length_map]; omega), by rw [List.length_map]; omega, fun c hc => ?_⟩
    obtain ⟨a, ha, rfl⟩ := List.mem_map.1 hc
    show a.f0.size ≤ _
    have := q3 a ha
    omega

def cvUndo (x : S56) : S32 := ⟨x.f0, x.f1, x.f2⟩
theorem rdLUndo_nat (l : List S56) (i : Nat) (h : i < l.length) : rd_T56 l (i : Int) = l[i] := getD_nat l _ i h
theorem rdUndo_nat (l : List S32) (i : Nat) (h : i < l.length) : rd_T32 l (i : Int) = l[i] := getD_nat l _ i h
theorem laws_szUndo_eq (s : ByteArray) (b : Bool) (n x : Int) (hs : s.size ≤ 9223372036854775807) (h0 : 0 ≤ x) (h1 : x ≤ 1048576) :
    laws_szUndo.f s b n x = some (if x - (s.size : Int) < 0 then -1 else x - (s.size : Int)) := by
  unfold laws_szUndo.f
  rw [wrap_id (by omega) (by omega)]
  split <;> rfl
/-- What is left when a row of commands is counted. -/
def UndosFit (l : List S56) (x : Int) : Prop := (l.length : Int) ≤ x ∧ ∀ c ∈ l, (c.f0.size : Int) ≤ x
theorem laws_szUndoS_l0 (l : List S56) (hl : l.length ≤ 1048576) (hk : ∀ c ∈ l, c.f0.size ≤ 9223372036854775807) (d : Nat) : ∀ (i : Nat) (x : Int), i + d = l.length → 0 ≤ x → x ≤ 1048576 →
    ∃ r, Ev (fun k => laws_szUndoS.l0 k l x (i : Int)) r ∧ (r = -1 ∨ (0 ≤ r ∧ r ≤ x ∧ ∀ j : Nat, i ≤ j → ∀ h : j < l.length, ((l[j]).f0.size : Int) ≤ x)) := by
  induction d with
  | zero =>
    intro i x hi h0 h1
    refine ⟨x, Ev.shift ?_, .inr ⟨h0, Int.le_refl _, fun j hj h => by omega⟩⟩
    simp only [laws_szUndoS.l0, show ¬ (i : Int) < (l.length : Int) from by omega, ↓reduceIte]
    exact Ev.now _
  | succ d ih =>
    intro i x hi h0 h1
    have hil : i < l.length := by omega
    have c1 : (i : Int) < (l.length : Int) := by omega
    have c2 : (0 : Int) ≤ (i : Int) := by omega
    have hup := int_up hil (by omega)
    have hz := laws_szUndo_eq l[i].f0 l[i].f1 l[i].f2 x (hk _ (List.getElem_mem hil)) h0 h1
    by_cases hneg : x - (l[i].f0.size : Int) < 0
    · refine ⟨-1, Ev.shift ?_, .inl rfl⟩
      rw [if_pos hneg] at hz
      simp only [laws_szUndoS.l0, c1, c2, rdLUndo_nat l i hil, hz, Option.bind_some, ↓reduceIte, show ((-1 : Int) < 0) = True from eq_true (by decide)]
      exact Ev.now _
    · obtain ⟨r, hr, hq⟩ := ih (i + 1) (x - (l[i].f0.size : Int)) (by omega) (by omega) (by omega)
      refine ⟨r, Ev.shift ?_, ?_⟩
      · rw [if_neg hneg] at hz
        simp only [laws_szUndoS.l0, c1, c2, rdLUndo_nat l i hil, hz, Option.bind_some, ↓reduceIte, hneg, hup]
        exact hr
      · rcases hq with hq | ⟨q0, q1, q2⟩
        · exact .inl hq
        · refine .inr ⟨q0, by omega, fun j hj h => ?_⟩
          by_cases e : j = i
          · subst e
            omega
          · have := q2 j (by omega) h
            omega
theorem laws_szUndoS_ev (l : List S56) (hl : l.length ≤ 9223372036854775807) (hk : ∀ c ∈ l, c.f0.size ≤ 9223372036854775807) (x : Int) (h0 : 0 ≤ x) (h1 : x ≤ 1048576) :
    ∃ r, Ev (fun k => laws_szUndoS.f k l x) r ∧ (r = -1 ∨ (0 ≤ r ∧ r ≤ x ∧ UndosFit l x)) := by
  have e : wrap64 (x - (l.length : Int)) = x - (l.length : Int) := wrap_id (by omega) (by omega)
  by_cases hneg : x - (l.length : Int) < 0
  · refine ⟨-1, ?_, .inl rfl⟩
    unfold laws_szUndoS.f
    simp only [e, hneg, ↓reduceIte]
    exact Ev.now _
  · obtain ⟨r, hr, hq⟩ := laws_szUndoS_l0 l (by omega) hk l.length 0 (x - (l.length : Int)) (by omega) (by omega) (by omega)
    refine ⟨r, ?_, ?_⟩
    · unfold laws_szUndoS.f
      simp only [e, hneg, ↓reduceIte]
      exact hr
    · rcases hq with hq | ⟨q0, q1, q2⟩
      · exact .inl hq
      · refine .inr ⟨q0, by omega, by omega, fun c hc => ?_⟩
        obtain ⟨j, hj, rfl⟩ := List.getElem_of_mem hc
        have := q2 j (by omega) hj
        omega
theorem laws_toUndoS_l0 (l : List S56) (hl : l.length ≤ 1048576) (d : Nat) : ∀ i : Nat, i + d = l.length →
    Ev (fun k => laws_toUndoS.l0 k l ((l.map cvUndo).take i ++ List.replicate ((l.map cvUndo).length - i) z32) (i : Int)) (l.map cvUndo) := by
  have hm : (l.map cvUndo).length = l.length := List.length_map ..
  induction d with
  | zero =>
    intro i hi
    obtain rfl : i = (l.map cvUndo).length := by omega
    refine Ev.shift ?_
    simp only [laws_toUndoS.l0, show ¬ ((l.map cvUndo).length : Int) < (l.length : Int) from by omega, ↓reduceIte, fill_all]
    exact Ev.now _
  | succ d ih =>
    intro i hi
    have h := ih (i + 1) (by omega)
    have hil : i < l.length := by omega
    have him : i < (l.map cvUndo).length := by omega
    refine Ev.shift ?_
    have c1 : (i : Int) < (l.length : Int) := by omega
    have c2 : (0 : Int) ≤ (i : Int) := by omega
    have c3 : (i : Int) < (((l.map cvUndo).take i ++ List.replicate ((l.map cvUndo).length - i) z32).length : Int) := by rw [fill_length _ _ i (by omega)]; omega
    have hup := int_up hil (by omega)
    have hset := fill_set (l.map cvUndo) z32 i him
    rw [List.getElem_map] at hset
    simp only [laws_toUndoS.l0, c1, c2, ↓reduceIte, rdLUndo_nat l i hil, laws_toUndo.f, Option.bind_some, c3, hup, Int.toNat_natCast]
    rw [show (⟨l[i].f0, l[i].f1, l[i].f2⟩ : S32) = cvUndo l[i] from rfl, hset]
    exact h
theorem laws_toUndoS_ev (l : List S56) (hl : l.length ≤ 1048576) : Ev (fun k => laws_toUndoS.f k l) (l.map cvUndo) := by
  unfold laws_toUndoS.f
  have c1 : (0 : Int) ≤ (l.length : Int) := by omega
  have c2 : l.length ≤ 8796093022208 := by omega
  simp only [c1, Int.toNat_natCast, c2, ↓reduceIte]
  have h := laws_toUndoS_l0 l hl l.length 0 (by omega)
  rw [fill_none, List.length_map] at h
  exact h
theorem laws_eqUndoS_l0 (l : List S32) (hl : l.length ≤ 9223372036854775807) (d : Nat) : ∀ i : Nat, i + d = l.length → Ev (fun k => laws_eqUndoS.l0 k l l (i : Int)) true := by
  induction d with
  | zero =>
    intro i hi
    refine Ev.shift ?_
    simp only [laws_eqUndoS.l0, show ¬ (i : Int) < (l.length : Int) from by omega, ↓reduceIte]
    exact Ev.now _
  | succ d ih =>
    intro i hi
    have h := ih (i + 1) (by omega)
    have hil : i < l.length := by omega
    refine Ev.shift ?_
    have c1 : (i : Int) < (l.length : Int) := by omega
    have c2 : (0 : Int) ≤ (i : Int) := by omega
    simp only [laws_eqUndoS.l0, c1, c2, ↓reduceIte, laws_eqUndo.f, Option.bind_some, int_up hil hl, bne_self_eq_false, Bool.false_eq_true]
    exact h
theorem laws_eqUndoS_ev (l : List S32) (hl : l.length ≤ 9223372036854775807) : Ev (fun k => laws_eqUndoS.f k l l) true := by
  unfold laws_eqUndoS.f
  simp only [↓reduceIte]
  exact laws_eqUndoS_l0 l hl l.length 0 (by omega)
theorem undos_cases (l : List S56) (hl : l.length ≤ 9223372036854775807 ∧ ∀ c ∈ l, WF56 c) (x : Int) (h0 : 0 ≤ x) (h1 : x ≤ 1048576) :
    ∃ r, Ev (fun k => laws_szUndoS.f k l x) r ∧ (r < 0 ∨ (¬ r < 0 ∧ r ≤ x ∧ 0 ≤ r ∧ l.length ≤ 1048576 ∧ Ev (fun k => laws_toUndoS.f k l) (l.map cvUndo) ∧
      Ev (fun k => laws_eqUndoS.f k (l.map cvUndo) (l.map cvUndo)) true ∧ (l.map cvUndo).length ≤ 1048576 ∧ ∀ c ∈ l.map cvUndo, c.f0.size ≤ 1048576)) := by
  obtain ⟨r, hr, hq⟩ := laws_szUndoS_ev l hl.1 (fun c hc => (hl.2 c hc).1) x h0 h1
  refine ⟨r, hr, ?_⟩
  rcases hq with rfl | ⟨q0, q1, q2, q3⟩
  · exact .inl (by decide)
  · have h2 : l.length ≤ 1048576 := by omega
    refine .inr ⟨by omega, q1, q0, h2, laws_toUndoS_ev l h2, laws_eqUndoS_ev _ (by rw [List.length_map]; omega), by rw [List.length_map]; omega, fun c hc => ?_⟩
    obtain ⟨a, ha, rfl⟩ := List.mem_map.1 hc
    show a.f0.size ≤ _
    have := q3 a ha
    omega

/-- One cell is right: its key, its number. -/
def cellB (c : S92) : Bool := keyB c.f0 && decide (0 ≤ c.f1 ∧ c.f1 ≤ 1000000000)
def keyLt (a b : ByteArray) : Bool := Op.bytesLess a.toList b.toList
/-- Cells from place i on are right, each above the one ahead. -/
def formB (l : List S92) : Nat → Nat → Bool
  | 0, _ => true
  | d + 1, i => cellB (rd_T92 l (i : Int)) && ((i == 0 || keyLt (rd_T92 l ((i - 1 : Nat) : Int)).f0 (rd_T92 l (i : Int)).f0) && formB l d (i + 1))
def cellsB (l : List S92) : Bool := decide ((l.length : Int) ≤ 12) && formB l l.length 0
theorem rdC_nat (l : List S92) (i : Nat) (h : i < l.length) : rd_T92 l (i : Int) = l[i] := getD_nat l _ i h

/-! ### the order of texts -/
theorem less_irrefl : ∀ a : List UInt8, Op.bytesLess a a = false
  | [] => rfl
  | x :: a => by
    have h1 : ¬ x < x := by simp [UInt8.lt_iff_toNat_lt]
    simp [Op.bytesLess, h1, less_irrefl a]
theorem less_trans : ∀ {a b c : List UInt8}, Op.bytesLess a b = true → Op.bytesLess b c = true → Op.bytesLess a c = true
  | _, [], _, h, _ => by cases ‹List UInt8› <;> simp [Op.bytesLess] at h
  | _, _ :: _, [], _, h => by simp [Op.bytesLess] at h
  | [], _ :: _, _ :: _, _, _ => rfl
  | x :: a, y :: b, z :: c, h, h2 => by
    simp only [Op.bytesLess, Bool.or_eq_true, Bool.and_eq_true, decide_eq_true_eq, beq_iff_eq] at h h2 ⊢
    rcases h with h | ⟨rfl, h⟩
    · rcases h2 with h2 | ⟨rfl, h2⟩
      · exact .inl (by rw [UInt8.lt_iff_toNat_lt] at *; omega)
      · exact .inl h
    · rcases h2 with h2 | ⟨rfl, h2⟩
      · exact .inl h2
      · exact .inr ⟨rfl, less_trans h h2⟩
theorem less_tri (a b : List UInt8) (h : Op.bytesLess a b = false) (hne : (a == b) = false) : Op.bytesLess b a = true := by
  have := bless_flip b a
  rw [h, hne] at this
  exact this.symm
theorem less_asymm {a b : List UInt8} (h : Op.bytesLess a b = true) : Op.bytesLess b a = false := by
  cases h2 : Op.bytesLess b a with
  | false => rfl
  | true =>
    have := less_trans h h2
    rw [less_irrefl] at this
    cases this
/-- Each cell's key lies above those ahead of it. -/
def Asc (l : List S92) : Prop := l.Pairwise fun x y => keyLt x.f0 y.f0 = true
theorem formB_get {l : List S92} : ∀ (d i : Nat), i + d = l.length → formB l d i = true → ∀ j, i ≤ j → ∀ h : j < l.length, cellB l[j] = true ∧ (0 < j → keyLt (l[j - 1]'(by omega)).f0 l[j].f0 = true)
  | 0, i, hi, _, j, hj, h => by omega
  | d + 1, i, hi, hf, j, hj, h => by
    simp only [formB, Bool.and_eq_true, Bool.or_eq_true, beq_iff_eq] at hf
    obtain ⟨h1, h2, h3⟩ := hf
    by_cases e : j = i
    · subst e
      rw [rdC_nat l j h] at h1 h2
      refine ⟨h1, fun hp => ?_⟩
      rcases h2 with h2 | h2
      · omega
      · rw [rdC_nat l (j - 1) (by omega)] at h2
        exact h2
    · exact formB_get d (i + 1) (by omega) h3 j (by omega) h
theorem cellsB_asc {l : List S92} (h : cellsB l = true) : Asc l := by
  unfold cellsB at h
  rw [Bool.and_eq_true] at h
  have hg := formB_get l.length 0 (by omega) h.2
  have step : ∀ (n i j : Nat) (he : j = i + 1 + n) (hj : j < l.length), keyLt (l[i]'(by omega)).f0 l[j].f0 = true := by
    intro n
    induction n with
    | zero =>
      rintro i j rfl hj
      exact (hg (i + 1) (by omega) hj).2 (by omega)
    | succ n ih =>
      rintro i j rfl hj
      have h1 := ih i (i + 1 + n) rfl (by omega)
      have h2 := (hg (i + 1 + (n + 1)) (by omega) hj).2 (by omega)
      exact less_trans h1 h2
  refine List.pairwise_iff_getElem.2 fun i j hi hj hij => ?_
  exact step (j - i - 1) i j (by omega) hj
/-- The cell with a key is put in its place. -/
def putC (key : ByteArray) (n : Int) : List S92 → List S92
  | [] => [⟨key, n⟩]
  | x :: xs => if (x.f0.toList == key.toList) = true then ⟨key, n⟩ :: xs else if keyLt x.f0 key = true then x :: putC key n xs else ⟨key, n⟩ :: x :: xs
/-- The reference's way: what lies below, the cell, what lies above. -/
def putS (key : ByteArray) (n : Int) (l : List S92) : List S92 := l.filter (fun x => keyLt x.f0 key) ++ ⟨key, n⟩ :: l.filter (fun x => keyLt key x.f0)
theorem asc_above {x : S92} {xs : List S92} {key : ByteArray} (h : Asc (x :: xs)) (hk : keyLt x.f0 key = false) : ∀ y ∈ xs, keyLt key y.f0 = true := by
  intro y hy
  have h1 : keyLt x.f0 y.f0 = true := (List.pairwise_cons.1 h).1 y hy
  cases e : (x.f0.toList == key.toList) with
  | true =>
    have e2 : x.f0.toList = key.toList := by simpa using e
    unfold keyLt at h1 ⊢
    rw [← e2]
    exact h1
  | false => exact less_trans (less_tri _ _ hk e) h1
theorem putS_eq (key : ByteArray) (n : Int) : ∀ l : List S92, Asc l → putS key n l = putC key n l
  | [], _ => rfl
  | x :: xs, h => by
    have ih := putS_eq key n xs (List.pairwise_cons.1 h).2
    unfold putS at ih ⊢
    simp only [putC, List.filter_cons]
    cases hk : keyLt x.f0 key with
    | true =>
      have h1 : (x.f0.toList == key.toList) = false := by
        cases e : (x.f0.toList == key.toList) with
        | false => rfl
        | true =>
          have e2 : x.f0.toList = key.toList := by simpa using e
          unfold keyLt at hk
          rw [e2, less_irrefl] at hk
          cases hk
      have h2 : keyLt key x.f0 = false := less_asymm hk
      simp only [h1, h2, ↓reduceIte, Bool.false_eq_true]
      rw [← ih]
      rfl
    | false =>
      have ha := asc_above h hk
      have f1 : xs.filter (fun y => keyLt y.f0 key) = [] := List.filter_eq_nil_iff.2 fun y hy => by
        have := less_asymm (ha y hy)
        unfold keyLt
        rw [this]
        decide
      have f2 : xs.filter (fun y => keyLt key y.f0) = xs := List.filter_eq_self.2 ha
      cases e : (x.f0.toList == key.toList) with
      | true =>
        have e2 : x.f0.toList = key.toList := by simpa using e
        have h2 : keyLt key x.f0 = false := by unfold keyLt; rw [e2]; exact less_irrefl _
        simp only [h2, f1, f2, ↓reduceIte, Bool.false_eq_true, List.nil_append]
      | false =>
        have h2 : keyLt key x.f0 = true := less_tri _ _ hk e
        simp only [h2, f1, f2, ↓reduceIte, Bool.false_eq_true, List.nil_append]
theorem idx_shift (p : S92 → Bool) : ∀ (l : List S92) (i : Int), 0 ≤ i → (idxBy92 p l i = -1 → idxBy92 p l (i + 1) = -1) ∧ (idxBy92 p l i ≠ -1 → idxBy92 p l (i + 1) = idxBy92 p l i + 1)
  | [], i, _ => ⟨fun _ => rfl, fun h => absurd rfl h⟩
  | x :: xs, i, h => by
    by_cases hp : p x = true
    · have e1 : ∀ i, idxBy92 p (x :: xs) i = i := fun i => if_pos hp
      rw [e1, e1]
      exact ⟨fun q => by omega, fun _ => rfl⟩
    · have e1 : ∀ i, idxBy92 p (x :: xs) i = idxBy92 p xs (i + 1) := fun i => if_neg hp
      rw [e1, e1]
      exact idx_shift p xs (i + 1) (by omega)
theorem withC_found {l : List S92} {key : ByteArray} (n : Int) {j : Nat} (h : idxBy92 (fun x => x.f0.toList == key.toList) l 0 = (j : Int)) : withC l key n = l.set j ⟨(rd_T92 l (j : Int)).f0, n⟩ := by
  unfold withC
  rw [h, if_pos (by omega)]
  rfl
theorem withC_not {l : List S92} {key : ByteArray} (n : Int) (h : idxBy92 (fun x => x.f0.toList == key.toList) l 0 = -1) : withC l key n = l.take (posLt key l) ++ ⟨key, n⟩ :: l.drop (posLt key l) := by
  unfold withC
  rw [h, if_neg (by decide)]
theorem withC_eq (key : ByteArray) (n : Int) : ∀ l : List S92, Asc l → withC l key n = putC key n l
  | [], _ => rfl
  | x :: xs, h => by
    have ih := withC_eq key n xs (List.pairwise_cons.1 h).2
    obtain ⟨s1, s2⟩ := idx_shift (fun x => x.f0.toList == key.toList) xs 0 (Int.le_refl _)
    have hr := idxBy92_range (fun x => x.f0.toList == key.toList) xs 0
    rw [Int.zero_add] at s1 s2
    cases e : (x.f0.toList == key.toList) with
    | true =>
      have e2 : x.f0 = key := ba_ext (by simpa using e)
      have e1 : idxBy92 (fun x => x.f0.toList == key.toList) (x :: xs) 0 = ((0 : Nat) : Int) := if_pos e
      have e3 : putC key n (x :: xs) = ⟨key, n⟩ :: xs := if_pos e
      rw [withC_found n e1, e3, ← e2]
      rfl
    | false =>
      have ne : ¬ (x.f0.toList == key.toList) = true := by rw [e]; decide
      have e1 : idxBy92 (fun x => x.f0.toList == key.toList) (x :: xs) 0 = idxBy92 (fun x => x.f0.toList == key.toList) xs 1 := if_neg ne
      have e3 : putC key n (x :: xs) = if keyLt x.f0 key = true then x :: putC key n xs else ⟨key, n⟩ :: x :: xs := if_neg ne
      cases hk : keyLt x.f0 key with
      | true =>
        rw [e3, if_pos hk, ← ih]
        by_cases hm : idxBy92 (fun x => x.f0.toList == key.toList) xs 0 = -1
        · have e4 : posLt key (x :: xs) = posLt key xs + 1 := if_pos hk
          rw [withC_not n hm, withC_not n (e1.trans (s1 hm)), e4]
          rfl
        · have h0 : 0 ≤ idxBy92 (fun x => x.f0.toList == key.toList) xs 0 := by
            rcases hr with hr | hr
            · exact absurd hr hm
            · exact hr.1
          obtain ⟨j, hj⟩ := Int.eq_ofNat_of_zero_le h0
          have e4 : idxBy92 (fun x => x.f0.toList == key.toList) (x :: xs) 0 = ((j + 1 : Nat) : Int) := by
            rw [e1, s2 hm, hj]
            omega
          rw [withC_found n hj, withC_found n e4]
          rfl
      | false =>
        have ha := asc_above h hk
        have hm : idxBy92 (fun x => x.f0.toList == key.toList) xs 0 = -1 := by
          rcases hr with hr | hr
          · exact hr
          · obtain ⟨j, hj⟩ := Int.eq_ofNat_of_zero_le hr.1
            obtain ⟨_, hjl, hh⟩ := idxBy92_some (fun x => x.f0.toList == key.toList) xs 0 j (by rw [Nat.zero_add]; exact hj)
            have h1 := ha _ (List.getElem_mem hjl)
            have h2 : (xs[j]).f0.toList = key.toList := by simpa using hh
            unfold keyLt at h1
            rw [h2, less_irrefl] at h1
            cases h1
        have hk' : ¬ Op.bytesLess x.f0.toList key.toList = true := by
          have : Op.bytesLess x.f0.toList key.toList = false := hk
          rw [this]
          decide
        have e4 : posLt key (x :: xs) = 0 := if_neg hk'
        rw [e3, if_neg (by rw [hk]; decide), withC_not n (e1.trans (s1 hm)), e4]
        rfl
theorem withC_put {l : List S92} (h : cellsB l = true) (key : ByteArray) (n : Int) : withC l key n = putS key n l := by
  rw [withC_eq key n l (cellsB_asc h), putS_eq key n l (cellsB_asc h)]

/-- What was done to one cell is taken back. -/
def undB (l : List S92) (key : ByteArray) (had : Bool) (n : Int) : List S92 :=
  if cellsB l = true ∧ keyB key = true ∧ (0 ≤ n ∧ n ≤ 1000000000) then (if had = true then putS key n l else l.filter fun x => !(x.f0.toList == key.toList)) else l

theorem rdUn_nat (l : List S32) (i : Nat) (h : i < l.length) : rd_T32 l (i : Int) = l[i] := getD_nat l _ i h
/-- What was done is taken back, the last one first. -/
def undDown (us : List S32) : Nat → List S92 → List S92
  | 0, l => l
  | i + 1, l => undDown us i (undB l (rd_T32 us (i : Int)).f0 (rd_T32 us (i : Int)).f1 (rd_T32 us (i : Int)).f2)
theorem cellsB_len {l : List S92} (h : cellsB l = true) : l.length ≤ 12 := by
  unfold cellsB at h
  rw [Bool.and_eq_true, decide_eq_true_eq] at h
  omega
theorem undB_len {l : List S92} {N : Nat} (hN : 25 ≤ N) (h : l.length ≤ N) (key : ByteArray) (had : Bool) (n : Int) : (undB l key had n).length ≤ N := by
  unfold undB putS
  have h1 := List.length_filter_le (fun x : S92 => keyLt x.f0 key) l
  have h2 := List.length_filter_le (fun x : S92 => keyLt key x.f0) l
  have h3 := List.length_filter_le (fun x : S92 => !(x.f0.toList == key.toList)) l
  split
  · rename_i hc
    have h4 := cellsB_len hc.1
    split
    · rw [List.length_append, List.length_cons]
      omega
    · omega
  · exact h
theorem undB_keys {l : List S92} {N : Nat} (h : ∀ c ∈ l, c.f0.size ≤ N) {key : ByteArray} (hk : key.size ≤ N) (had : Bool) (n : Int) : ∀ c ∈ undB l key had n, c.f0.size ≤ N := by
  intro c hc
  unfold undB putS at hc
  split at hc
  · split at hc
    · rcases List.mem_append.1 hc with hc | hc
      · exact h c (List.mem_filter.1 hc).1
      · rcases List.mem_cons.1 hc with rfl | hc
        · exact hk
        · exact h c (List.mem_filter.1 hc).1
    · exact h c (List.mem_filter.1 hc).1
  · exact h c hc
theorem undDown_good (us : List S32) {N M : Nat} (hN : 25 ≤ N) (hu : ∀ u ∈ us, u.f0.size ≤ M) : ∀ (i : Nat) (l : List S92), i ≤ us.length → l.length ≤ N → (∀ c ∈ l, c.f0.size ≤ M) → (undDown us i l).length ≤ N ∧ ∀ c ∈ undDown us i l, c.f0.size ≤ M
  | 0, l, _, h1, h2 => ⟨h1, h2⟩
  | i + 1, l, hi, h1, h2 => by
    have hk := hu _ (List.getElem_mem (show i < us.length from hi))
    rw [← rdUn_nat us i hi] at hk
    exact undDown_good us hN hu i _ (by omega) (undB_len hN h1 _ _ _) (undB_keys h2 hk _ _)

theorem spec_l01In_eq (a b c : Int) : spec_l01In.f a b c = some (decide (b ≤ a ∧ a ≤ c)) := by
  unfold spec_l01In.f
  by_cases h : a ≥ b
  · simp [h]
  · have h' : ¬ b ≤ a := by omega
    simp [h, h']

theorem spec_KeyOk_l0 (s : ByteArray) (hs : s.size ≤ 140737488351232) (d : Nat) : ∀ i : Nat, i + d = s.size → (∀ j : Nat, j < i → 97 ≤ bt s j ∧ bt s j ≤ 122) → Ev (fun k => spec_KeyOk.l0 k s (i : Int)) (keyB s) := by
  induction d with
  | zero =>
    intro i hi h
    obtain rfl : i = s.size := by omega
    refine Ev.shift ?_
    simp only [spec_KeyOk.l0, show ¬ (s.size : Int) < s.size from by omega, ↓reduceIte, spec_l01In_eq, Option.bind_some]
    rw [keyB_low h]
    exact Ev.now _
  | succ d ih =>
    intro i hi h
    refine Ev.shift ?_
    have h1 : (i : Int) < s.size := by omega
    have h4 : (0 : Int) ≤ i := by omega
    have h6 : wrap64 ((i : Int) + 1) = ((i + 1 : Nat) : Int) := by rw [wrap_id (by omega) (by omega)]; omega
    by_cases ha : bt s (i : Int) < 97
    · simp only [spec_KeyOk.l0, h1, h4, ha, ↓reduceIte]
      rw [keyB_not (i := i) (by omega) (by omega)]
      exact Ev.now _
    · by_cases hb : bt s (i : Int) > 122
      · simp only [spec_KeyOk.l0, h1, h4, ha, hb, ↓reduceIte]
        rw [keyB_not (i := i) (by omega) (by omega)]
        exact Ev.now _
      · simp only [spec_KeyOk.l0, h1, h4, ha, hb, h6, ↓reduceIte]
        refine ih (i + 1) (by omega) fun j hj => ?_
        by_cases he : j = i
        · subst he
          omega
        · exact h j (by omega)
theorem spec_KeyOk_ev (s : ByteArray) (hs : s.size ≤ 140737488351232) : Ev (fun k => spec_KeyOk.f k s) (keyB s) :=
  spec_KeyOk_l0 s hs s.size 0 (by omega) (fun j hj => by omega)

theorem spec_CellsOk_l0 (l : List S92) (hl : l.length ≤ 9223372036854775807) (hk : ∀ c ∈ l, c.f0.size ≤ 140737488351232) (d : Nat) : ∀ i : Nat, i + d = l.length →
    Ev (fun k => spec_CellsOk.l0 k l (i : Int)) (formB l d i && decide ((l.length : Int) ≤ 12)) := by
  induction d with
  | zero =>
    intro i hi
    refine Ev.shift ?_
    simp only [spec_CellsOk.l0, show ¬ (i : Int) < (l.length : Int) from by omega, ↓reduceIte, formB, Bool.true_and]
    exact Ev.now _
  | succ d ih =>
    intro i hi
    have hr := ih (i + 1) (by omega)
    have hil : i < l.length := by omega
    have c1 : (i : Int) < (l.length : Int) := by omega
    have c2 : (0 : Int) ≤ (i : Int) := by omega
    have hup := int_up hil hl
    have hs : (rd_T92 l (i : Int)).f0.size ≤ 140737488351232 := by rw [rdC_nat l i hil]; exact hk _ (List.getElem_mem hil)
    refine Ev.shift ?_
    simp only [spec_CellsOk.l0, c1, c2, ↓reduceIte, formB, cellB]
    refine Ev.bind (spec_KeyOk_ev _ hs) ?_
    by_cases k1 : keyB (rd_T92 l (i : Int)).f0 = true
    · by_cases k2 : 0 ≤ (rd_T92 l (i : Int)).f1 ∧ (rd_T92 l (i : Int)).f1 ≤ 1000000000
      · simp only [k1, spec_l01In_eq, decide_eq_true k2, Option.bind_some, ↓reduceIte, Bool.true_and]
        by_cases k3 : i = 0
        · subst k3
          simp only [show ¬ ((0 : Nat) : Int) > 0 from by decide, ↓reduceIte, beq_self_eq_true, Bool.true_or, Bool.true_and]
          rw [hup]
          exact hr
        · have c3 : (i : Int) > 0 := by clear hup; omega
          have m1 : -9223372036854775808 ≤ (i : Int) - 1 := by clear hup; omega
          have m2 : (i : Int) - 1 ≤ 9223372036854775807 := by clear hup; omega
          have m3 : (i : Int) - 1 = ((i - 1 : Nat) : Int) := by clear hup; omega
          have c4 : (0 : Int) ≤ ((i - 1 : Nat) : Int) := by clear hup; omega
          have c5 : ((i - 1 : Nat) : Int) < (l.length : Int) := by clear hup; omega
          have e1 : wrap64 ((i : Int) - 1) = ((i - 1 : Nat) : Int) := (wrap_id m1 m2).trans m3
          have e2 : (i == 0) = false := by simpa using k3
          simp only [c3, e1, c4, c5, ↓reduceIte, e2, Bool.false_or, keyLt]
          by_cases k4 : Op.bytesLess (rd_T92 l ((i - 1 : Nat) : Int)).f0.toList (rd_T92 l (i : Int)).f0.toList = true
          · simp only [k4, ↓reduceIte, Bool.true_and, hup]
            exact hr
          · simp only [Bool.not_eq_true] at k4
            simp only [k4, ↓reduceIte, Bool.false_and, Bool.false_eq_true]
            exact Ev.now _
      · simp only [k1, spec_l01In_eq, decide_eq_false k2, Option.bind_some, ↓reduceIte, Bool.true_and, Bool.false_and, Bool.false_eq_true]
        exact Ev.now _
    · simp only [Bool.not_eq_true] at k1
      simp only [k1, ↓reduceIte, Bool.false_and, Bool.false_eq_true]
      exact Ev.now _
theorem spec_CellsOk_ev (l : List S92) (hl : l.length ≤ 9223372036854775807) (hk : ∀ c ∈ l, c.f0.size ≤ 140737488351232) : Ev (fun k => spec_CellsOk.f k l) (cellsB l) := by
  have h := spec_CellsOk_l0 l hl hk l.length 0 (by omega)
  rw [Bool.and_comm] at h
  exact h

theorem spec_l03Put_l1 (l : List S92) (hl : l.length ≤ 4294967296) (key : ByteArray) (n : Int) (d : Nat) : ∀ (i : Nat) (acc : List S92), i + d = l.length → acc.length ≤ 4294967300 + i →
    Ev (fun k => spec_l03Put.l1 k l acc (i : Int) key n) (acc ++ (l.drop i).filter (fun x => keyLt key x.f0)) := by
  induction d with
  | zero =>
    intro i acc hi ha
    refine Ev.shift ?_
    simp only [spec_l03Put.l1, show ¬ (i : Int) < (l.length : Int) from by omega, ↓reduceIte]
    rw [List.drop_eq_nil_of_le (by omega)]
    simp only [List.filter_nil, List.append_nil]
    exact Ev.now _
  | succ d ih =>
    intro i acc hi ha
    have hil : i < l.length := by omega
    have c1 : (i : Int) < (l.length : Int) := by omega
    have c2 : (0 : Int) ≤ (i : Int) := by omega
    have c3 : acc.length < 5864062014805 := by omega
    have hup := int_up hil (by omega)
    rw [List.drop_eq_getElem_cons hil, List.filter_cons]
    refine Ev.shift ?_
    simp only [spec_l03Put.l1, c1, c2, c3, hup, ↓reduceIte, rdC_nat l i hil]
    by_cases h : Op.bytesLess key.toList (l[i]).f0.toList = true
    · have h' : keyLt key (l[i]).f0 = true := h
      simp only [h, h', ↓reduceIte]
      have := ih (i + 1) (acc ++ [l[i]]) (by omega) (by rw [List.length_append, List.length_singleton]; omega)
      rw [List.append_assoc] at this
      exact this
    · have h' : ¬ keyLt key (l[i]).f0 = true := h
      simp only [h, h', ↓reduceIte]
      exact ih (i + 1) acc (by omega) (by omega)
theorem spec_l03Put_l0 (l : List S92) (hl : l.length ≤ 4294967296) (key : ByteArray) (n : Int) (d : Nat) : ∀ (i : Nat) (acc : List S92), i + d = l.length → acc.length ≤ i →
    Ev (fun k => spec_l03Put.l0 k l acc (i : Int) key n) (acc ++ (l.drop i).filter (fun x => keyLt x.f0 key) ++ ⟨key, n⟩ :: l.filter (fun x => keyLt key x.f0)) := by
  induction d with
  | zero =>
    intro i acc hi ha
    refine Ev.shift ?_
    have c3 : acc.length < 5864062014805 := by omega
    simp only [spec_l03Put.l0, show ¬ (i : Int) < (l.length : Int) from by omega, c3, ↓reduceIte]
    rw [List.drop_eq_nil_of_le (by omega)]
    simp only [List.filter_nil, List.append_nil]
    have := spec_l03Put_l1 l hl key n l.length 0 (acc ++ [⟨key, n⟩]) (by omega) (by rw [List.length_append, List.length_singleton]; omega)
    rw [List.append_assoc, List.drop_zero] at this
    exact this
  | succ d ih =>
    intro i acc hi ha
    have hil : i < l.length := by omega
    have c1 : (i : Int) < (l.length : Int) := by omega
    have c2 : (0 : Int) ≤ (i : Int) := by omega
    have c3 : acc.length < 5864062014805 := by omega
    have hup := int_up hil (by omega)
    rw [List.drop_eq_getElem_cons hil, List.filter_cons]
    refine Ev.shift ?_
    simp only [spec_l03Put.l0, c1, c2, c3, hup, ↓reduceIte, rdC_nat l i hil]
    by_cases h : Op.bytesLess (l[i]).f0.toList key.toList = true
    · have h' : keyLt (l[i]).f0 key = true := h
      simp only [h, h', ↓reduceIte]
      have := ih (i + 1) (acc ++ [l[i]]) (by omega) (by rw [List.length_append, List.length_singleton]; omega)
      rw [List.append_assoc acc] at this
      exact this
    · have h' : ¬ keyLt (l[i]).f0 key = true := h
      simp only [h, h', ↓reduceIte]
      exact ih (i + 1) acc (by omega) (by omega)
theorem spec_l03Put_ev (l : List S92) (hl : l.length ≤ 4294967296) (key : ByteArray) (n : Int) : Ev (fun k => spec_l03Put.f k l key n) (putS key n l) :=
  spec_l03Put_l0 l hl key n l.length 0 [] (by omega) (Nat.le_refl _)
theorem spec_Undone_l0 (l : List S92) (hl : l.length ≤ 4294967296) (key : ByteArray) (had : Bool) (n : Int) (d : Nat) : ∀ (i : Nat) (acc : List S92), i + d = l.length → acc.length ≤ i →
    Ev (fun k => spec_Undone.l0 k l acc (i : Int) key had n) (acc ++ (l.drop i).filter (fun x => !(x.f0.toList == key.toList))) := by
  induction d with
  | zero =>
    intro i acc hi ha
    refine Ev.shift ?_
    simp only [spec_Undone.l0, show ¬ (i : Int) < (l.length : Int) from by omega, ↓reduceIte]
    rw [List.drop_eq_nil_of_le (by omega)]
    simp only [List.filter_nil, List.append_nil]
    exact Ev.now _
  | succ d ih =>
    intro i acc hi ha
    have hil : i < l.length := by omega
    have c1 : (i : Int) < (l.length : Int) := by omega
    have c2 : (0 : Int) ≤ (i : Int) := by omega
    have c3 : acc.length < 5864062014805 := by omega
    have hup := int_up hil (by omega)
    rw [List.drop_eq_getElem_cons hil, List.filter_cons]
    refine Ev.shift ?_
    simp only [spec_Undone.l0, c1, c2, c3, hup, ↓reduceIte, rdC_nat l i hil]
    by_cases h : (l[i]).f0.toList = key.toList
    · have h' : ((l[i]).f0.toList == key.toList) = true := by simpa using h
      simp only [h, beq_self_eq_true, Bool.not_true, Bool.false_eq_true, ↓reduceIte]
      exact ih (i + 1) acc (by omega) (by omega)
    · have h' : ((l[i]).f0.toList == key.toList) = false := by simpa using h
      simp only [h, h', Bool.not_false, ↓reduceIte]
      have := ih (i + 1) (acc ++ [l[i]]) (by omega) (by rw [List.length_append, List.length_singleton]; omega)
      rw [List.append_assoc] at this
      exact this
theorem spec_Undone_ev (l : List S92) (hl : l.length ≤ 4294967296) (hk : ∀ c ∈ l, c.f0.size ≤ 140737488351232) (key : ByteArray) (hs : key.size ≤ 140737488351232) (had : Bool) (n : Int) : Ev (fun k => spec_Undone.f k l key had n) (undB l key had n) := by
  have same : Ev (fun k => spec_Undone.j0 k l true key had n) l := by
    refine Ev.shift ?_
    simp only [spec_Undone.j0, ↓reduceIte, Option.bind_some, List.nil_append, List.length_nil, Nat.zero_add, show l.length < 5864062014805 from by omega]
    exact Ev.now _
  unfold spec_Undone.f undB
  refine Ev.bind (spec_CellsOk_ev l (by omega) hk) ?_
  cases h1 : cellsB l with
  | false =>
    simp only [Bool.false_eq_true, ↓reduceIte, false_and]
    exact same
  | true =>
    simp only [↓reduceIte, true_and]
    refine Ev.bind (spec_KeyOk_ev key hs) ?_
    cases h2 : keyB key with
    | false =>
      simp only [Bool.false_eq_true, ↓reduceIte, false_and]
      exact same
    | true =>
      simp only [↓reduceIte, true_and, spec_l01In_eq, Option.bind_some]
      by_cases h3 : 0 ≤ n ∧ n ≤ 1000000000
      · simp only [h3, and_self, ↓reduceIte, decide_true, Bool.not_true]
        refine Ev.shift ?_
        simp only [spec_Undone.j0, Bool.false_eq_true, ↓reduceIte]
        cases had with
        | true =>
          simp only [↓reduceIte]
          exact Ev.bind (spec_l03Put_ev l hl key n) (Ev.now _)
        | false =>
          simp only [Bool.false_eq_true, ↓reduceIte]
          exact spec_Undone_l0 l hl key false n l.length 0 [] (by omega) (Nat.le_refl _)
      · simp only [h3, ↓reduceIte, decide_false, Bool.not_false]
        exact same

theorem spec_UndoneAll_l0 (us : List S32) (hl : us.length ≤ 4294967296) (hu : ∀ u ∈ us, u.f0.size ≤ 140737488351232) : ∀ (i : Nat) (l : List S92), i ≤ us.length → l.length ≤ 4294967296 → (∀ c ∈ l, c.f0.size ≤ 140737488351232) →
    Ev (fun k => spec_UndoneAll.l0 k us l ((i : Int) - 1)) (undDown us i l)
  | 0, l, _, h1, h2 => by
    refine Ev.shift ?_
    simp only [spec_UndoneAll.l0, show ¬ (((0 : Nat) : Int) - 1 ≥ 0) from by omega, ↓reduceIte]
    exact Ev.now _
  | i + 1, l, hi, h1, h2 => by
    have hil : i < us.length := hi
    have hk := hu _ (List.getElem_mem hil)
    rw [← rdUn_nat us i hil] at hk
    have ih := spec_UndoneAll_l0 us hl hu i (undB l (rd_T32 us (i : Int)).f0 (rd_T32 us (i : Int)).f1 (rd_T32 us (i : Int)).f2) (by omega) (undB_len (by decide) h1 _ _ _) (undB_keys h2 hk _ _)
    have e1 : (((i + 1 : Nat) : Int) - 1) = (i : Int) := by omega
    have c0 : (i : Int) ≥ 0 := by omega
    have c1 : (i : Int) < (us.length : Int) := by omega
    have e2 : wrap64 ((i : Int) - 1) = (i : Int) - 1 := wrap_id (by omega) (by omega)
    rw [e1]
    refine Ev.shift ?_
    simp only [spec_UndoneAll.l0, c0, c1, e2, ge_iff_le, ↓reduceIte]
    exact Ev.bind (spec_Undone_ev l h1 h2 _ hk _ _) ih
theorem spec_UndoneAll_ev (us : List S32) (hl : us.length ≤ 4294967296) (hu : ∀ u ∈ us, u.f0.size ≤ 140737488351232) (l : List S92) (h1 : l.length ≤ 4294967296) (h2 : ∀ c ∈ l, c.f0.size ≤ 140737488351232) :
    Ev (fun k => spec_UndoneAll.f k l us) (undDown us us.length l) := by
  unfold spec_UndoneAll.f
  rw [wrap_id (by omega) (by omega)]
  simp only [Option.bind_some, List.nil_append, List.length_nil, Nat.zero_add, show l.length < 5864062014805 from by omega, ↓reduceIte]
  exact spec_UndoneAll_l0 us hl hu us.length l (Nat.le_refl _) h1 h2

theorem impl_in_eq (a b c : Int) : impl_in.f a b c = some (decide (b ≤ a ∧ a ≤ c)) := by
  unfold impl_in.f
  by_cases h : a ≥ b
  · simp [h]
  · have h' : ¬ b ≤ a := by omega
    simp [h, h']

theorem impl_KeyOk_l0 (s : ByteArray) (hs : s.size ≤ 140737488351232) (d : Nat) : ∀ i : Nat, i + d = s.size → (∀ j : Nat, j < i → 97 ≤ bt s j ∧ bt s j ≤ 122) → Ev (fun k => impl_KeyOk.l0 k s (s.size : Int) (i : Int)) (keyB s) := by
  induction d with
  | zero =>
    intro i hi h
    obtain rfl : i = s.size := by omega
    refine Ev.shift ?_
    simp only [impl_KeyOk.l0, show ¬ (s.size : Int) < s.size from by omega, ↓reduceIte, impl_in_eq, Option.bind_some]
    rw [keyB_low h]
    exact Ev.now _
  | succ d ih =>
    intro i hi h
    refine Ev.shift ?_
    have h1 : (i : Int) < s.size := by omega
    have h4 : (0 : Int) ≤ i := by omega
    have h6 : wrap64 ((i : Int) + 1) = ((i + 1 : Nat) : Int) := by rw [wrap_id (by omega) (by omega)]; omega
    by_cases ha : bt s (i : Int) < 97
    · simp only [impl_KeyOk.l0, h1, h4, ha, ↓reduceIte]
      rw [keyB_not (i := i) (by omega) (by omega)]
      exact Ev.now _
    · by_cases hb : bt s (i : Int) > 122
      · simp only [impl_KeyOk.l0, h1, h4, ha, hb, ↓reduceIte]
        rw [keyB_not (i := i) (by omega) (by omega)]
        exact Ev.now _
      · simp only [impl_KeyOk.l0, h1, h4, ha, hb, h6, ↓reduceIte]
        refine ih (i + 1) (by omega) fun j hj => ?_
        by_cases he : j = i
        · subst he
          omega
        · exact h j (by omega)
theorem impl_KeyOk_ev (s : ByteArray) (hs : s.size ≤ 140737488351232) : Ev (fun k => impl_KeyOk.f k s) (keyB s) :=
  impl_KeyOk_l0 s hs s.size 0 (by omega) (fun j hj => by omega)

theorem impl_isNum_eq (n : Int) : impl_isNum.f n = some (decide (0 ≤ n ∧ n ≤ 1000000000)) := by
  unfold impl_isNum.f
  rw [impl_in_eq]
  rfl

theorem impl_cellsForm_l0 (l : List S92) (hl : l.length ≤ 9223372036854775807) (hk : ∀ c ∈ l, c.f0.size ≤ 140737488351232) (d : Nat) : ∀ i : Nat, i + d = l.length →
    Ev (fun k => impl_cellsForm.l0 k l l (l.length : Int) (i : Int)) (formB l d i) := by
  induction d with
  | zero =>
    intro i hi
    refine Ev.shift ?_
    simp only [impl_cellsForm.l0, show ¬ (i : Int) < (l.length : Int) from by omega, ↓reduceIte, formB, Bool.true_and]
    exact Ev.now _
  | succ d ih =>
    intro i hi
    have hr := ih (i + 1) (by omega)
    have hil : i < l.length := by omega
    have c1 : (i : Int) < (l.length : Int) := by omega
    have c2 : (0 : Int) ≤ (i : Int) := by omega
    have hup := int_up hil hl
    have hs : (rd_T92 l (i : Int)).f0.size ≤ 140737488351232 := by rw [rdC_nat l i hil]; exact hk _ (List.getElem_mem hil)
    refine Ev.shift ?_
    simp only [impl_cellsForm.l0, c1, c2, ↓reduceIte, formB, cellB]
    refine Ev.bind (impl_KeyOk_ev _ hs) ?_
    by_cases k1 : keyB (rd_T92 l (i : Int)).f0 = true
    · by_cases k2 : 0 ≤ (rd_T92 l (i : Int)).f1 ∧ (rd_T92 l (i : Int)).f1 ≤ 1000000000
      · simp only [k1, impl_isNum_eq, decide_eq_true k2, Option.bind_some, ↓reduceIte, Bool.true_and]
        by_cases k3 : i = 0
        · subst k3
          simp only [show ¬ ((0 : Nat) : Int) > 0 from by decide, ↓reduceIte, beq_self_eq_true, Bool.true_or, Bool.true_and]
          rw [hup]
          exact hr
        · have c3 : (i : Int) > 0 := by clear hup; omega
          have m1 : -9223372036854775808 ≤ (i : Int) - 1 := by clear hup; omega
          have m2 : (i : Int) - 1 ≤ 9223372036854775807 := by clear hup; omega
          have m3 : (i : Int) - 1 = ((i - 1 : Nat) : Int) := by clear hup; omega
          have c4 : (0 : Int) ≤ ((i - 1 : Nat) : Int) := by clear hup; omega
          have c5 : ((i - 1 : Nat) : Int) < (l.length : Int) := by clear hup; omega
          have e1 : wrap64 ((i : Int) - 1) = ((i - 1 : Nat) : Int) := (wrap_id m1 m2).trans m3
          have e2 : (i == 0) = false := by simpa using k3
          simp only [c3, e1, c4, c5, ↓reduceIte, e2, Bool.false_or, keyLt]
          by_cases k4 : Op.bytesLess (rd_T92 l ((i - 1 : Nat) : Int)).f0.toList (rd_T92 l (i : Int)).f0.toList = true
          · simp only [k4, ↓reduceIte, Bool.true_and, hup]
            exact hr
          · simp only [Bool.not_eq_true] at k4
            simp only [k4, ↓reduceIte, Bool.false_and, Bool.false_eq_true]
            exact Ev.now _
      · simp only [k1, impl_isNum_eq, decide_eq_false k2, Option.bind_some, ↓reduceIte, Bool.true_and, Bool.false_and, Bool.false_eq_true]
        exact Ev.now _
    · simp only [Bool.not_eq_true] at k1
      simp only [k1, ↓reduceIte, Bool.false_and, Bool.false_eq_true]
      exact Ev.now _
theorem impl_CellsOk_ev (l : List S92) (hl : l.length ≤ 9223372036854775807) (hk : ∀ c ∈ l, c.f0.size ≤ 140737488351232) : Ev (fun k => impl_CellsOk.f k l) (cellsB l) := by
  unfold impl_CellsOk.f cellsB
  by_cases h : (l.length : Int) ≤ 12
  · simp only [h, decide_true, ↓reduceIte, Bool.true_and]
    exact Ev.bind (impl_cellsForm_l0 l hl hk l.length 0 (by omega)) (Ev.now _)
  · simp only [h, decide_false, ↓reduceIte, Bool.false_and]
    exact Ev.now _

theorem impl_Undone_ev (l : List S92) (hl : l.length ≤ 4294967296) (hk : ∀ c ∈ l, c.f0.size ≤ 140737488351232) (key : ByteArray) (hs : key.size ≤ 140737488351232) (had : Bool) (n : Int) : Ev (fun k => impl_Undone.f k l key had n) (undB l key had n) := by
  unfold impl_Undone.f undB
  have hc : impl_Cell_83.f l = some l := by
    unfold impl_Cell_83.f
    rw [if_pos (by omega)]
  have hw : impl_withCell.f l key n = some (withC l key n) := by
    unfold impl_withCell.f
    rw [if_pos (by omega)]
  simp only [hc, hw, Option.bind_some, impl_isNum_eq]
  refine Ev.bind (impl_CellsOk_ev l (by omega) hk) ?_
  cases h1 : cellsB l with
  | false =>
    simp only [Bool.false_eq_true, ↓reduceIte, false_and]
    exact Ev.now _
  | true =>
    simp only [↓reduceIte, true_and]
    refine Ev.bind (impl_KeyOk_ev key hs) ?_
    cases h2 : keyB key with
    | false =>
      simp only [Bool.false_eq_true, ↓reduceIte, false_and]
      exact Ev.now _
    | true =>
      simp only [↓reduceIte, true_and, decide_eq_true_eq]
      rw [withC_put h1]
      by_cases h3 : 0 ≤ n ∧ n ≤ 1000000000
      · simp only [h3, and_self, ↓reduceIte]
        cases had
        · exact Ev.now _
        · exact Ev.now _
      · simp only [h3, ↓reduceIte]
        exact Ev.now _

theorem impl_UndoneAll_l0 (us : List S32) (hl : us.length ≤ 4294967296) (hu : ∀ u ∈ us, u.f0.size ≤ 140737488351232) : ∀ (i : Nat) (l : List S92), i ≤ us.length → l.length ≤ 4294967296 → (∀ c ∈ l, c.f0.size ≤ 140737488351232) →
    Ev (fun k => impl_UndoneAll.l0 k us l ((i : Int) - 1)) (undDown us i l)
  | 0, l, _, h1, h2 => by
    refine Ev.shift ?_
    simp only [impl_UndoneAll.l0, show ¬ (((0 : Nat) : Int) - 1 ≥ 0) from by omega, ↓reduceIte]
    exact Ev.now _
  | i + 1, l, hi, h1, h2 => by
    have hil : i < us.length := hi
    have hk := hu _ (List.getElem_mem hil)
    rw [← rdUn_nat us i hil] at hk
    have ih := impl_UndoneAll_l0 us hl hu i (undB l (rd_T32 us (i : Int)).f0 (rd_T32 us (i : Int)).f1 (rd_T32 us (i : Int)).f2) (by omega) (undB_len (by decide) h1 _ _ _) (undB_keys h2 hk _ _)
    have e1 : (((i + 1 : Nat) : Int) - 1) = (i : Int) := by omega
    have c0 : (i : Int) ≥ 0 := by omega
    have c1 : (i : Int) < (us.length : Int) := by omega
    have e2 : wrap64 ((i : Int) - 1) = (i : Int) - 1 := wrap_id (by omega) (by omega)
    rw [e1]
    refine Ev.shift ?_
    simp only [impl_UndoneAll.l0, c0, c1, e2, ge_iff_le, ↓reduceIte]
    exact Ev.bind (impl_Undone_ev l h1 h2 _ hk _ _) ih
theorem impl_UndoneAll_ev (us : List S32) (hl : us.length ≤ 4294967296) (hu : ∀ u ∈ us, u.f0.size ≤ 140737488351232) (l : List S92) (h1 : l.length ≤ 4294967296) (h2 : ∀ c ∈ l, c.f0.size ≤ 140737488351232) :
    Ev (fun k => impl_UndoneAll.f k l us) (undDown us us.length l) := by
  unfold impl_UndoneAll.f
  have hc : impl_Cell_83.f l = some l := by
    unfold impl_Cell_83.f
    rw [if_pos (by omega)]
  rw [wrap_id (by omega) (by omega)]
  simp only [hc, Option.bind_some]
  exact impl_UndoneAll_l0 us hl hu us.length l (Nat.le_refl _) h1 h2

theorem markText_l0 (d : Nat) : ∀ (x : Int) (s : ByteArray), 0 ≤ x → x ≤ 9223372036854775807 → x.toNat < 10 ^ d → s.size + d ≤ 1000 → ∃ r, Ev (fun k => laws_markText.l0 k x s) r := by
  induction d with
  | zero =>
    intro x s h0 h1 h2 h3
    have hx : ¬ x > 0 := by simp at h2; omega
    have hs : 1 + s.size ≤ 9223372036854775807 := by omega
    exact ⟨_, Ev.shift (by simp only [laws_markText.l0, hx, hs, ↓reduceIte]; exact Ev.now _)⟩
  | succ d ih =>
    intro x s h0 h1 h2 h3
    by_cases hx : x > 0
    · have hz : (strOfNums [(wrap64 (48 + (Int.tmod x 10))) % 256]).size = 1 := by rw [strOfNums_size]; rfl
      have hs : (strOfNums [(wrap64 (48 + (Int.tmod x 10))) % 256]).size + s.size ≤ 9223372036854775807 := by rw [hz]; omega
      have hd : wrap64 (Int.tdiv x 10) = x / 10 := by rw [tdiv_pos h0]; exact wrap_id (by omega) (by omega)
      have hp : (x / 10).toNat < 10 ^ d := by
        rw [Nat.pow_succ] at h2
        omega
      obtain ⟨r, hr⟩ := ih (x / 10) (strOfNums [(wrap64 (48 + (Int.tmod x 10))) % 256] ++ s) (by omega) (by omega) hp (by rw [ByteArray.size_append, hz]; omega)
      exact ⟨r, Ev.shift (by simp only [laws_markText.l0, hx, hs, hd, ↓reduceIte, Option.bind_some]; exact hr)⟩
    · have hs : 1 + s.size ≤ 9223372036854775807 := by omega
      exact ⟨_, Ev.shift (by simp only [laws_markText.l0, hx, hs, ↓reduceIte]; exact Ev.now _)⟩
theorem markText_ev (x : Int) (h1 : x ≤ 9223372036854775807) : ∃ r, Ev (fun k => laws_markText.f k x) r := by
  by_cases h : x ≤ 0
  · exact ⟨_, by unfold laws_markText.f; simp only [h, ↓reduceIte]; exact Ev.now _⟩
  · have h10 : (10 : Nat) ^ 19 = 10000000000000000000 := by decide
    obtain ⟨r, hr⟩ := markText_l0 19 x ⟨#[]⟩ (by omega) h1 (by rw [h10]; omega) (by decide)
    exact ⟨r, by unfold laws_markText.f; simp only [h, ↓reduceIte]; exact hr⟩

/-- The text that marks a place. -/
noncomputable def mkT (x : Int) : ByteArray := if h : x ≤ 9223372036854775807 then (markText_ev x h).choose else ⟨#[]⟩
theorem mkT_ev (x : Int) (h : x ≤ 9223372036854775807) : Ev (fun k => laws_markText.f k x) (mkT x) := by
  unfold mkT
  rw [dif_pos h]
  exact (markText_ev x h).choose_spec
noncomputable def mkCs : Nat → Int → List S92
  | 0, _ => []
  | d + 1, v => ⟨mkT v, v + 1⟩ :: mkCs d (v + 1 + 1)
theorem mkCs_length : ∀ d v, (mkCs d v).length = d
  | 0, _ => rfl
  | d + 1, v => by simp only [mkCs, List.length_cons, mkCs_length d (v + 1 + 1)]
theorem markCells_l0 (d : Nat) : ∀ (i : Nat) (x : List S92) (v : Int), i + d = x.length → 0 ≤ v → v + 2 * d ≤ 4611686018427387904 → x.length ≤ 9223372036854775807 →
    Ev (fun k => laws_markCellS.l0 k x v (i : Int)) (v + 2 * d, x.take i ++ mkCs d v) := by
  induction d with
  | zero =>
    intro i x v hi h0 h1 hl
    refine Ev.shift ?_
    simp only [laws_markCellS.l0, show ¬ (i : Int) < (x.length : Int) from by omega, ↓reduceIte]
    refine Ev.eq (Ev.now _) ?_
    rw [List.take_of_length_le (by omega), mkCs, List.append_nil]
    simp
  | succ d ih =>
    intro i x v hi h0 h1 hl
    have hil : i < x.length := by omega
    have c1 : (i : Int) < (x.length : Int) := by omega
    have c2 : (0 : Int) ≤ (i : Int) := by omega
    have hup := int_up hil hl
    have w1 : wrap64 (v + 1) = v + 1 := wrap_id (by omega) (by omega)
    have w2 : wrap64 (v + 1 + 1) = v + 1 + 1 := wrap_id (by omega) (by omega)
    have ht := mkT_ev v (by omega)
    have e1 : rd_T92 (x.set i (⟨mkT v, (rd_T92 x (i : Int)).f1⟩ : S92)) (i : Int) = ⟨mkT v, (rd_T92 x (i : Int)).f1⟩ := by
      rw [rdC_nat _ i (by rw [List.length_set]; exact hil), List.getElem_set_self]
    have hr := ih (i + 1) ((x.set i (⟨mkT v, (rd_T92 x (i : Int)).f1⟩ : S92)).set i (⟨mkT v, v + 1⟩ : S92)) (v + 1 + 1) (by simp only [List.length_set]; omega) (by omega) (by omega) (by simp only [List.length_set]; exact hl)
    refine Ev.shift ?_
    simp only [laws_markCellS.l0, c1, c2, w1, w2, hup, ↓reduceIte]
    refine Ev.bind ht ?_
    simp only [Option.bind_some, Int.toNat_natCast, e1]
    refine Ev.eq hr ?_
    rw [List.set_set, List.take_succ_eq_append_getElem (by rw [List.length_set]; exact hil), List.getElem_set_self, List.take_set_of_le (Nat.le_refl _), mkCs, List.append_assoc, List.singleton_append]
    congr 1
    omega
theorem heldCells_l0 (d : Nat) : ∀ (p : List S92) (v : Int), 0 ≤ v → v + 2 * d ≤ 4611686018427387904 → p.length + d ≤ 9223372036854775807 →
    Ev (fun k => laws_heldCellS.l0 k (p ++ mkCs d v) v (p.length : Int)) (v + 2 * d) := by
  induction d with
  | zero =>
    intro p v h0 h1 hl
    refine Ev.shift ?_
    have e : v + 2 * ((0 : Nat) : Int) = v := by omega
    simp only [laws_heldCellS.l0, mkCs, List.append_nil, show ¬ (p.length : Int) < (p.length : Int) from by omega, ↓reduceIte, e]
    exact Ev.now _
  | succ d ih =>
    intro p v h0 h1 hl
    have hll : (p ++ mkCs (d + 1) v).length = p.length + (d + 1) := by rw [List.length_append, mkCs_length]
    have hil : p.length < (p ++ mkCs (d + 1) v).length := by omega
    have c1 : (p.length : Int) < ((p ++ mkCs (d + 1) v).length : Int) := by omega
    have c2 : (0 : Int) ≤ (p.length : Int) := by omega
    have hup := int_up hil (by omega)
    have w1 : wrap64 (v + 1) = v + 1 := wrap_id (by omega) (by omega)
    have w2 : wrap64 (v + 1 + 1) = v + 1 + 1 := wrap_id (by omega) (by omega)
    have ht := mkT_ev v (by omega)
    have hr := ih (p ++ [⟨mkT v, v + 1⟩]) (v + 1 + 1) (by omega) (by omega) (by rw [List.length_append, List.length_singleton]; omega)
    have e : p ++ [⟨mkT v, v + 1⟩] ++ mkCs d (v + 1 + 1) = p ++ mkCs (d + 1) v := by rw [mkCs, List.append_assoc, List.singleton_append]
    have e2 : (p ++ [(⟨mkT v, v + 1⟩ : S92)]).length = p.length + 1 := by rw [List.length_append, List.length_singleton]
    have e3 : v + 1 + 1 + 2 * (d : Int) = v + 2 * ((d + 1 : Nat) : Int) := by omega
    have eg : rd_T92 (p ++ mkCs (d + 1) v) (p.length : Int) = ⟨mkT v, v + 1⟩ := by
      rw [rdC_nat _ _ hil, List.getElem_append_right (Nat.le_refl _)]
      simp only [mkCs, Nat.sub_self, List.getElem_cons_zero]
    rw [e, e2, e3] at hr
    refine Ev.shift ?_
    simp only [laws_heldCellS.l0, c1, c2, w1, w2, hup, eg, ↓reduceIte]
    refine Ev.bind ht ?_
    simp only [↓reduceIte]
    exact hr
theorem markCells_ev (x : List S92) (hx : x.length ≤ 4294967300) : Ev (fun k => laws_markCellS.f k x 1) (1 + 2 * (x.length : Int), mkCs x.length 1) := by
  have h := markCells_l0 x.length 0 x 1 (by omega) (by omega) (by omega) (by omega)
  rw [List.take_zero, List.nil_append] at h
  exact h
theorem heldCells_ev (d : Nat) (hd : d ≤ 4294967300) : Ev (fun k => laws_heldCellS.f k (mkCs d 1) 1) (1 + 2 * (d : Int)) := by
  have h := heldCells_l0 d [] 1 (by omega) (by omega) (by simp; omega)
  exact h

noncomputable def mkUs : Nat → Int → List S32
  | 0, _ => []
  | d + 1, v => ⟨mkT v, (Int.tmod (v + 1) 3) == 0, v + 1 + 1⟩ :: mkUs d (v + 1 + 1 + 1)
theorem mkUs_length : ∀ d v, (mkUs d v).length = d
  | 0, _ => rfl
  | d + 1, v => by simp only [mkUs, List.length_cons, mkUs_length d (v + 1 + 1 + 1)]
theorem rdU_nat (l : List S32) (i : Nat) (h : i < l.length) : rd_T32 l (i : Int) = l[i] := getD_nat l _ i h
theorem markUndos_l0 (d : Nat) : ∀ (i : Nat) (x : List S32) (v : Int), i + d = x.length → 0 ≤ v → v + 3 * d ≤ 4611686018427387904 → x.length ≤ 9223372036854775807 →
    Ev (fun k => laws_markUndoS.l0 k x v (i : Int)) (v + 3 * d, x.take i ++ mkUs d v) := by
  induction d with
  | zero =>
    intro i x v hi h0 h1 hl
    refine Ev.shift ?_
    simp only [laws_markUndoS.l0, show ¬ (i : Int) < (x.length : Int) from by omega, ↓reduceIte]
    refine Ev.eq (Ev.now _) ?_
    rw [List.take_of_length_le (by omega), mkUs, List.append_nil]
    simp
  | succ d ih =>
    intro i x v hi h0 h1 hl
    have hil : i < x.length := by omega
    have c1 : (i : Int) < (x.length : Int) := by omega
    have c2 : (0 : Int) ≤ (i : Int) := by omega
    have hup := int_up hil hl
    have w1 : wrap64 (v + 1) = v + 1 := wrap_id (by omega) (by omega)
    have w2 : wrap64 (v + 1 + 1) = v + 1 + 1 := wrap_id (by omega) (by omega)
    have w3 : wrap64 (v + 1 + 1 + 1) = v + 1 + 1 + 1 := wrap_id (by omega) (by omega)
    have ht := mkT_ev v (by omega)
    have e1 : ∀ y : S32, rd_T32 (x.set i y) (i : Int) = y := fun y => by
      rw [rdU_nat _ i (by rw [List.length_set]; exact hil), List.getElem_set_self]
    have hr := ih (i + 1) (x.set i (⟨mkT v, (Int.tmod (v + 1) 3) == 0, v + 1 + 1⟩ : S32)) (v + 1 + 1 + 1) (by simp only [List.length_set]; omega) (by omega) (by omega) (by simp only [List.length_set]; exact hl)
    refine Ev.shift ?_
    simp only [laws_markUndoS.l0, c1, c2, w1, w2, w3, hup, ↓reduceIte]
    refine Ev.bind ht ?_
    simp only [Option.bind_some, Int.toNat_natCast, e1, List.set_set]
    refine Ev.eq hr ?_
    rw [List.take_succ_eq_append_getElem (by rw [List.length_set]; exact hil), List.getElem_set_self, List.take_set_of_le (Nat.le_refl _), mkUs, List.append_assoc, List.singleton_append]
    congr 1
    omega
theorem markUndos_ev (x : List S32) (v : Int) (h0 : 0 ≤ v) (h1 : v + 3 * x.length ≤ 4611686018427387904) : Ev (fun k => laws_markUndoS.f k x v) (v + 3 * (x.length : Int), mkUs x.length v) := by
  have h := markUndos_l0 x.length 0 x v (by omega) h0 h1 (by omega)
  rw [List.take_zero, List.nil_append] at h
  exact h

theorem FnExactUndoneAll : laws_FnExactUndoneAll.Pure := by
  intro l us hl hu
  obtain ⟨r, hr, hq⟩ := cells_cases l hl 1048576 (by decide) (by decide)
  refine Ev.rounds ?_
  unfold laws_FnExactUndoneAll.f
  refine Ev.bind hr ?_
  rcases hq with hq | ⟨hq, hr1, hr0, h1, ht, he, hm, hk⟩
  · simp only [hq, ↓reduceIte]
    exact Ev.now _
  · simp only [hq, ↓reduceIte]
    obtain ⟨r2, hr2, hq2⟩ := undos_cases us hu r hr0 hr1
    refine Ev.bind hr2 ?_
    rcases hq2 with hq2 | ⟨hq2, _, _, g1, gt, ge, gm, gk⟩
    · simp only [hq2, ↓reduceIte]
      exact Ev.now _
    · simp only [hq2, ↓reduceIte]
      have hk2 : ∀ c ∈ l.map cvCell, c.f0.size ≤ 140737488351232 := fun c hc => Nat.le_trans (hk c hc) (by decide)
      have gk2 : ∀ u ∈ us.map cvUndo, u.f0.size ≤ 140737488351232 := fun c hc => Nat.le_trans (gk c hc) (by decide)
      have hsp := spec_UndoneAll_ev (us.map cvUndo) (by omega) gk2 (l.map cvCell) (by omega) hk2
      have him := impl_UndoneAll_ev (us.map cvUndo) (by omega) gk2 (l.map cvCell) (by omega) hk2
      have hg := undDown_good (us.map cvUndo) (N := 1048576) (by decide) gk2 (us.map cvUndo).length (l.map cvCell) (Nat.le_refl _) hm hk2
      generalize undDown (us.map cvUndo) (us.map cvUndo).length (l.map cvCell) = R at hsp him hg
      have hul := hg.1
      have heu := laws_eqCellS_ev R (by omega)
      have hmk := markCells_ev R (by omega)
      have hhd := heldCells_ev R.length (by omega)
      have hmx := markCells_ev (l.map cvCell) (by omega)
      have hmu := markUndos_ev (us.map cvUndo) (1 + 2 * ((l.map cvCell).length : Int)) (by omega) (by omega)
      have n0 : ¬ (1 + 2 * (R.length : Int)) < 0 := by omega
      have n1 : ¬ (1 + 2 * ((l.map cvCell).length : Int) + 3 * ((us.map cvUndo).length : Int)) < 0 := by omega
      refine Ev.bind ht (Ev.bind gt (Ev.bind hsp (Ev.bind ht (Ev.bind gt (Ev.bind him (Ev.bind heu ?_))))))
      simp only [↓reduceIte]
      refine Ev.bind ht (Ev.bind he ?_)
      simp only [↓reduceIte]
      refine Ev.bind gt (Ev.bind ge ?_)
      simp only [↓reduceIte]
      refine Ev.bind hmx (Ev.bind hmu ?_)
      simp only [n1, ↓reduceIte]
      refine Ev.bind heu ?_
      simp only [Bool.not_true]
      refine Ev.shift ?_
      simp only [laws_FnExactUndoneAll.j0, Bool.false_eq_true, ↓reduceIte]
      refine Ev.bind hmk (Ev.bind hhd ?_)
      simp only [n0, ↓reduceIte]
      refine Ev.bind ht (Ev.bind gt (Ev.bind him (Ev.bind heu ?_)))
      simp only [↓reduceIte]
      refine Ev.bind hhd ?_
      simp only [n0, ↓reduceIte]
      exact Ev.now _

end Go.Proofs.Ytdompbebeognmaa.Pure
