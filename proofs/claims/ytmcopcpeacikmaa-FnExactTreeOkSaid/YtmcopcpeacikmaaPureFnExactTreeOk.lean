/- For every input that the statement reads, the law FnExactTreeOk of the given program returns true and leaves its arguments as they were. Conditions: none but the statement's own. -/
import Derived.Test.YtmcopcpeacikmaaStmFnExactTreeOk
import Derived.Test.YtmcopcpeacikmaaTLib
import Derived.Test.YtmcopcpeacikmaaTLibList
set_option linter.unusedVariables false
set_option linter.unusedSimpArgs false
namespace Go.Proofs.Ytmcopcpeacikmaa.Pure
open Go.RowKit Go.Proofs.Ytmcopcpeacikmaa.QFnExactTreeOk Go.Proofs.YtmcopcpeacikmaaW.PrintWords Go.Proofs.YtmcopcpeacikmaaW.PrintLast Go.Proofs.YtmcopcpeacikmaaW.PrintMore Go.Proofs.Ytmcopcpeacikmaa.Lib

def cvCmd (x : S116) : S95 := ⟨x.f0, x.f1, x.f2⟩
theorem rdLCmd_nat (l : List S116) (i : Nat) (h : i < l.length) : rd_T116 l (i : Int) = l[i] := getD_nat l _ i h
theorem rdCmd_nat (l : List S95) (i : Nat) (h : i < l.length) : rd_T95 l (i : Int) = l[i] := getD_nat l _ i h
theorem laws_szCmd_eq (a : Int) (s : ByteArray) (b x : Int) (hs : s.size ≤ 9223372036854775807) (h0 : 0 ≤ x) (h1 : x ≤ 1048576) :
    laws_szCmd.f a s b x = some (if x - (s.size : Int) < 0 then -1 else x - (s.size : Int)) := by
  unfold laws_szCmd.f
  rw [wrap_id (by omega) (by omega)]
  split <;> rfl
/-- What is left when a row of commands is counted. -/
def CmdsFit (l : List S116) (x : Int) : Prop := (l.length : Int) ≤ x ∧ ∀ c ∈ l, (c.f1.size : Int) ≤ x
theorem laws_szCmdS_l0 (l : List S116) (hl : l.length ≤ 1048576) (hk : ∀ c ∈ l, c.f1.size ≤ 9223372036854775807) (d : Nat) : ∀ (i : Nat) (x : Int), i + d = l.length → 0 ≤ x → x ≤ 1048576 →
    ∃ r, Ev (fun k => laws_szCmdS.l0 k l x (i : Int)) r ∧ (r = -1 ∨ (0 ≤ r ∧ r ≤ x ∧ ∀ j : Nat, i ≤ j → ∀ h : j < l.length, ((l[j]).f1.size : Int) ≤ x)) := by
  induction d with
  | zero =>
    intro i x hi h0 h1
    refine ⟨x, Ev.shift ?_, .inr ⟨h0, Int.le_refl _, fun j hj h => by omega⟩⟩
    simp only [laws_szCmdS.l0, show ¬ (i : Int) < (l.length : Int) from by omega, ↓reduceIte]
    exact Ev.now _
  | succ d ih =>
    intro i x hi h0 h1
    have hil : i < l.length := by omega
    have c1 : (i : Int) < (l.length : Int) := by omega
    have c2 : (0 : Int) ≤ (i : Int) := by omega
    have hup := int_up hil (by omega)
    have hz := laws_szCmd_eq l[i].f0 l[i].f1 l[i].f2 x (hk _ (List.getElem_mem hil)) h0 h1
    by_cases hneg : x - (l[i].f1.size : Int) < 0
    · refine ⟨-1, Ev.shift ?_, .inl rfl⟩
      rw [if_pos hneg] at hz
      simp only [laws_szCmdS.l0, c1, c2, rdLCmd_nat l i hil, hz, Option.bind_some, ↓reduceIte, show ((-1 : Int) < 0) = True from eq_true (by decide)]
      exact Ev.now _
    · obtain ⟨r, hr, hq⟩ := ih (i + 1) (x - (l[i].f1.size : Int)) (by omega) (by omega) (by omega)
      refine ⟨r, Ev.shift ?_, ?_⟩
      · rw [if_neg hneg] at hz
        simp only [laws_szCmdS.l0, c1, c2, rdLCmd_nat l i hil, hz, Option.bind_some, ↓reduceIte, hneg, hup]
        exact hr
      · rcases hq with hq | ⟨q0, q1, q2⟩
        · exact .inl hq
        · refine .inr ⟨q0, by omega, fun j hj h => ?_⟩
          by_cases e : j = i
          · subst e
            omega
          · have := q2 j (by omega) h
            omega
theorem laws_szCmdS_ev (l : List S116) (hl : l.length ≤ 9223372036854775807) (hk : ∀ c ∈ l, c.f1.size ≤ 9223372036854775807) (x : Int) (h0 : 0 ≤ x) (h1 : x ≤ 1048576) :
    ∃ r, Ev (fun k => laws_szCmdS.f k l x) r ∧ (r = -1 ∨ (0 ≤ r ∧ r ≤ x ∧ CmdsFit l x)) := by
  have e : wrap64 (x - (l.length : Int)) = x - (l.length : Int) := wrap_id (by omega) (by omega)
  by_cases hneg : x - (l.length : Int) < 0
  · refine ⟨-1, ?_, .inl rfl⟩
    unfold laws_szCmdS.f
    simp only [e, hneg, ↓reduceIte]
    exact Ev.now _
  · obtain ⟨r, hr, hq⟩ := laws_szCmdS_l0 l (by omega) hk l.length 0 (x - (l.length : Int)) (by omega) (by omega) (by omega)
    refine ⟨r, ?_, ?_⟩
    · unfold laws_szCmdS.f
      simp only [e, hneg, ↓reduceIte]
      exact hr
    · rcases hq with hq | ⟨q0, q1, q2⟩
      · exact .inl hq
      · refine .inr ⟨q0, by omega, by omega, fun c hc => ?_⟩
        obtain ⟨j, hj, rfl⟩ := List.getElem_of_mem hc
        have := q2 j (by omega) hj
        omega
theorem laws_toCmdS_l0 (l : List S116) (hl : l.length ≤ 1048576) (d : Nat) : ∀ i : Nat, i + d = l.length →
    Ev (fun k => laws_toCmdS.l0 k l ((l.map cvCmd).take i ++ List.replicate ((l.map cvCmd).length - i) z95) (i : Int)) (l.map cvCmd) := by
  have hm : (l.map cvCmd).length = l.length := List.length_map ..
  induction d with
  | zero =>
    intro i hi
    obtain rfl : i = (l.map cvCmd).length := by omega
    refine Ev.shift ?_
    simp only [laws_toCmdS.l0, show ¬ ((l.map cvCmd).length : Int) < (l.length : Int) from by omega, ↓reduceIte, fill_all]
    exact Ev.now _
  | succ d ih =>
    intro i hi
    have h := ih (i + 1) (by omega)
    have hil : i < l.length := by omega
    have him : i < (l.map cvCmd).length := by omega
    refine Ev.shift ?_
    have c1 : (i : Int) < (l.length : Int) := by omega
    have c2 : (0 : Int) ≤ (i : Int) := by omega
    have c3 : (i : Int) < (((l.map cvCmd).take i ++ List.replicate ((l.map cvCmd).length - i) z95).length : Int) := by rw [fill_length _ _ i (by omega)]; omega
    have hup := int_up hil (by omega)
    have hset := fill_set (l.map cvCmd) z95 i him
    rw [List.getElem_map] at hset
    simp only [laws_toCmdS.l0, c1, c2, ↓reduceIte, rdLCmd_nat l i hil, laws_toCmd.f, Option.bind_some, c3, hup, Int.toNat_natCast]
    rw [show (⟨l[i].f0, l[i].f1, l[i].f2⟩ : S95) = cvCmd l[i] from rfl, hset]
    exact h
theorem laws_toCmdS_ev (l : List S116) (hl : l.length ≤ 1048576) : Ev (fun k => laws_toCmdS.f k l) (l.map cvCmd) := by
  unfold laws_toCmdS.f
  have c1 : (0 : Int) ≤ (l.length : Int) := by omega
  have c2 : l.length ≤ 8796093022208 := by omega
  simp only [c1, Int.toNat_natCast, c2, ↓reduceIte]
  have h := laws_toCmdS_l0 l hl l.length 0 (by omega)
  rw [fill_none, List.length_map] at h
  exact h
theorem laws_eqCmdS_l0 (l : List S95) (hl : l.length ≤ 9223372036854775807) (d : Nat) : ∀ i : Nat, i + d = l.length → Ev (fun k => laws_eqCmdS.l0 k l l (i : Int)) true := by
  induction d with
  | zero =>
    intro i hi
    refine Ev.shift ?_
    simp only [laws_eqCmdS.l0, show ¬ (i : Int) < (l.length : Int) from by omega, ↓reduceIte]
    exact Ev.now _
  | succ d ih =>
    intro i hi
    have h := ih (i + 1) (by omega)
    have hil : i < l.length := by omega
    refine Ev.shift ?_
    have c1 : (i : Int) < (l.length : Int) := by omega
    have c2 : (0 : Int) ≤ (i : Int) := by omega
    simp only [laws_eqCmdS.l0, c1, c2, ↓reduceIte, laws_eqCmd.f, Option.bind_some, int_up hil hl]
    exact h
theorem laws_eqCmdS_ev (l : List S95) (hl : l.length ≤ 9223372036854775807) : Ev (fun k => laws_eqCmdS.f k l l) true := by
  unfold laws_eqCmdS.f
  simp only [↓reduceIte]
  exact laws_eqCmdS_l0 l hl l.length 0 (by omega)

def cvQc (x : S44) : S25 := ⟨x.f0, x.f1, x.f2, x.f3⟩
def cvBlock (x : S58) : S63 := ⟨x.f0, x.f1, x.f2.map cvCmd, cvQc x.f3⟩
theorem rdLBlock_nat (l : List S58) (i : Nat) (h : i < l.length) : rd_T58 l (i : Int) = l[i] := getD_nat l _ i h
theorem rdBlock_nat (l : List S63) (i : Nat) (h : i < l.length) : rd_T63 l (i : Int) = l[i] := getD_nat l _ i h
def BlockFit (b : S58) (x : Int) : Prop := CmdsFit b.f2 x
def BlockGood (b : S58) : Prop := b.f2.length ≤ 9223372036854775807 ∧ ∀ c ∈ b.f2, c.f1.size ≤ 9223372036854775807
theorem wf_good {b : S58} (h : WF58 b) : BlockGood b := ⟨h.2.2.1.1, fun c hc => (h.2.2.1.2 c hc).2.1⟩
theorem laws_szBlock_ev (b : S58) (hb : BlockGood b) (x : Int) (h0 : 0 ≤ x) (h1 : x ≤ 1048576) :
    ∃ r, Ev (fun k => laws_szBlock.f k b.f0 b.f1 b.f2 b.f3.f0 b.f3.f1 b.f3.f2 b.f3.f3 x) r ∧ (r = -1 ∨ (0 ≤ r ∧ r ≤ x ∧ BlockFit b x)) := by
  obtain ⟨r, hr, hq⟩ := laws_szCmdS_ev b.f2 hb.1 hb.2 x h0 h1
  refine ⟨r, ?_, hq⟩
  unfold laws_szBlock.f
  refine Ev.bind hr ?_
  rcases hq with rfl | ⟨q0, _, _⟩
  · simp only [show ((-1 : Int) < 0) = True from eq_true (by decide), ↓reduceIte]
    exact Ev.now _
  · simp only [show ¬ r < 0 from by omega, ↓reduceIte]
    exact Ev.now _
theorem laws_szBlockS_l0 (l : List S58) (hl : l.length ≤ 1048576) (hk : ∀ b ∈ l, BlockGood b) (d : Nat) : ∀ (i : Nat) (x : Int), i + d = l.length → 0 ≤ x → x ≤ 1048576 →
    ∃ r, Ev (fun k => laws_szBlockS.l0 k l x (i : Int)) r ∧ (r = -1 ∨ (0 ≤ r ∧ r ≤ x ∧ ∀ j : Nat, i ≤ j → ∀ h : j < l.length, BlockFit l[j] x)) := by
  induction d with
  | zero =>
    intro i x hi h0 h1
    refine ⟨x, Ev.shift ?_, .inr ⟨h0, Int.le_refl _, fun j hj h => by omega⟩⟩
    simp only [laws_szBlockS.l0, show ¬ (i : Int) < (l.length : Int) from by omega, ↓reduceIte]
    exact Ev.now _
  | succ d ih =>
    intro i x hi h0 h1
    have hil : i < l.length := by omega
    have c1 : (i : Int) < (l.length : Int) := by omega
    have c2 : (0 : Int) ≤ (i : Int) := by omega
    have hup := int_up hil (by omega)
    obtain ⟨t, ht, hq0⟩ := laws_szBlock_ev l[i] (hk _ (List.getElem_mem hil)) x h0 h1
    rcases hq0 with rfl | ⟨t0, t1, t2⟩
    · refine ⟨-1, Ev.shift ?_, .inl rfl⟩
      simp only [laws_szBlockS.l0, c1, c2, rdLBlock_nat l i hil, ↓reduceIte]
      refine Ev.bind ht ?_
      simp only [show ((-1 : Int) < 0) = True from eq_true (by decide), ↓reduceIte]
      exact Ev.now _
    · obtain ⟨r, hr, hq⟩ := ih (i + 1) t (by omega) (by omega) (by omega)
      refine ⟨r, Ev.shift ?_, ?_⟩
      · simp only [laws_szBlockS.l0, c1, c2, rdLBlock_nat l i hil, ↓reduceIte]
        refine Ev.bind ht ?_
        simp only [show ¬ t < 0 from by omega, ↓reduceIte, hup]
        exact hr
      · rcases hq with hq | ⟨q0, q1, q2⟩
        · exact .inl hq
        · refine .inr ⟨q0, by omega, fun j hj h => ?_⟩
          by_cases e : j = i
          · subst e
            exact t2
          · have q := q2 j (by omega) h
            exact ⟨Int.le_trans q.1 t1, fun c hc => Int.le_trans (q.2 c hc) t1⟩
theorem laws_szBlockS_ev (l : List S58) (hl : l.length ≤ 9223372036854775807) (hk : ∀ b ∈ l, BlockGood b) (x : Int) (h0 : 0 ≤ x) (h1 : x ≤ 1048576) :
    ∃ r, Ev (fun k => laws_szBlockS.f k l x) r ∧ (r = -1 ∨ (0 ≤ r ∧ r ≤ x ∧ (l.length : Int) ≤ x ∧ ∀ b ∈ l, BlockFit b x)) := by
  have e : wrap64 (x - (l.length : Int)) = x - (l.length : Int) := wrap_id (by omega) (by omega)
  by_cases hneg : x - (l.length : Int) < 0
  · refine ⟨-1, ?_, .inl rfl⟩
    unfold laws_szBlockS.f
    simp only [e, hneg, ↓reduceIte]
    exact Ev.now _
  · obtain ⟨r, hr, hq⟩ := laws_szBlockS_l0 l (by omega) hk l.length 0 (x - (l.length : Int)) (by omega) (by omega) (by omega)
    refine ⟨r, ?_, ?_⟩
    · unfold laws_szBlockS.f
      simp only [e, hneg, ↓reduceIte]
      exact hr
    · rcases hq with hq | ⟨q0, q1, q2⟩
      · exact .inl hq
      · refine .inr ⟨q0, by omega, by omega, fun b hb => ?_⟩
        obtain ⟨j, hj, rfl⟩ := List.getElem_of_mem hb
        have q := q2 j (by omega) hj
        exact ⟨Int.le_trans q.1 (by omega), fun c hc => Int.le_trans (q.2 c hc) (by omega)⟩
theorem laws_toBlock_ev (b : S58) (hb : b.f2.length ≤ 1048576) : Ev (fun k => laws_toBlock.f k b.f0 b.f1 b.f2 b.f3.f0 b.f3.f1 b.f3.f2 b.f3.f3) (b.f0, b.f1, b.f2.map cvCmd, b.f3.f0, b.f3.f1, b.f3.f2, b.f3.f3) := by
  unfold laws_toBlock.f laws_toQc.f
  exact Ev.bind (laws_toCmdS_ev b.f2 hb) (Ev.now _)
theorem laws_toBlockS_l0 (l : List S58) (hl : l.length ≤ 1048576) (hk : ∀ b ∈ l, b.f2.length ≤ 1048576) (d : Nat) : ∀ i : Nat, i + d = l.length →
    Ev (fun k => laws_toBlockS.l0 k l ((l.map cvBlock).take i ++ List.replicate ((l.map cvBlock).length - i) z63) (i : Int)) (l.map cvBlock) := by
  have hm : (l.map cvBlock).length = l.length := List.length_map ..
  induction d with
  | zero =>
    intro i hi
    obtain rfl : i = (l.map cvBlock).length := by omega
    refine Ev.shift ?_
    simp only [laws_toBlockS.l0, show ¬ ((l.map cvBlock).length : Int) < (l.length : Int) from by omega, ↓reduceIte, fill_all]
    exact Ev.now _
  | succ d ih =>
    intro i hi
    have h := ih (i + 1) (by omega)
    have hil : i < l.length := by omega
    have him : i < (l.map cvBlock).length := by omega
    refine Ev.shift ?_
    have c1 : (i : Int) < (l.length : Int) := by omega
    have c2 : (0 : Int) ≤ (i : Int) := by omega
    have c3 : (i : Int) < (((l.map cvBlock).take i ++ List.replicate ((l.map cvBlock).length - i) z63).length : Int) := by rw [fill_length _ _ i (by omega)]; omega
    have hup := int_up hil (by omega)
    have hset := fill_set (l.map cvBlock) z63 i him
    rw [List.getElem_map] at hset
    simp only [laws_toBlockS.l0, c1, c2, ↓reduceIte, rdLBlock_nat l i hil]
    refine Ev.bind (laws_toBlock_ev l[i] (hk _ (List.getElem_mem hil))) ?_
    simp only [c3, ↓reduceIte, hup, Int.toNat_natCast]
    rw [show (⟨l[i].f0, l[i].f1, l[i].f2.map cvCmd, (⟨l[i].f3.f0, l[i].f3.f1, l[i].f3.f2, l[i].f3.f3⟩ : S25)⟩ : S63) = cvBlock l[i] from rfl, hset]
    exact h
theorem laws_toBlockS_ev (l : List S58) (hl : l.length ≤ 1048576) (hk : ∀ b ∈ l, b.f2.length ≤ 1048576) : Ev (fun k => laws_toBlockS.f k l) (l.map cvBlock) := by
  unfold laws_toBlockS.f
  have c1 : (0 : Int) ≤ (l.length : Int) := by omega
  have c2 : l.length ≤ 3909374676536 := by omega
  simp only [c1, Int.toNat_natCast, c2, ↓reduceIte]
  have h := laws_toBlockS_l0 l hl hk l.length 0 (by omega)
  rw [fill_none, List.length_map] at h
  exact h
theorem laws_eqBlock_ev (b : S63) (hb : b.f2.length ≤ 9223372036854775807) : Ev (fun k => laws_eqBlock.f k b.f0 b.f1 b.f2 b.f3.f0 b.f3.f1 b.f3.f2 b.f3.f3 b.f0 b.f1 b.f2 b.f3.f0 b.f3.f1 b.f3.f2 b.f3.f3) true := by
  unfold laws_eqBlock.f
  simp only [↓reduceIte]
  refine Ev.bind (laws_eqCmdS_ev b.f2 hb) ?_
  simp only [laws_eqQc.f, ↓reduceIte, Option.bind_some]
  exact Ev.now _
theorem laws_eqBlockS_l0 (l : List S63) (hl : l.length ≤ 9223372036854775807) (hk : ∀ b ∈ l, b.f2.length ≤ 9223372036854775807) (d : Nat) : ∀ i : Nat, i + d = l.length → Ev (fun k => laws_eqBlockS.l0 k l l (i : Int)) true := by
  induction d with
  | zero =>
    intro i hi
    refine Ev.shift ?_
    simp only [laws_eqBlockS.l0, show ¬ (i : Int) < (l.length : Int) from by omega, ↓reduceIte]
    exact Ev.now _
  | succ d ih =>
    intro i hi
    have h := ih (i + 1) (by omega)
    have hil : i < l.length := by omega
    refine Ev.shift ?_
    have c1 : (i : Int) < (l.length : Int) := by omega
    have c2 : (0 : Int) ≤ (i : Int) := by omega
    simp only [laws_eqBlockS.l0, c1, c2, ↓reduceIte, rdBlock_nat l i hil]
    refine Ev.bind (laws_eqBlock_ev l[i] (hk _ (List.getElem_mem hil))) ?_
    simp only [↓reduceIte, int_up hil hl]
    exact h
theorem laws_eqBlockS_ev (l : List S63) (hl : l.length ≤ 9223372036854775807) (hk : ∀ b ∈ l, b.f2.length ≤ 9223372036854775807) : Ev (fun k => laws_eqBlockS.f k l l) true := by
  unfold laws_eqBlockS.f
  simp only [↓reduceIte]
  exact laws_eqBlockS_l0 l hl hk l.length 0 (by omega)
/-- What every statement over a tree begins with: too much, or a tree that fits. -/
theorem tree_cases (l : List S58) (hl : l.length ≤ 9223372036854775807 ∧ ∀ b ∈ l, WF58 b) :
    ∃ r, Ev (fun k => laws_szBlockS.f k l 1048576) r ∧ (r < 0 ∨ (¬ r < 0 ∧ r ≤ 1048576 ∧ l.length ≤ 1048576 ∧ (∀ b ∈ l, CmdsFit b.f2 1048576) ∧ Ev (fun k => laws_toBlockS.f k l) (l.map cvBlock) ∧
      Ev (fun k => laws_eqBlockS.f k (l.map cvBlock) (l.map cvBlock)) true ∧ (l.map cvBlock).length ≤ 1048576)) := by
  obtain ⟨r, hr, hq⟩ := laws_szBlockS_ev l hl.1 (fun b hb => wf_good (hl.2 b hb)) 1048576 (by decide) (by decide)
  refine ⟨r, hr, ?_⟩
  rcases hq with rfl | ⟨q0, q1, q2, q3⟩
  · exact .inl (by decide)
  · have h1 : l.length ≤ 1048576 := by omega
    have h2 : ∀ b ∈ l, b.f2.length ≤ 1048576 := fun b hb => by have := (q3 b hb).1; omega
    refine .inr ⟨by omega, q1, h1, q3, laws_toBlockS_ev l h1 h2, laws_eqBlockS_ev _ (by rw [List.length_map]; omega) (fun b hb => ?_), by rw [List.length_map]; omega⟩
    obtain ⟨a, ha, rfl⟩ := List.mem_map.1 hb
    show (a.f2.map cvCmd).length ≤ _
    rw [List.length_map]
    have := h2 a ha
    omega

theorem spec_l01In_eq (a b c : Int) : spec_l01In.f a b c = some (decide (b ≤ a ∧ a ≤ c)) := by
  unfold spec_l01In.f
  by_cases h : a ≥ b
  · simp [h]
  · have h' : ¬ b ≤ a := by omega
    simp [h, h']

theorem spec_KeyOk_l0 (s : ByteArray) (hs : s.size ≤ 140737488351232) (d : Nat) : ∀ i : Nat, i + d = s.size → (∀ j : Nat, j < i → 97 ≤ bt s j ∧ bt s j ≤ 122) → Ev (fun k => spec_KeyOk.l0 k s (i : Int)) (keyB s) := by
  induction d with
  | zero =>
    intro i hi h
    obtain rfl : i = s.size := by omega
    refine Ev.shift ?_
    simp only [spec_KeyOk.l0, show ¬ (s.size : Int) < s.size from by omega, ↓reduceIte, spec_l01In_eq, Option.bind_some]
    rw [keyB_low h]
    exact Ev.now _
  | succ d ih =>
    intro i hi h
    refine Ev.shift ?_
    have h1 : (i : Int) < s.size := by omega
    have h4 : (0 : Int) ≤ i := by omega
    have h6 : wrap64 ((i : Int) + 1) = ((i + 1 : Nat) : Int) := by rw [wrap_id (by omega) (by omega)]; omega
    by_cases ha : bt s (i : Int) < 97
    · simp only [spec_KeyOk.l0, h1, h4, ha, ↓reduceIte]
      rw [keyB_not (i := i) (by omega) (by omega)]
      exact Ev.now _
    · by_cases hb : bt s (i : Int) > 122
      · simp only [spec_KeyOk.l0, h1, h4, ha, hb, ↓reduceIte]
        rw [keyB_not (i := i) (by omega) (by omega)]
        exact Ev.now _
      · simp only [spec_KeyOk.l0, h1, h4, ha, hb, h6, ↓reduceIte]
        refine ih (i + 1) (by omega) fun j hj => ?_
        by_cases he : j = i
        · subst he
          omega
        · exact h j (by omega)
theorem spec_KeyOk_ev (s : ByteArray) (hs : s.size ≤ 140737488351232) : Ev (fun k => spec_KeyOk.f k s) (keyB s) :=
  spec_KeyOk_l0 s hs s.size 0 (by omega) (fun j hj => by omega)

def cmdB (kind : Int) (key : ByteArray) (num : Int) : Bool := decide (1 ≤ kind ∧ kind ≤ 3) && (keyB key && decide (0 ≤ num ∧ num ≤ 1000000000))
theorem spec_CmdOk_ev (a : Int) {s : ByteArray} (b : Int) (hs : s.size ≤ 140737488351232) : Ev (fun k => spec_CmdOk.f k a s b) (cmdB a s b) := by
  unfold spec_CmdOk.f cmdB
  simp only [spec_l01In_eq, Option.bind_some]
  by_cases h : decide (1 ≤ a ∧ a ≤ 3) = true
  · simp only [h, ↓reduceIte, Bool.true_and]
    refine Ev.bind (spec_KeyOk_ev s hs) ?_
    by_cases hk : keyB s = true
    · simp only [hk, ↓reduceIte, Bool.true_and]
      exact Ev.now _
    · simp only [Bool.not_eq_true] at hk
      simp only [hk, ↓reduceIte, Bool.false_and, Bool.false_eq_true]
      exact Ev.now _
  · simp only [Bool.not_eq_true] at h
    simp only [h, ↓reduceIte, Bool.false_and, Bool.false_eq_true]
    exact Ev.now _

theorem impl_in_eq (a b c : Int) : impl_in.f a b c = some (decide (b ≤ a ∧ a ≤ c)) := by
  unfold impl_in.f
  by_cases h : a ≥ b
  · simp [h]
  · have h' : ¬ b ≤ a := by omega
    simp [h, h']

theorem impl_isNum_eq (n : Int) : impl_isNum.f n = some (decide (0 ≤ n ∧ n ≤ 1000000000)) := by
  unfold impl_isNum.f
  rw [impl_in_eq]
  rfl

theorem impl_KeyOk_l0 (s : ByteArray) (hs : s.size ≤ 140737488351232) (d : Nat) : ∀ i : Nat, i + d = s.size → (∀ j : Nat, j < i → 97 ≤ bt s j ∧ bt s j ≤ 122) → Ev (fun k => impl_KeyOk.l0 k s (s.size : Int) (i : Int)) (keyB s) := by
  induction d with
  | zero =>
    intro i hi h
    obtain rfl : i = s.size := by omega
    refine Ev.shift ?_
    simp only [impl_KeyOk.l0, show ¬ (s.size : Int) < s.size from by omega, ↓reduceIte, impl_in_eq, Option.bind_some]
    rw [keyB_low h]
    exact Ev.now _
  | succ d ih =>
    intro i hi h
    refine Ev.shift ?_
    have h1 : (i : Int) < s.size := by omega
    have h4 : (0 : Int) ≤ i := by omega
    have h6 : wrap64 ((i : Int) + 1) = ((i + 1 : Nat) : Int) := by rw [wrap_id (by omega) (by omega)]; omega
    by_cases ha : bt s (i : Int) < 97
    · simp only [impl_KeyOk.l0, h1, h4, ha, ↓reduceIte]
      rw [keyB_not (i := i) (by omega) (by omega)]
      exact Ev.now _
    · by_cases hb : bt s (i : Int) > 122
      · simp only [impl_KeyOk.l0, h1, h4, ha, hb, ↓reduceIte]
        rw [keyB_not (i := i) (by omega) (by omega)]
        exact Ev.now _
      · simp only [impl_KeyOk.l0, h1, h4, ha, hb, h6, ↓reduceIte]
        refine ih (i + 1) (by omega) fun j hj => ?_
        by_cases he : j = i
        · subst he
          omega
        · exact h j (by omega)
theorem impl_KeyOk_ev (s : ByteArray) (hs : s.size ≤ 140737488351232) : Ev (fun k => impl_KeyOk.f k s) (keyB s) :=
  impl_KeyOk_l0 s hs s.size 0 (by omega) (fun j hj => by omega)

theorem impl_CmdOk_ev (a : Int) {s : ByteArray} (b : Int) (hs : s.size ≤ 140737488351232) : Ev (fun k => impl_CmdOk.f k a s b) (cmdB a s b) := by
  unfold impl_CmdOk.f cmdB
  simp only [impl_in_eq, impl_isNum_eq, Option.bind_some]
  by_cases h : decide (1 ≤ a ∧ a ≤ 3) = true
  · simp only [h, ↓reduceIte, Bool.true_and]
    refine Ev.bind (impl_KeyOk_ev s hs) ?_
    by_cases hk : keyB s = true
    · simp only [hk, ↓reduceIte, Bool.true_and]
      exact Ev.now _
    · simp only [Bool.not_eq_true] at hk
      simp only [hk, ↓reduceIte, Bool.false_and, Bool.false_eq_true]
      exact Ev.now _
  · simp only [Bool.not_eq_true] at h
    simp only [h, ↓reduceIte, Bool.false_and, Bool.false_eq_true]
    exact Ev.now _

def okC (c : S95) : Bool := cmdB c.f0 c.f1 c.f2
def finB (t : List S63) (a0 a4 a5 : Int) : Bool := if a5 = a0 then a4 == (rd_T63 t a0).f1 else false
def blockB (t : List S63) (a0 a1 : Int) (c : List S95) (a4 a5 : Int) : Bool :=
  if 0 ≤ a0 ∧ a0 ≤ (t.length : Int) - 1 then (if a1 ≤ (rd_T63 t a0).f1 then false else if a1 > 900 then false else if (c.length : Int) > 4 then false else (c.all okC && finB t a0 a4 a5)) else false

def neC (a b : S95) : Bool := !(a.f0 == b.f0) || (!(a.f1.toList == b.f1.toList) || !(a.f2 == b.f2))
def sameL (c e : List S95) : Nat → Nat → Bool
  | 0, _ => true
  | d + 1, i => !(neC (rd_T95 c (i : Int)) (rd_T95 e (i : Int))) && sameL c e d (i + 1)
def sameB (a0 a1 : Int) (c : List S95) (a3 a4 a5 a6 b0 b1 : Int) (e : List S95) (b3 b4 b5 b6 : Int) : Bool :=
  if a0 = b0 then (if a1 = b1 then (if (c.length : Int) = (e.length : Int) then (sameL c e c.length 0 && (a3 == b3 && (a4 == b4 && (a5 == b5 && a6 == b6)))) else false) else false) else false

/-- The first place of a block that says the same; -1 where there is none. -/
def atBl (b0 b1 : Int) (e : List S95) (b3 b4 b5 b6 : Int) : List S63 → Int → Int
  | [], _ => -1
  | x :: xs, i => if sameB x.f0 x.f1 x.f2 x.f3.f0 x.f3.f1 x.f3.f2 x.f3.f3 b0 b1 e b3 b4 b5 b6 = true then i else atBl b0 b1 e b3 b4 b5 b6 xs (i + 1)

def treeB (t : List S63) : Nat → Nat → Bool
  | 0, _ => true
  | d + 1, i => blockB (t.take i) (rd_T63 t (i : Int)).f0 (rd_T63 t (i : Int)).f1 (rd_T63 t (i : Int)).f2 (rd_T63 t (i : Int)).f3.f1 (rd_T63 t (i : Int)).f3.f2 &&
      (decide (atBl (rd_T63 t (i : Int)).f0 (rd_T63 t (i : Int)).f1 (rd_T63 t (i : Int)).f2 (rd_T63 t (i : Int)).f3.f0 (rd_T63 t (i : Int)).f3.f1 (rd_T63 t (i : Int)).f3.f2 (rd_T63 t (i : Int)).f3.f3 t 0 = (i : Int)) && treeB t d (i + 1))
def firstB (x : S63) : Bool := sameB x.f0 x.f1 x.f2 x.f3.f0 x.f3.f1 x.f3.f2 x.f3.f3 (-1) 0 [] 0 0 0 0
def treeAllB (t : List S63) : Bool :=
  if 1 ≤ (t.length : Int) ∧ (t.length : Int) ≤ 60 then (firstB (rd_T63 t 0) && treeB t (t.length - 1) 1) else false
def BlocksGood (t : List S63) : Prop := ∀ x ∈ t, x.f2.length ≤ 9223372036854775807 ∧ ∀ c ∈ x.f2, c.f1.size ≤ 140737488351232
theorem neC_self (a : S95) : neC a a = false := by simp [neC]
theorem sameL_self (c : List S95) : ∀ d i, sameL c c d i = true
  | 0, _ => rfl
  | d + 1, i => by simp only [sameL, neC_self, sameL_self c d (i + 1), Bool.not_false, Bool.true_and]
theorem sameB_self (a0 a1 : Int) (c : List S95) (a3 a4 a5 a6 : Int) : sameB a0 a1 c a3 a4 a5 a6 a0 a1 c a3 a4 a5 a6 = true := by
  simp only [sameB, ↓reduceIte, sameL_self, beq_self_eq_true, Bool.and_self]
theorem atBl_zero (t : List S63) (h : 0 < t.length) :
    atBl (rd_T63 t 0).f0 (rd_T63 t 0).f1 (rd_T63 t 0).f2 (rd_T63 t 0).f3.f0 (rd_T63 t 0).f3.f1 (rd_T63 t 0).f3.f2 (rd_T63 t 0).f3.f3 t 0 = 0 := by
  match t, h with
  | x :: xs, _ =>
    show (if sameB x.f0 x.f1 x.f2 x.f3.f0 x.f3.f1 x.f3.f2 x.f3.f3 x.f0 x.f1 x.f2 x.f3.f0 x.f3.f1 x.f3.f2 x.f3.f3 = true then (0 : Int) else _) = 0
    rw [if_pos (sameB_self _ _ _ _ _ _ _)]

theorem spec_BlockOk_l0 (t : List S63) (a0 a1 : Int) (c : List S95) (a3 a4 a5 a6 : Int) (h0 : 0 ≤ a0) (h1 : a0 < (t.length : Int)) (hl : c.length ≤ 9223372036854775807) (hk : ∀ x ∈ c, x.f1.size ≤ 140737488351232)
    (d : Nat) : ∀ i : Nat, i + d = c.length → Ev (fun k => spec_BlockOk.l0 k t (i : Int) a0 a1 c a3 a4 a5 a6) ((c.drop i).all okC && finB t a0 a4 a5) := by
  induction d with
  | zero =>
    intro i hi
    refine Ev.shift ?_
    rw [List.drop_of_length_le (by omega)]
    simp only [spec_BlockOk.l0, show ¬ (i : Int) < (c.length : Int) from by omega, ↓reduceIte, h0, h1, List.all_nil, Bool.true_and, finB]
    by_cases h : a5 = a0
    · simp only [h, ↓reduceIte]
      exact Ev.now _
    · simp only [h, ↓reduceIte]
      exact Ev.now _
  | succ d ih =>
    intro i hi
    have hr := ih (i + 1) (by omega)
    have hil : i < c.length := by omega
    have c1 : (i : Int) < (c.length : Int) := by omega
    have c2 : (0 : Int) ≤ (i : Int) := by omega
    have hup := int_up hil hl
    have hs : (c[i]).f1.size ≤ 140737488351232 := hk _ (List.getElem_mem hil)
    have he := spec_CmdOk_ev (c[i]).f0 (c[i]).f2 hs
    refine Ev.shift ?_
    rw [List.drop_eq_getElem_cons hil, List.all_cons]
    simp only [spec_BlockOk.l0, c1, c2, rdCmd_nat c i hil, hup, ↓reduceIte]
    refine Ev.bind he ?_
    by_cases h : cmdB (c[i]).f0 (c[i]).f1 (c[i]).f2 = true
    · simp only [okC, h, ↓reduceIte, Bool.true_and]
      exact hr
    · simp only [Bool.not_eq_true] at h
      simp only [okC, h, ↓reduceIte, Bool.false_and, Bool.false_eq_true]
      exact Ev.now _
theorem spec_BlockOk_ev (t : List S63) (ht : t.length ≤ 1048576) (a0 a1 : Int) (c : List S95) (a3 a4 a5 a6 : Int) (hl : c.length ≤ 9223372036854775807) (hk : ∀ x ∈ c, x.f1.size ≤ 140737488351232) :
    Ev (fun k => spec_BlockOk.f k t a0 a1 c a3 a4 a5 a6) (blockB t a0 a1 c a4 a5) := by
  have e : wrap64 ((t.length : Int) - 1) = (t.length : Int) - 1 := wrap_id (by omega) (by omega)
  unfold spec_BlockOk.f blockB
  simp only [spec_l01In_eq, Option.bind_some, e]
  by_cases h : 0 ≤ a0 ∧ a0 ≤ (t.length : Int) - 1
  · have c1 : a0 < (t.length : Int) := by omega
    simp only [decide_eq_true h, if_pos h, ↓reduceIte]
    simp only [h.1, c1, ↓reduceIte]
    by_cases h2 : a1 ≤ (rd_T63 t a0).f1
    · simp only [h2, ↓reduceIte]
      refine Ev.shift ?_
      simp only [spec_BlockOk.j0, ↓reduceIte]
      exact Ev.now _
    · simp only [h2, ↓reduceIte]
      by_cases h3 : a1 > 900
      · simp only [h3, ↓reduceIte]
        refine Ev.shift ?_
        simp only [spec_BlockOk.j0, ↓reduceIte]
        exact Ev.now _
      · simp only [h3, ↓reduceIte]
        refine Ev.shift ?_
        simp only [spec_BlockOk.j0]
        by_cases h4 : (c.length : Int) > 4
        · simp only [h4, decide_true, ↓reduceIte]
          exact Ev.now _
        · simp only [h4, decide_false, ↓reduceIte, Bool.false_eq_true]
          have hr := spec_BlockOk_l0 t a0 a1 c a3 a4 a5 a6 h.1 c1 hl hk c.length 0 (by omega)
          rw [List.drop_zero] at hr
          exact hr
  · simp only [decide_eq_false h, if_neg h, ↓reduceIte, Bool.false_eq_true]
    refine Ev.shift ?_
    simp only [spec_BlockOk.j0, ↓reduceIte]
    exact Ev.now _

theorem spec_SameBlock_l0 (a0 a1 : Int) (c : List S95) (a3 a4 a5 a6 b0 b1 : Int) (e : List S95) (b3 b4 b5 b6 : Int) (hl : c.length ≤ 9223372036854775807) (he : (c.length : Int) = (e.length : Int)) (d : Nat) :
    ∀ i : Nat, i + d = c.length → Ev (fun k => spec_SameBlock.l0 k (i : Int) a0 a1 c a3 a4 a5 a6 b0 b1 e b3 b4 b5 b6) (sameL c e d i) := by
  induction d with
  | zero =>
    intro i hi
    refine Ev.shift ?_
    simp only [spec_SameBlock.l0, show ¬ (i : Int) < (c.length : Int) from by omega, ↓reduceIte, sameL]
    exact Ev.now _
  | succ d ih =>
    intro i hi
    have hr := ih (i + 1) (by omega)
    have hil : i < c.length := by omega
    have c1 : (i : Int) < (c.length : Int) := by omega
    have c2 : (0 : Int) ≤ (i : Int) := by omega
    have c3 : (i : Int) < (e.length : Int) := by omega
    have hup := int_up hil hl
    refine Ev.shift ?_
    simp only [spec_SameBlock.l0, c1, c2, c3, hup, ↓reduceIte, sameL]
    by_cases h : neC (rd_T95 c (i : Int)) (rd_T95 e (i : Int)) = true
    · rw [h]
      unfold neC at h
      simp only [if_pos h]
      exact Ev.now _
    · have h' := h
      simp only [Bool.not_eq_true] at h'
      rw [h', Bool.not_false, Bool.true_and]
      unfold neC at h
      simp only [if_neg h]
      exact hr
theorem spec_SameBlock_ev (a0 a1 : Int) (c : List S95) (a3 a4 a5 a6 b0 b1 : Int) (e : List S95) (b3 b4 b5 b6 : Int) (hl : c.length ≤ 9223372036854775807) :
    Ev (fun k => spec_SameBlock.f k a0 a1 c a3 a4 a5 a6 b0 b1 e b3 b4 b5 b6) (sameB a0 a1 c a3 a4 a5 a6 b0 b1 e b3 b4 b5 b6) := by
  unfold spec_SameBlock.f sameB
  by_cases h0 : a0 = b0
  · rw [if_pos h0]
    simp only [if_pos h0]
    by_cases h1 : a1 = b1
    · rw [if_pos h1]
      simp only [if_pos h1]
      by_cases h2 : (!(a3 == b3) || (!(a4 == b4) || (!(a5 == b5) || (!(a6 == b6))))) = true
      · have h3 : (a3 == b3 && (a4 == b4 && (a5 == b5 && a6 == b6))) = false := by
          revert h2
          cases (a3 == b3) <;> cases (a4 == b4) <;> cases (a5 == b5) <;> cases (a6 == b6) <;> decide
        rw [h3, Bool.and_false, ite_self]
        simp only [if_pos h2]
        refine Ev.shift ?_
        simp only [spec_SameBlock.j0, ↓reduceIte]
        exact Ev.now _
      · have h3 : (a3 == b3 && (a4 == b4 && (a5 == b5 && a6 == b6))) = true := by
          revert h2
          cases (a3 == b3) <;> cases (a4 == b4) <;> cases (a5 == b5) <;> cases (a6 == b6) <;> decide
        rw [h3, Bool.and_true]
        simp only [if_neg h2]
        refine Ev.shift ?_
        simp only [spec_SameBlock.j0]
        by_cases h4 : (c.length : Int) = (e.length : Int)
        · have h5 : ((c.length : Int) != (e.length : Int)) = false := by rw [h4]; exact bne_self_eq_false _
          rw [h5, if_pos h4]
          simp only [Bool.false_eq_true, ↓reduceIte]
          exact spec_SameBlock_l0 a0 a1 c a3 a4 a5 a6 b0 b1 e b3 b4 b5 b6 hl h4 c.length 0 (by omega)
        · have h5 : ((c.length : Int) != (e.length : Int)) = true := bne_iff_ne.2 h4
          rw [h5, if_neg h4]
          simp only [↓reduceIte]
          exact Ev.now _
    · rw [if_neg h1]
      simp only [if_neg h1]
      refine Ev.shift ?_
      simp only [spec_SameBlock.j0, ↓reduceIte]
      exact Ev.now _
  · rw [if_neg h0]
    simp only [if_neg h0]
    refine Ev.shift ?_
    simp only [spec_SameBlock.j0, ↓reduceIte]
    exact Ev.now _

theorem spec_BlockAt_l0 (b0 b1 : Int) (e : List S95) (b3 b4 b5 b6 : Int) (l : List S63) (hl : l.length ≤ 9223372036854775807) (hk : ∀ x ∈ l, x.f2.length ≤ 9223372036854775807) (d : Nat) :
    ∀ i : Nat, i + d = l.length → Ev (fun k => spec_BlockAt.l0 k l (i : Int) b0 b1 e b3 b4 b5 b6) (atBl b0 b1 e b3 b4 b5 b6 (l.drop i) (i : Int)) := by
  induction d with
  | zero =>
    intro i hi
    refine Ev.shift ?_
    rw [List.drop_of_length_le (by omega)]
    simp only [spec_BlockAt.l0, show ¬ (i : Int) < (l.length : Int) from by omega, ↓reduceIte, atBl]
    exact Ev.now _
  | succ d ih =>
    intro i hi
    have hr := ih (i + 1) (by omega)
    have hil : i < l.length := by omega
    have c1 : (i : Int) < (l.length : Int) := by omega
    have c2 : (0 : Int) ≤ (i : Int) := by omega
    have hup := int_up hil hl
    have he := spec_SameBlock_ev (l[i]).f0 (l[i]).f1 (l[i]).f2 (l[i]).f3.f0 (l[i]).f3.f1 (l[i]).f3.f2 (l[i]).f3.f3 b0 b1 e b3 b4 b5 b6 (hk _ (List.getElem_mem hil))
    refine Ev.shift ?_
    rw [List.drop_eq_getElem_cons hil]
    simp only [spec_BlockAt.l0, c1, c2, rdBlock_nat l i hil, hup, ↓reduceIte, atBl]
    refine Ev.bind he ?_
    generalize sameB (l[i]).f0 (l[i]).f1 (l[i]).f2 (l[i]).f3.f0 (l[i]).f3.f1 (l[i]).f3.f2 (l[i]).f3.f3 b0 b1 e b3 b4 b5 b6 = s
    cases s with
    | true =>
      simp only [↓reduceIte]
      exact Ev.now _
    | false =>
      simp only [↓reduceIte, Bool.false_eq_true]
      exact hr
theorem spec_BlockAt_ev (b0 b1 : Int) (e : List S95) (b3 b4 b5 b6 : Int) (l : List S63) (hl : l.length ≤ 9223372036854775807) (hk : ∀ x ∈ l, x.f2.length ≤ 9223372036854775807) :
    Ev (fun k => spec_BlockAt.f k l b0 b1 e b3 b4 b5 b6) (atBl b0 b1 e b3 b4 b5 b6 l 0) := by
  have h := spec_BlockAt_l0 b0 b1 e b3 b4 b5 b6 l hl hk l.length 0 (by omega)
  rw [List.drop_zero] at h
  exact h

theorem spec_TreeOk_l0 (t : List S63) (hl : t.length ≤ 1048576) (hk : BlocksGood t)
    (d : Nat) : ∀ i : Nat, i + d = t.length → Ev (fun k => spec_TreeOk.l0 k t (i : Int)) (treeB t d i) := by
  induction d with
  | zero =>
    intro i hi
    refine Ev.shift ?_
    simp only [spec_TreeOk.l0, show ¬ (i : Int) < (t.length : Int) from by omega, ↓reduceIte, treeB]
    exact Ev.now _
  | succ d ih =>
    intro i hi
    have hr := ih (i + 1) (by omega)
    have hil : i < t.length := by omega
    have c1 : (i : Int) < (t.length : Int) := by omega
    have c2 : (0 : Int) ≤ (i : Int) := by omega
    have c3 : (i : Int) ≤ (t.length : Int) := by omega
    have hup := int_up hil (by omega)
    have hg := hk _ (List.getElem_mem hil)
    have hb := spec_BlockOk_ev (t.take i) (by rw [List.length_take]; omega) (t[i]).f0 (t[i]).f1 (t[i]).f2 (t[i]).f3.f0 (t[i]).f3.f1 (t[i]).f3.f2 (t[i]).f3.f3 hg.1 hg.2
    have he := spec_BlockAt_ev (t[i]).f0 (t[i]).f1 (t[i]).f2 (t[i]).f3.f0 (t[i]).f3.f1 (t[i]).f3.f2 (t[i]).f3.f3 t (by omega) (fun x hx => (hk x hx).1)
    refine Ev.shift ?_
    simp only [spec_TreeOk.l0, c1, c2, c3, rdBlock_nat t i hil, hup, ↓reduceIte, treeB, Int.toNat_natCast]
    refine Ev.bind hb ?_
    generalize blockB (t.take i) (t[i]).f0 (t[i]).f1 (t[i]).f2 (t[i]).f3.f1 (t[i]).f3.f2 = s
    cases s with
    | true =>
      simp only [↓reduceIte, Bool.true_and]
      refine Ev.bind he ?_
      by_cases h : atBl (t[i]).f0 (t[i]).f1 (t[i]).f2 (t[i]).f3.f0 (t[i]).f3.f1 (t[i]).f3.f2 (t[i]).f3.f3 t 0 = (i : Int)
      · simp only [h, decide_true, ↓reduceIte, Bool.true_and]
        exact hr
      · simp only [h, decide_false, ↓reduceIte, Bool.false_and]
        exact Ev.now _
    | false =>
      simp only [↓reduceIte, Bool.false_and, Bool.false_eq_true]
      exact Ev.now _
theorem spec_TreeOk_ev (t : List S63) (hl : t.length ≤ 1048576) (hk : BlocksGood t) : Ev (fun k => spec_TreeOk.f k t) (treeAllB t) := by
  unfold spec_TreeOk.f treeAllB
  simp only [spec_l01In_eq, Option.bind_some]
  by_cases h : 1 ≤ (t.length : Int) ∧ (t.length : Int) ≤ 60
  · have c1 : 0 < (t.length : Int) := by omega
    have h0 : 0 < t.length := by omega
    have hg := hk _ (List.getElem_mem h0)
    have e0 : rd_T63 t 0 = t[0] := rdBlock_nat t 0 h0
    have he := spec_SameBlock_ev (t[0]).f0 (t[0]).f1 (t[0]).f2 (t[0]).f3.f0 (t[0]).f3.f1 (t[0]).f3.f2 (t[0]).f3.f3 (-1) 0 [] 0 0 0 0 hg.1
    simp only [decide_eq_true h, if_pos h, ↓reduceIte]
    simp only [c1, ↓reduceIte, spec_FirstBlock.f, Option.bind_some, e0]
    refine Ev.bind he ?_
    refine Ev.shift ?_
    unfold firstB
    generalize sameB (t[0]).f0 (t[0]).f1 (t[0]).f2 (t[0]).f3.f0 (t[0]).f3.f1 (t[0]).f3.f2 (t[0]).f3.f3 (-1) 0 [] 0 0 0 0 = s
    cases s with
    | true =>
      simp only [spec_TreeOk.j0, Bool.not_true, Bool.false_eq_true, ↓reduceIte, Bool.true_and]
      exact spec_TreeOk_l0 t hl hk (t.length - 1) 1 (by omega)
    | false =>
      simp only [spec_TreeOk.j0, Bool.not_false, ↓reduceIte, Bool.false_and]
      exact Ev.now _
  · simp only [decide_eq_false h, if_neg h, ↓reduceIte, Bool.false_eq_true]
    refine Ev.shift ?_
    simp only [spec_TreeOk.j0, ↓reduceIte]
    exact Ev.now _

theorem badCmd_ev : ∀ (l : List S95) (i : Int), 0 ≤ i → (∀ x ∈ l, x.f1.size ≤ 140737488351232) → ∃ r, Ev (fun k => idxO95 (impl_Cmd_79.p k) l i) r ∧ decide (0 ≤ r) = !(l.all okC)
  | [], i, _, _ => ⟨-1, Ev.now _, rfl⟩
  | x :: l, i, h0, hk => by
    obtain ⟨r, hr, hq⟩ := badCmd_ev l (i + 1) (by omega) (fun y hy => hk y (List.mem_cons_of_mem _ hy))
    have he : Ev (fun k => impl_Cmd_79.p k x) (!(okC x)) := Ev.bind (impl_CmdOk_ev x.f0 x.f2 (hk x (List.mem_cons_self ..))) (Ev.now _)
    by_cases h : okC x = true
    · refine ⟨r, ?_, ?_⟩
      · refine Ev.bind he ?_
        simp only [h, Bool.not_true, Bool.false_eq_true, ↓reduceIte]
        exact hr
      · rw [List.all_cons, h, Bool.true_and]
        exact hq
    · simp only [Bool.not_eq_true] at h
      refine ⟨i, ?_, ?_⟩
      · refine Ev.bind he ?_
        simp only [h, Bool.not_false, ↓reduceIte]
        exact Ev.now _
      · rw [List.all_cons, h, Bool.false_and, decide_eq_true h0]
        rfl
theorem badCmds_ev (c : List S95) (hk : ∀ x ∈ c, x.f1.size ≤ 140737488351232) : Ev (fun k => impl_Cmd_79.f k c) (!(c.all okC)) := by
  obtain ⟨r, hr, hq⟩ := badCmd_ev c 0 (by omega) hk
  unfold impl_Cmd_79.f
  refine Ev.bind hr ?_
  rw [hq]
  exact Ev.now _
theorem impl_BlockOk_ev (t : List S63) (ht : t.length ≤ 1048576) (a0 a1 : Int) (c : List S95) (a3 a4 a5 a6 : Int) (hk : ∀ x ∈ c, x.f1.size ≤ 140737488351232) :
    Ev (fun k => impl_BlockOk.f k t a0 a1 c a3 a4 a5 a6) (blockB t a0 a1 c a4 a5) := by
  have e : wrap64 ((t.length : Int) - 1) = (t.length : Int) - 1 := wrap_id (by omega) (by omega)
  unfold impl_BlockOk.f blockB
  simp only [impl_in_eq, Option.bind_some, e]
  by_cases h : 0 ≤ a0 ∧ a0 ≤ (t.length : Int) - 1
  · have c1 : a0 < (t.length : Int) := by omega
    simp only [decide_eq_true h, if_pos h, ↓reduceIte]
    simp only [h.1, c1, ↓reduceIte]
    by_cases h2 : a1 ≤ (rd_T63 t a0).f1
    · simp only [h2, ↓reduceIte]
      exact Ev.now _
    · simp only [h2, ↓reduceIte]
      by_cases h3 : a1 > 900
      · simp only [h3, ↓reduceIte]
        exact Ev.now _
      · simp only [h3, ↓reduceIte]
        by_cases h4 : (c.length : Int) > 4
        · simp only [h4, ↓reduceIte]
          exact Ev.now _
        · simp only [h4, ↓reduceIte]
          refine Ev.bind (badCmds_ev c hk) ?_
          by_cases h5 : c.all okC = true
          · simp only [h5, Bool.not_true, Bool.false_eq_true, ↓reduceIte, Bool.true_and, finB]
            by_cases h6 : a5 = a0
            · simp only [h6, ↓reduceIte]
              exact Ev.now _
            · simp only [h6, ↓reduceIte]
              exact Ev.now _
          · simp only [Bool.not_eq_true] at h5
            simp only [h5, Bool.not_false, ↓reduceIte, Bool.false_and]
            exact Ev.now _
  · simp only [decide_eq_false h, if_neg h, ↓reduceIte, Bool.false_eq_true]
    exact Ev.now _

theorem impl_eqCmds_l0 (c e : List S95) (hl : c.length ≤ 9223372036854775807) (he : (c.length : Int) = (e.length : Int)) (d : Nat) :
    ∀ i : Nat, i + d = c.length → Ev (fun k => impl_Cmd_102.l0 k c e (c.length : Int) (i : Int)) (sameL c e d i) := by
  induction d with
  | zero =>
    intro i hi
    refine Ev.shift ?_
    simp only [impl_Cmd_102.l0, show ¬ (i : Int) < (c.length : Int) from by omega, ↓reduceIte, sameL]
    exact Ev.now _
  | succ d ih =>
    intro i hi
    have hr := ih (i + 1) (by omega)
    have hil : i < c.length := by omega
    have c1 : (i : Int) < (c.length : Int) := by omega
    have c2 : (0 : Int) ≤ (i : Int) := by omega
    have c3 : (i : Int) < (e.length : Int) := by omega
    have hup := int_up hil hl
    refine Ev.shift ?_
    simp only [impl_Cmd_102.l0, c1, c2, c3, hup, ↓reduceIte, sameL]
    by_cases h : neC (rd_T95 c (i : Int)) (rd_T95 e (i : Int)) = true
    · rw [h]
      unfold neC at h
      simp only [if_pos h]
      exact Ev.now _
    · have h' := h
      simp only [Bool.not_eq_true] at h'
      rw [h', Bool.not_false, Bool.true_and]
      unfold neC at h
      simp only [if_neg h]
      exact hr
theorem impl_SameBlock_ev (a0 a1 : Int) (c : List S95) (a3 a4 a5 a6 b0 b1 : Int) (e : List S95) (b3 b4 b5 b6 : Int) (hl : c.length ≤ 9223372036854775807) :
    Ev (fun k => impl_SameBlock.f k a0 a1 c a3 a4 a5 a6 b0 b1 e b3 b4 b5 b6) (sameB a0 a1 c a3 a4 a5 a6 b0 b1 e b3 b4 b5 b6) := by
  unfold impl_SameBlock.f sameB
  by_cases h0 : a0 = b0
  · rw [if_pos h0]
    simp only [if_pos h0]
    by_cases h1 : a1 = b1
    · rw [if_pos h1]
      simp only [if_pos h1, impl_Cmd_102.f]
      by_cases h4 : (c.length : Int) = (e.length : Int)
      · rw [if_pos h4]
        simp only [if_pos h4]
        refine Ev.bind (impl_eqCmds_l0 c e hl h4 c.length 0 (by omega)) ?_
        by_cases h5 : sameL c e c.length 0 = true
        · simp only [h5, ↓reduceIte, Bool.true_and]
          exact Ev.now _
        · simp only [Bool.not_eq_true] at h5
          simp only [h5, ↓reduceIte, Bool.false_and, Bool.false_eq_true]
          exact Ev.now _
      · rw [if_neg h4]
        simp only [if_neg h4, Option.bind_some, Bool.false_eq_true, ↓reduceIte]
        exact Ev.now _
    · rw [if_neg h1]
      simp only [if_neg h1]
      exact Ev.now _
  · rw [if_neg h0]
    simp only [if_neg h0]
    exact Ev.now _

theorem impl_BlockAt_l (b0 b1 : Int) (e : List S95) (b3 b4 b5 b6 : Int) : ∀ (l : List S63) (i : Int), (∀ x ∈ l, x.f2.length ≤ 9223372036854775807) →
    Ev (fun k => idxO63 (impl_BlockAt.p k b0 b1 e b3 b4 b5 b6) l i) (atBl b0 b1 e b3 b4 b5 b6 l i)
  | [], i, _ => Ev.now _
  | x :: l, i, hk => by
    have hr := impl_BlockAt_l b0 b1 e b3 b4 b5 b6 l (i + 1) (fun y hy => hk y (List.mem_cons_of_mem _ hy))
    have he : Ev (fun k => impl_BlockAt.p k b0 b1 e b3 b4 b5 b6 x) (sameB x.f0 x.f1 x.f2 x.f3.f0 x.f3.f1 x.f3.f2 x.f3.f3 b0 b1 e b3 b4 b5 b6) := impl_SameBlock_ev _ _ _ _ _ _ _ b0 b1 e b3 b4 b5 b6 (hk x (List.mem_cons_self ..))
    refine Ev.bind he ?_
    simp only [atBl]
    generalize sameB x.f0 x.f1 x.f2 x.f3.f0 x.f3.f1 x.f3.f2 x.f3.f3 b0 b1 e b3 b4 b5 b6 = s
    cases s with
    | true =>
      simp only [↓reduceIte]
      exact Ev.now _
    | false =>
      simp only [↓reduceIte, Bool.false_eq_true]
      exact hr
theorem impl_BlockAt_ev (b0 b1 : Int) (e : List S95) (b3 b4 b5 b6 : Int) (l : List S63) (hk : ∀ x ∈ l, x.f2.length ≤ 9223372036854775807) :
    Ev (fun k => impl_BlockAt.f k l b0 b1 e b3 b4 b5 b6) (atBl b0 b1 e b3 b4 b5 b6 l 0) := impl_BlockAt_l b0 b1 e b3 b4 b5 b6 l 0 hk

theorem impl_TreeOk_l0 (t : List S63) (hl : t.length ≤ 1048576) (hk : BlocksGood t)
    (d : Nat) : ∀ i : Nat, 0 < i → i + d = t.length → Ev (fun k => impl_TreeOk.l0 k t t (t.length : Int) (i : Int)) (treeB t d i) := by
  induction d with
  | zero =>
    intro i h0 hi
    refine Ev.shift ?_
    simp only [impl_TreeOk.l0, show ¬ (i : Int) < (t.length : Int) from by omega, ↓reduceIte, treeB]
    exact Ev.now _
  | succ d ih =>
    intro i h0 hi
    have hr := ih (i + 1) (by omega) (by omega)
    have hil : i < t.length := by omega
    have c1 : (i : Int) < (t.length : Int) := by omega
    have c2 : (0 : Int) ≤ (i : Int) := by omega
    have c3 : (i : Int) ≤ (t.length : Int) := by omega
    have c4 : (i : Int) > 0 := by omega
    have hup := int_up hil (by omega)
    have hg := hk _ (List.getElem_mem hil)
    have hb := impl_BlockOk_ev (t.take i) (by rw [List.length_take]; omega) (t[i]).f0 (t[i]).f1 (t[i]).f2 (t[i]).f3.f0 (t[i]).f3.f1 (t[i]).f3.f2 (t[i]).f3.f3 hg.2
    have he := impl_BlockAt_ev (t[i]).f0 (t[i]).f1 (t[i]).f2 (t[i]).f3.f0 (t[i]).f3.f1 (t[i]).f3.f2 (t[i]).f3.f3 t (fun x hx => (hk x hx).1)
    refine Ev.shift ?_
    simp only [impl_TreeOk.l0, c1, c2, c3, c4, rdBlock_nat t i hil, hup, ↓reduceIte, treeB, Int.toNat_natCast]
    refine Ev.bind hb ?_
    generalize blockB (t.take i) (t[i]).f0 (t[i]).f1 (t[i]).f2 (t[i]).f3.f1 (t[i]).f3.f2 = s
    cases s with
    | true =>
      simp only [↓reduceIte, Bool.true_and]
      refine Ev.bind he ?_
      by_cases h : atBl (t[i]).f0 (t[i]).f1 (t[i]).f2 (t[i]).f3.f0 (t[i]).f3.f1 (t[i]).f3.f2 (t[i]).f3.f3 t 0 = (i : Int)
      · simp only [h, decide_true, ↓reduceIte, Bool.true_and]
        exact hr
      · simp only [h, decide_false, ↓reduceIte, Bool.false_and]
        exact Ev.now _
    | false =>
      simp only [↓reduceIte, Bool.false_and, Bool.false_eq_true]
      exact Ev.now _
theorem impl_TreeOk_ev (t : List S63) (hl : t.length ≤ 1048576) (hk : BlocksGood t) : Ev (fun k => impl_TreeOk.f k t) (treeAllB t) := by
  unfold impl_TreeOk.f treeAllB
  simp only [impl_in_eq, Option.bind_some]
  by_cases h : 1 ≤ (t.length : Int) ∧ (t.length : Int) ≤ 60
  · have c1 : 0 < (t.length : Int) := by omega
    have h0 : 0 < t.length := by omega
    have hg := hk _ (List.getElem_mem h0)
    have e0 : rd_T63 t 0 = t[0] := rdBlock_nat t 0 h0
    have he := impl_SameBlock_ev (t[0]).f0 (t[0]).f1 (t[0]).f2 (t[0]).f3.f0 (t[0]).f3.f1 (t[0]).f3.f2 (t[0]).f3.f3 (-1) 0 [] 0 0 0 0 hg.1
    have ha := impl_BlockAt_ev (t[0]).f0 (t[0]).f1 (t[0]).f2 (t[0]).f3.f0 (t[0]).f3.f1 (t[0]).f3.f2 (t[0]).f3.f3 t (fun x hx => (hk x hx).1)
    have az := atBl_zero t h0
    rw [e0] at az
    rw [az] at ha
    simp only [decide_eq_true h, if_pos h, ↓reduceIte]
    simp only [c1, ↓reduceIte, impl_FirstBlock.f, Option.bind_some, e0]
    refine Ev.bind he ?_
    refine Ev.shift ?_
    unfold firstB
    generalize sameB (t[0]).f0 (t[0]).f1 (t[0]).f2 (t[0]).f3.f0 (t[0]).f3.f1 (t[0]).f3.f2 (t[0]).f3.f3 (-1) 0 [] 0 0 0 0 = s
    cases s with
    | true =>
      simp only [impl_TreeOk.j0, Bool.not_true, Bool.false_eq_true, ↓reduceIte, Bool.true_and]
      refine Ev.shift ?_
      simp only [impl_TreeOk.l0, c1, ↓reduceIte, e0, show ¬ ((0 : Int) > 0) from by decide, show (0 : Int) ≤ 0 from by decide]
      refine Ev.bind ha ?_
      simp only [↓reduceIte, show wrap64 (0 + 1) = ((1 : Nat) : Int) from wrap_id (x := 0 + 1) (by decide) (by decide)]
      exact impl_TreeOk_l0 t hl hk (t.length - 1) 1 (by omega) (by omega)
    | false =>
      simp only [impl_TreeOk.j0, Bool.not_false, ↓reduceIte, Bool.false_and]
      exact Ev.now _
  · simp only [decide_eq_false h, if_neg h, ↓reduceIte, Bool.false_eq_true]
    refine Ev.shift ?_
    simp only [impl_TreeOk.j0, ↓reduceIte]
    exact Ev.now _

theorem FnExactTreeOk : laws_FnExactTreeOk.Pure := by
  intro l hl
  obtain ⟨r, hr, hq⟩ := tree_cases l hl
  refine Ev.rounds ?_
  unfold laws_FnExactTreeOk.f
  refine Ev.bind hr ?_
  rcases hq with hq | ⟨hq, hq1, h1, h2, ht, he, hm⟩
  · simp only [hq, ↓reduceIte]
    exact Ev.now _
  · simp only [hq, ↓reduceIte]
    have hk : BlocksGood (l.map cvBlock) := by
      intro x hx
      obtain ⟨y, hy, rfl⟩ := List.mem_map.1 hx
      refine ⟨?_, ?_⟩
      · show (y.f2.map cvCmd).length ≤ _
        rw [List.length_map]
        have := (h2 y hy).1
        omega
      · intro c hc
        obtain ⟨z, hz, rfl⟩ := List.mem_map.1 hc
        show z.f1.size ≤ _
        have := (h2 y hy).2 z hz
        omega
    refine Ev.bind ht ?_
    refine Ev.bind (spec_TreeOk_ev _ hm hk) ?_
    refine Ev.bind ht ?_
    refine Ev.bind (impl_TreeOk_ev _ hm hk) ?_
    simp only [bne_self_eq_false, Bool.false_eq_true, ↓reduceIte]
    refine Ev.bind ht (Ev.bind he ?_)
    simp only [↓reduceIte]
    exact Ev.now _

end Go.Proofs.Ytmcopcpeacikmaa.Pure
