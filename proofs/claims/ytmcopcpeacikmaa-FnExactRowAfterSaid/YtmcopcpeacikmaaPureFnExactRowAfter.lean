/- For every input that the statement reads, the law FnExactRowAfter of the given program returns true and leaves its arguments as they were. Conditions: none but the statement's own. -/
import Derived.Test.YtmcopcpeacikmaaStmFnExactRowAfter
import Derived.Test.YtmcopcpeacikmaaLib
import Derived.Test.YtmcopcpeacikmaaLibList
set_option linter.unusedVariables false
set_option linter.unusedSimpArgs false
namespace Go.Proofs.Ytmcopcpeacikmaa.Pure
open Go.RowKit Go.Proofs.Ytmcopcpeacikmaa.QFnExactRowAfter Go.Proofs.YtmcopcpeacikmaaW.PrintWords Go.Proofs.YtmcopcpeacikmaaW.PrintLast Go.Proofs.YtmcopcpeacikmaaW.PrintMore Go.Proofs.Ytmcopcpeacikmaa.Lib

def cvCmd (x : S116) : S95 := ⟨x.f0, x.f1, x.f2⟩
theorem rdLCmd_nat (l : List S116) (i : Nat) (h : i < l.length) : rd_T116 l (i : Int) = l[i] := getD_nat l _ i h
theorem rdCmd_nat (l : List S95) (i : Nat) (h : i < l.length) : rd_T95 l (i : Int) = l[i] := getD_nat l _ i h
theorem laws_szCmd_eq (a : Int) (s : ByteArray) (b x : Int) (hs : s.size ≤ 9223372036854775807) (h0 : 0 ≤ x) (h1 : x ≤ 1048576) :
    laws_szCmd.f a s b x = some (if x - (s.size : Int) < 0 then -1 else x - (s.size : Int)) := by
  unfold laws_szCmd.f
  rw [wrap_id (by omega) (by omega)]
  split <;> rfl
/-- What is left when a row of commands is counted. -/
def CmdsFit (l : List S116) (x : Int) : Prop := (l.length : Int) ≤ x ∧ ∀ c ∈ l, (c.f1.size : Int) ≤ x
theorem laws_szCmdS_l0 (l : List S116) (hl : l.length ≤ 1048576) (hk : ∀ c ∈ l, c.f1.size ≤ 9223372036854775807) (d : Nat) : ∀ (i : Nat) (x : Int), i + d = l.length → 0 ≤ x → x ≤ 1048576 →
    ∃ r, Ev (fun k => laws_szCmdS.l0 k l x (i : Int)) r ∧ (r = -1 ∨ (0 ≤ r ∧ r ≤ x ∧ ∀ j : Nat, i ≤ j → ∀ h : j < l.length, ((l[j]).f1.size : Int) ≤ x)) := by
  induction d with
  | zero =>
    intro i x hi h0 h1
    refine ⟨x, Ev.shift ?_, .inr ⟨h0, Int.le_refl _, fun j hj h => by omega⟩⟩
    simp only [laws_szCmdS.l0, show ¬ (i : Int) < (l.length : Int) from by omega, ↓reduceIte]
    exact Ev.now _
  | succ d ih =>
    intro i x hi h0 h1
    have hil : i < l.length := by omega
    have c1 : (i : Int) < (l.length : Int) := by omega
    have c2 : (0 : Int) ≤ (i : Int) := by omega
    have hup := int_up hil (by omega)
    have hz := laws_szCmd_eq l[i].f0 l[i].f1 l[i].f2 x (hk _ (List.getElem_mem hil)) h0 h1
    by_cases hneg : x - (l[i].f1.size : Int) < 0
    · refine ⟨-1, Ev.shift ?_, .inl rfl⟩
      rw [if_pos hneg] at hz
      simp only [laws_szCmdS.l0, c1, c2, rdLCmd_nat l i hil, hz, Option.bind_some, ↓reduceIte, show ((-1 : Int) < 0) = True from eq_true (by decide)]
      exact Ev.now _
    · obtain ⟨r, hr, hq⟩ := ih (i + 1) (x - (l[i].f1.size : Int)) (by omega) (by omega) (by omega)
      refine ⟨r, Ev.shift ?_, ?_⟩
      · rw [if_neg hneg] at hz
        simp only [laws_szCmdS.l0, c1, c2, rdLCmd_nat l i hil, hz, Option.bind_some, ↓reduceIte, hneg, hup]
        exact hr
      · rcases hq with hq | ⟨q0, q1, q2⟩
        · exact .inl hq
        · refine .inr ⟨q0, by omega, fun j hj h => ?_⟩
          by_cases e : j = i
          · subst e
            omega
          · have := q2 j (by omega) h
            omega
theorem laws_szCmdS_ev (l : List S116) (hl : l.length ≤ 9223372036854775807) (hk : ∀ c ∈ l, c.f1.size ≤ 9223372036854775807) (x : Int) (h0 : 0 ≤ x) (h1 : x ≤ 1048576) :
    ∃ r, Ev (fun k => laws_szCmdS.f k l x) r ∧ (r = -1 ∨ (0 ≤ r ∧ r ≤ x ∧ CmdsFit l x)) := by
  have e : wrap64 (x - (l.length : Int)) = x - (l.length : Int) := wrap_id (by omega) (by omega)
  by_cases hneg : x - (l.length : Int) < 0
  · refine ⟨-1, ?_, .inl rfl⟩
    unfold laws_szCmdS.f
    simp only [e, hneg, ↓reduceIte]
    exact Ev.now _
  · obtain ⟨r, hr, hq⟩ := laws_szCmdS_l0 l (by omega) hk l.length 0 (x - (l.length : Int)) (by omega) (by omega) (by omega)
    refine ⟨r, ?_, ?_⟩
    · unfold laws_szCmdS.f
      simp only [e, hneg, ↓reduceIte]
      exact hr
    · rcases hq with hq | ⟨q0, q1, q2⟩
      · exact .inl hq
      · refine .inr ⟨q0, by omega, by omega, fun c hc => ?_⟩
        obtain ⟨j, hj, rfl⟩ := List.getElem_of_mem hc
        have := q2 j (by omega) hj
        omega
theorem laws_toCmdS_l0 (l : List S116) (hl : l.length ≤ 1048576) (d : Nat) : ∀ i : Nat, i + d = l.length →
    Ev (fun k => laws_toCmdS.l0 k l ((l.map cvCmd).take i ++ List.replicate ((l.map cvCmd).length - i) z95) (i : Int)) (l.map cvCmd) := by
  have hm : (l.map cvCmd).length = l.length := List.length_map ..
  induction d with
  | zero =>
    intro i hi
    obtain rfl : i = (l.map cvCmd).length := by omega
    refine Ev.shift ?_
    simp only [laws_toCmdS.l0, show ¬ ((l.map cvCmd).length : Int) < (l.length : Int) from by omega, ↓reduceIte, fill_all]
    exact Ev.now _
  | succ d ih =>
    intro i hi
    have h := ih (i + 1) (by omega)
    have hil : i < l.length := by omega
    have him : i < (l.map cvCmd).length := by omega
    refine Ev.shift ?_
    have c1 : (i : Int) < (l.length : Int) := by omega
    have c2 : (0 : Int) ≤ (i : Int) := by omega
    have c3 : (i : Int) < (((l.map cvCmd).take i ++ List.replicate ((l.map cvCmd).length - i) z95).length : Int) := by rw [fill_length _ _ i (by omega)]; omega
    have hup := int_up hil (by omega)
    have hset := fill_set (l.map cvCmd) z95 i him
    rw [List.getElem_map] at hset
    simp only [laws_toCmdS.l0, c1, c2, ↓reduceIte, rdLCmd_nat l i hil, laws_toCmd.f, Option.bind_some, c3, hup, Int.toNat_natCast]
    rw [show (⟨l[i].f0, l[i].f1, l[i].f2⟩ : S95) = cvCmd l[i] from rfl, hset]
    exact h
theorem laws_toCmdS_ev (l : List S116) (hl : l.length ≤ 1048576) : Ev (fun k => laws_toCmdS.f k l) (l.map cvCmd) := by
  unfold laws_toCmdS.f
  have c1 : (0 : Int) ≤ (l.length : Int) := by omega
  have c2 : l.length ≤ 8796093022208 := by omega
  simp only [c1, Int.toNat_natCast, c2, ↓reduceIte]
  have h := laws_toCmdS_l0 l hl l.length 0 (by omega)
  rw [fill_none, List.length_map] at h
  exact h
theorem laws_eqCmdS_l0 (l : List S95) (hl : l.length ≤ 9223372036854775807) (d : Nat) : ∀ i : Nat, i + d = l.length → Ev (fun k => laws_eqCmdS.l0 k l l (i : Int)) true := by
  induction d with
  | zero =>
    intro i hi
    refine Ev.shift ?_
    simp only [laws_eqCmdS.l0, show ¬ (i : Int) < (l.length : Int) from by omega, ↓reduceIte]
    exact Ev.now _
  | succ d ih =>
    intro i hi
    have h := ih (i + 1) (by omega)
    have hil : i < l.length := by omega
    refine Ev.shift ?_
    have c1 : (i : Int) < (l.length : Int) := by omega
    have c2 : (0 : Int) ≤ (i : Int) := by omega
    simp only [laws_eqCmdS.l0, c1, c2, ↓reduceIte, laws_eqCmd.f, Option.bind_some, int_up hil hl]
    exact h
theorem laws_eqCmdS_ev (l : List S95) (hl : l.length ≤ 9223372036854775807) : Ev (fun k => laws_eqCmdS.f k l l) true := by
  unfold laws_eqCmdS.f
  simp only [↓reduceIte]
  exact laws_eqCmdS_l0 l hl l.length 0 (by omega)

def cvQc (x : S44) : S25 := ⟨x.f0, x.f1, x.f2, x.f3⟩
def cvBlock (x : S58) : S63 := ⟨x.f0, x.f1, x.f2.map cvCmd, cvQc x.f3⟩
theorem rdLBlock_nat (l : List S58) (i : Nat) (h : i < l.length) : rd_T58 l (i : Int) = l[i] := getD_nat l _ i h
theorem rdBlock_nat (l : List S63) (i : Nat) (h : i < l.length) : rd_T63 l (i : Int) = l[i] := getD_nat l _ i h
def BlockFit (b : S58) (x : Int) : Prop := CmdsFit b.f2 x
def BlockGood (b : S58) : Prop := b.f2.length ≤ 9223372036854775807 ∧ ∀ c ∈ b.f2, c.f1.size ≤ 9223372036854775807
theorem wf_good {b : S58} (h : WF58 b) : BlockGood b := ⟨h.2.2.1.1, fun c hc => (h.2.2.1.2 c hc).2.1⟩
theorem laws_szBlock_ev (b : S58) (hb : BlockGood b) (x : Int) (h0 : 0 ≤ x) (h1 : x ≤ 1048576) :
    ∃ r, Ev (fun k => laws_szBlock.f k b.f0 b.f1 b.f2 b.f3.f0 b.f3.f1 b.f3.f2 b.f3.f3 x) r ∧ (r = -1 ∨ (0 ≤ r ∧ r ≤ x ∧ BlockFit b x)) := by
  obtain ⟨r, hr, hq⟩ := laws_szCmdS_ev b.f2 hb.1 hb.2 x h0 h1
  refine ⟨r, ?_, hq⟩
  unfold laws_szBlock.f
  refine Ev.bind hr ?_
  rcases hq with rfl | ⟨q0, _, _⟩
  · simp only [show ((-1 : Int) < 0) = True from eq_true (by decide), ↓reduceIte]
    exact Ev.now _
  · simp only [show ¬ r < 0 from by omega, ↓reduceIte]
    exact Ev.now _
theorem laws_szBlockS_l0 (l : List S58) (hl : l.length ≤ 1048576) (hk : ∀ b ∈ l, BlockGood b) (d : Nat) : ∀ (i : Nat) (x : Int), i + d = l.length → 0 ≤ x → x ≤ 1048576 →
    ∃ r, Ev (fun k => laws_szBlockS.l0 k l x (i : Int)) r ∧ (r = -1 ∨ (0 ≤ r ∧ r ≤ x ∧ ∀ j : Nat, i ≤ j → ∀ h : j < l.length, BlockFit l[j] x)) := by
  induction d with
  | zero =>
    intro i x hi h0 h1
    refine ⟨x, Ev.shift ?_, .inr ⟨h0, Int.le_refl _, fun j hj h => by omega⟩⟩
    simp only [laws_szBlockS.l0, show ¬ (i : Int) < (l.length : Int) from by omega, ↓reduceIte]
    exact Ev.now _
  | succ d ih =>
    intro i x hi h0 h1
    have hil : i < l.length := by omega
    have c1 : (i : Int) < (l.length : Int) := by omega
    have c2 : (0 : Int) ≤ (i : Int) := by omega
    have hup := int_up hil (by omega)
    obtain ⟨t, ht, hq0⟩ := laws_szBlock_ev l[i] (hk _ (List.getElem_mem hil)) x h0 h1
    rcases hq0 with rfl | ⟨t0, t1, t2⟩
    · refine ⟨-1, Ev.shift ?_, .inl rfl⟩
      simp only [laws_szBlockS.l0, c1, c2, rdLBlock_nat l i hil, ↓reduceIte]
      refine Ev.bind ht ?_
      simp only [show ((-1 : Int) < 0) = True from eq_true (by decide), ↓reduceIte]
      exact Ev.now _
    · obtain ⟨r, hr, hq⟩ := ih (i + 1) t (by omega) (by omega) (by omega)
      refine ⟨r, Ev.shift ?_, ?_⟩
      · simp only [laws_szBlockS.l0, c1, c2, rdLBlock_nat l i hil, ↓reduceIte]
        refine Ev.bind ht ?_
        simp only [show ¬ t < 0 from by omega, ↓reduceIte, hup]
        exact hr
      · rcases hq with hq | ⟨q0, q1, q2⟩
        · exact .inl hq
        · refine .inr ⟨q0, by omega, fun j hj h => ?_⟩
          by_cases e : j = i
          · subst e
            exact t2
          · have q := q2 j (by omega) h
            exact ⟨Int.le_trans q.1 t1, fun c hc => Int.le_trans (q.2 c hc) t1⟩
theorem laws_szBlockS_ev (l : List S58) (hl : l.length ≤ 9223372036854775807) (hk : ∀ b ∈ l, BlockGood b) (x : Int) (h0 : 0 ≤ x) (h1 : x ≤ 1048576) :
    ∃ r, Ev (fun k => laws_szBlockS.f k l x) r ∧ (r = -1 ∨ (0 ≤ r ∧ r ≤ x ∧ (l.length : Int) ≤ x ∧ ∀ b ∈ l, BlockFit b x)) := by
  have e : wrap64 (x - (l.length : Int)) = x - (l.length : Int) := wrap_id (by omega) (by omega)
  by_cases hneg : x - (l.length : Int) < 0
  · refine ⟨-1, ?_, .inl rfl⟩
    unfold laws_szBlockS.f
    simp only [e, hneg, ↓reduceIte]
    exact Ev.now _
  · obtain ⟨r, hr, hq⟩ := laws_szBlockS_l0 l (by omega) hk l.length 0 (x - (l.length : Int)) (by omega) (by omega) (by omega)
    refine ⟨r, ?_, ?_⟩
    · unfold laws_szBlockS.f
      simp only [e, hneg, ↓reduceIte]
      exact hr
    · rcases hq with hq | ⟨q0, q1, q2⟩
      · exact .inl hq
      · refine .inr ⟨q0, by omega, by omega, fun b hb => ?_⟩
        obtain ⟨j, hj, rfl⟩ := List.getElem_of_mem hb
        have q := q2 j (by omega) hj
        exact ⟨Int.le_trans q.1 (by omega), fun c hc => Int.le_trans (q.2 c hc) (by omega)⟩
theorem laws_toBlock_ev (b : S58) (hb : b.f2.length ≤ 1048576) : Ev (fun k => laws_toBlock.f k b.f0 b.f1 b.f2 b.f3.f0 b.f3.f1 b.f3.f2 b.f3.f3) (b.f0, b.f1, b.f2.map cvCmd, b.f3.f0, b.f3.f1, b.f3.f2, b.f3.f3) := by
  unfold laws_toBlock.f laws_toQc.f
  exact Ev.bind (laws_toCmdS_ev b.f2 hb) (Ev.now _)
theorem laws_toBlockS_l0 (l : List S58) (hl : l.length ≤ 1048576) (hk : ∀ b ∈ l, b.f2.length ≤ 1048576) (d : Nat) : ∀ i : Nat, i + d = l.length →
    Ev (fun k => laws_toBlockS.l0 k l ((l.map cvBlock).take i ++ List.replicate ((l.map cvBlock).length - i) z63) (i : Int)) (l.map cvBlock) := by
  have hm : (l.map cvBlock).length = l.length := List.length_map ..
  induction d with
  | zero =>
    intro i hi
    obtain rfl : i = (l.map cvBlock).length := by omega
    refine Ev.shift ?_
    simp only [laws_toBlockS.l0, show ¬ ((l.map cvBlock).length : Int) < (l.length : Int) from by omega, ↓reduceIte, fill_all]
    exact Ev.now _
  | succ d ih =>
    intro i hi
    have h := ih (i + 1) (by omega)
    have hil : i < l.length := by omega
    have him : i < (l.map cvBlock).length := by omega
    refine Ev.shift ?_
    have c1 : (i : Int) < (l.length : Int) := by omega
    have c2 : (0 : Int) ≤ (i : Int) := by omega
    have c3 : (i : Int) < (((l.map cvBlock).take i ++ List.replicate ((l.map cvBlock).length - i) z63).length : Int) := by rw [fill_length _ _ i (by omega)]; omega
    have hup := int_up hil (by omega)
    have hset := fill_set (l.map cvBlock) z63 i him
    rw [List.getElem_map] at hset
    simp only [laws_toBlockS.l0, c1, c2, ↓reduceIte, rdLBlock_nat l i hil]
    refine Ev.bind (laws_toBlock_ev l[i] (hk _ (List.getElem_mem hil))) ?_
    simp only [c3, ↓reduceIte, hup, Int.toNat_natCast]
    rw [show (⟨l[i].f0, l[i].f1, l[i].f2.map cvCmd, (⟨l[i].f3.f0, l[i].f3.f1, l[i].f3.f2, l[i].f3.f3⟩ : S25)⟩ : S63) = cvBlock l[i] from rfl, hset]
    exact h
theorem laws_toBlockS_ev (l : List S58) (hl : l.length ≤ 1048576) (hk : ∀ b ∈ l, b.f2.length ≤ 1048576) : Ev (fun k => laws_toBlockS.f k l) (l.map cvBlock) := by
  unfold laws_toBlockS.f
  have c1 : (0 : Int) ≤ (l.length : Int) := by omega
  have c2 : l.length ≤ 3909374676536 := by omega
  simp only [c1, Int.toNat_natCast, c2, ↓reduceIte]
  have h := laws_toBlockS_l0 l hl hk l.length 0 (by omega)
  rw [fill_none, List.length_map] at h
  exact h
theorem laws_eqBlock_ev (b : S63) (hb : b.f2.length ≤ 9223372036854775807) : Ev (fun k => laws_eqBlock.f k b.f0 b.f1 b.f2 b.f3.f0 b.f3.f1 b.f3.f2 b.f3.f3 b.f0 b.f1 b.f2 b.f3.f0 b.f3.f1 b.f3.f2 b.f3.f3) true := by
  unfold laws_eqBlock.f
  simp only [↓reduceIte]
  refine Ev.bind (laws_eqCmdS_ev b.f2 hb) ?_
  simp only [laws_eqQc.f, ↓reduceIte, Option.bind_some]
  exact Ev.now _
theorem laws_eqBlockS_l0 (l : List S63) (hl : l.length ≤ 9223372036854775807) (hk : ∀ b ∈ l, b.f2.length ≤ 9223372036854775807) (d : Nat) : ∀ i : Nat, i + d = l.length → Ev (fun k => laws_eqBlockS.l0 k l l (i : Int)) true := by
  induction d with
  | zero =>
    intro i hi
    refine Ev.shift ?_
    simp only [laws_eqBlockS.l0, show ¬ (i : Int) < (l.length : Int) from by omega, ↓reduceIte]
    exact Ev.now _
  | succ d ih =>
    intro i hi
    have h := ih (i + 1) (by omega)
    have hil : i < l.length := by omega
    refine Ev.shift ?_
    have c1 : (i : Int) < (l.length : Int) := by omega
    have c2 : (0 : Int) ≤ (i : Int) := by omega
    simp only [laws_eqBlockS.l0, c1, c2, ↓reduceIte, rdBlock_nat l i hil]
    refine Ev.bind (laws_eqBlock_ev l[i] (hk _ (List.getElem_mem hil))) ?_
    simp only [↓reduceIte, int_up hil hl]
    exact h
theorem laws_eqBlockS_ev (l : List S63) (hl : l.length ≤ 9223372036854775807) (hk : ∀ b ∈ l, b.f2.length ≤ 9223372036854775807) : Ev (fun k => laws_eqBlockS.f k l l) true := by
  unfold laws_eqBlockS.f
  simp only [↓reduceIte]
  exact laws_eqBlockS_l0 l hl hk l.length 0 (by omega)
/-- What every statement over a tree begins with: too much, or a tree that fits. -/
theorem tree_cases (l : List S58) (hl : l.length ≤ 9223372036854775807 ∧ ∀ b ∈ l, WF58 b) :
    ∃ r, Ev (fun k => laws_szBlockS.f k l 1048576) r ∧ (r < 0 ∨ (¬ r < 0 ∧ r ≤ 1048576 ∧ l.length ≤ 1048576 ∧ (∀ b ∈ l, CmdsFit b.f2 1048576) ∧ Ev (fun k => laws_toBlockS.f k l) (l.map cvBlock) ∧
      Ev (fun k => laws_eqBlockS.f k (l.map cvBlock) (l.map cvBlock)) true ∧ (l.map cvBlock).length ≤ 1048576)) := by
  obtain ⟨r, hr, hq⟩ := laws_szBlockS_ev l hl.1 (fun b hb => wf_good (hl.2 b hb)) 1048576 (by decide) (by decide)
  refine ⟨r, hr, ?_⟩
  rcases hq with rfl | ⟨q0, q1, q2, q3⟩
  · exact .inl (by decide)
  · have h1 : l.length ≤ 1048576 := by omega
    have h2 : ∀ b ∈ l, b.f2.length ≤ 1048576 := fun b hb => by have := (q3 b hb).1; omega
    refine .inr ⟨by omega, q1, h1, q3, laws_toBlockS_ev l h1 h2, laws_eqBlockS_ev _ (by rw [List.length_map]; omega) (fun b hb => ?_), by rw [List.length_map]; omega⟩
    obtain ⟨a, ha, rfl⟩ := List.mem_map.1 hb
    show (a.f2.map cvCmd).length ≤ _
    rw [List.length_map]
    have := h2 a ha
    omega

theorem laws_eqIntS_l0 (l : List Int) (hl : l.length ≤ 9223372036854775807) (d : Nat) : ∀ i : Nat, i + d = l.length → Ev (fun k => laws_eqIntS.l0 k l l (i : Int)) true := by
  induction d with
  | zero =>
    intro i hi
    refine Ev.shift ?_
    simp only [laws_eqIntS.l0, show ¬ (i : Int) < (l.length : Int) from by omega, ↓reduceIte]
    exact Ev.now _
  | succ d ih =>
    intro i hi
    have h := ih (i + 1) (by omega)
    have hil : i < l.length := by omega
    refine Ev.shift ?_
    have c1 : (i : Int) < (l.length : Int) := by omega
    have c2 : (0 : Int) ≤ (i : Int) := by omega
    simp only [laws_eqIntS.l0, c1, c2, ↓reduceIte, int_up hil hl]
    exact h
theorem laws_eqIntS_ev (l : List Int) (hl : l.length ≤ 9223372036854775807) : Ev (fun k => laws_eqIntS.f k l l) true := by
  unfold laws_eqIntS.f
  simp only [↓reduceIte]
  exact laws_eqIntS_l0 l hl l.length 0 (by omega)

theorem markText_l0 (d : Nat) : ∀ (x : Int) (s : ByteArray), 0 ≤ x → x ≤ 9223372036854775807 → x.toNat < 10 ^ d → s.size + d ≤ 1000 → ∃ r, Ev (fun k => laws_markText.l0 k x s) r := by
  induction d with
  | zero =>
    intro x s h0 h1 h2 h3
    have hx : ¬ x > 0 := by simp at h2; omega
    have hs : 1 + s.size ≤ 9223372036854775807 := by omega
    exact ⟨_, Ev.shift (by simp only [laws_markText.l0, hx, hs, ↓reduceIte]; exact Ev.now _)⟩
  | succ d ih =>
    intro x s h0 h1 h2 h3
    by_cases hx : x > 0
    · have hz : (strOfNums [(wrap64 (48 + (Int.tmod x 10))) % 256]).size = 1 := by rw [strOfNums_size]; rfl
      have hs : (strOfNums [(wrap64 (48 + (Int.tmod x 10))) % 256]).size + s.size ≤ 9223372036854775807 := by rw [hz]; omega
      have hd : wrap64 (Int.tdiv x 10) = x / 10 := by rw [tdiv_pos h0]; exact wrap_id (by omega) (by omega)
      have hp : (x / 10).toNat < 10 ^ d := by
        rw [Nat.pow_succ] at h2
        omega
      obtain ⟨r, hr⟩ := ih (x / 10) (strOfNums [(wrap64 (48 + (Int.tmod x 10))) % 256] ++ s) (by omega) (by omega) hp (by rw [ByteArray.size_append, hz]; omega)
      exact ⟨r, Ev.shift (by simp only [laws_markText.l0, hx, hs, hd, ↓reduceIte, Option.bind_some]; exact hr)⟩
    · have hs : 1 + s.size ≤ 9223372036854775807 := by omega
      exact ⟨_, Ev.shift (by simp only [laws_markText.l0, hx, hs, ↓reduceIte]; exact Ev.now _)⟩
theorem markText_ev (x : Int) (h1 : x ≤ 9223372036854775807) : ∃ r, Ev (fun k => laws_markText.f k x) r := by
  by_cases h : x ≤ 0
  · exact ⟨_, by unfold laws_markText.f; simp only [h, ↓reduceIte]; exact Ev.now _⟩
  · have h10 : (10 : Nat) ^ 19 = 10000000000000000000 := by decide
    obtain ⟨r, hr⟩ := markText_l0 19 x ⟨#[]⟩ (by omega) h1 (by rw [h10]; omega) (by decide)
    exact ⟨r, by unfold laws_markText.f; simp only [h, ↓reduceIte]; exact hr⟩
theorem markCmds_l0 (d : Nat) : ∀ (i : Nat) (x : List S95) (v : Int), i + d = x.length → 0 ≤ v → v + 3 * d ≤ 4611686018427387904 → x.length ≤ 9223372036854775807 →
    ∃ c, Ev (fun k => laws_markCmdS.l0 k x v (i : Int)) (v + 3 * d, c) := by
  induction d with
  | zero =>
    intro i x v hi h0 h1 hl
    refine ⟨x, Ev.shift ?_⟩
    have e : v + 3 * ((0 : Nat) : Int) = v := by omega
    simp only [laws_markCmdS.l0, show ¬ (i : Int) < (x.length : Int) from by omega, ↓reduceIte, e]
    exact Ev.now _
  | succ d ih =>
    intro i x v hi h0 h1 hl
    have hil : i < x.length := by omega
    have c1 : (i : Int) < (x.length : Int) := by omega
    have c2 : (0 : Int) ≤ (i : Int) := by omega
    have hup := int_up hil hl
    have w1 : wrap64 (v + 1) = v + 1 := wrap_id (by omega) (by omega)
    have w2 : wrap64 (v + 1 + 1) = v + 1 + 1 := wrap_id (by omega) (by omega)
    have w3 : wrap64 (v + 1 + 1 + 1) = v + 1 + 1 + 1 := wrap_id (by omega) (by omega)
    obtain ⟨t, ht⟩ := markText_ev (v + 1) (by omega)
    have hr := ih (i + 1) (((x.set i (⟨v, (rd_T95 x i).f1, (rd_T95 x i).f2⟩ : S95)).set i (⟨(rd_T95 (x.set i (⟨v, (rd_T95 x i).f1, (rd_T95 x i).f2⟩ : S95)) i).f0, t, (rd_T95 (x.set i (⟨v, (rd_T95 x i).f1, (rd_T95 x i).f2⟩ : S95)) i).f2⟩ : S95)).set i
      (⟨(rd_T95 ((x.set i (⟨v, (rd_T95 x i).f1, (rd_T95 x i).f2⟩ : S95)).set i (⟨(rd_T95 (x.set i (⟨v, (rd_T95 x i).f1, (rd_T95 x i).f2⟩ : S95)) i).f0, t, (rd_T95 (x.set i (⟨v, (rd_T95 x i).f1, (rd_T95 x i).f2⟩ : S95)) i).f2⟩ : S95)) i).f0,
        (rd_T95 ((x.set i (⟨v, (rd_T95 x i).f1, (rd_T95 x i).f2⟩ : S95)).set i (⟨(rd_T95 (x.set i (⟨v, (rd_T95 x i).f1, (rd_T95 x i).f2⟩ : S95)) i).f0, t, (rd_T95 (x.set i (⟨v, (rd_T95 x i).f1, (rd_T95 x i).f2⟩ : S95)) i).f2⟩ : S95)) i).f1, v + 1 + 1⟩ : S95)) (v + 1 + 1 + 1)
      (by simp only [List.length_set]; omega) (by omega) (by omega) (by simp only [List.length_set]; exact hl)
    obtain ⟨c, hc⟩ := hr
    have e : v + 3 * ((d + 1 : Nat) : Int) = v + 1 + 1 + 1 + 3 * (d : Int) := by omega
    refine ⟨c, Ev.shift ?_⟩
    rw [e]
    simp only [laws_markCmdS.l0, c1, c2, w1, w2, w3, hup, ↓reduceIte, Option.bind_some, Int.toNat_natCast]
    exact Ev.bind ht hc
theorem markBlocks_l0 (d : Nat) : ∀ (i : Nat) (x : List S63) (v : Int), i + d = x.length → 0 ≤ v → v + 3145740 * d ≤ 4611686018427387904 → x.length ≤ 9223372036854775807 → (∀ j, i ≤ j → ∀ h : j < x.length, (x[j]).f2.length ≤ 1048576) →
    ∃ b c, 0 ≤ b ∧ Ev (fun k => laws_markBlockS.l0 k x v (i : Int)) (b, c) := by
  induction d with
  | zero =>
    intro i x v hi h0 h1 hl hk
    refine ⟨v, x, h0, Ev.shift ?_⟩
    simp only [laws_markBlockS.l0, show ¬ (i : Int) < (x.length : Int) from by omega, ↓reduceIte]
    exact Ev.now _
  | succ d ih =>
    intro i x v hi h0 h1 hl hk
    have hil : i < x.length := by omega
    have c1 : (i : Int) < (x.length : Int) := by omega
    have c2 : (0 : Int) ≤ (i : Int) := by omega
    have hup := int_up hil hl
    have hm := hk i (Nat.le_refl _) hil
    have w1 : wrap64 (v + 1) = v + 1 := wrap_id (by omega) (by omega)
    have w2 : wrap64 (v + 1 + 1) = v + 1 + 1 := wrap_id (by omega) (by omega)
    obtain ⟨c, hc⟩ := markCmds_l0 (x[i]).f2.length 0 (x[i]).f2 (v + 1 + 1) (by omega) (by omega) (by omega) (by omega)
    generalize hb : v + 1 + 1 + 3 * (((x[i]).f2.length : Nat) : Int) = b at hc
    have b0 : 0 ≤ b := by omega
    have b1 : b ≤ v + 3145730 := by omega
    have u1 : wrap64 (b + 1) = b + 1 := wrap_id (by omega) (by omega)
    have u2 : wrap64 (b + 1 + 1) = b + 1 + 1 := wrap_id (by omega) (by omega)
    have u3 : wrap64 (b + 1 + 1 + 1) = b + 1 + 1 + 1 := wrap_id (by omega) (by omega)
    have u4 : wrap64 (b + 1 + 1 + 1 + 1) = b + 1 + 1 + 1 + 1 := wrap_id (by omega) (by omega)
    obtain ⟨b2, c3, hb2, hr⟩ := ih (i + 1) (x.set i (⟨v, v + 1, c, ⟨b, b + 1, b + 1 + 1, b + 1 + 1 + 1⟩⟩ : S63)) (b + 1 + 1 + 1 + 1) (by rw [List.length_set]; omega) (by omega) (by omega) (by rw [List.length_set]; exact hl)
      (fun j hj h => by
        rw [List.getElem_set_ne (by omega)]
        exact hk j (by omega) (by rw [List.length_set] at h; exact h))
    refine ⟨b2, c3, hb2, Ev.shift ?_⟩
    simp only [laws_markBlockS.l0, c1, c2, w1, w2, rdBlock_nat x i hil, ↓reduceIte, Int.toNat_natCast, hup]
    refine Ev.bind (show Ev (fun k => laws_markCmdS.f k (x[i]).f2 (v + 1 + 1)) (b, c) from hc) ?_
    simp only [u1, u2, u3, u4]
    exact hr
theorem markBlocks_ev (x : List S63) (hl : x.length ≤ 1048576) (hk : ∀ b ∈ x, b.f2.length ≤ 1048576) : ∃ b c, 0 ≤ b ∧ Ev (fun k => laws_markBlockS.f k x 1) (b, c) :=
  markBlocks_l0 x.length 0 x 1 (by omega) (by omega) (by omega) (by omega) (fun j _ h => hk _ (List.getElem_mem h))
def cntL : Nat → Int → List Int
  | 0, _ => []
  | d + 1, v => v :: cntL d (v + 1)
theorem markInts_l0 (d : Nat) : ∀ (i : Nat) (x : List Int) (v : Int), i + d = x.length → 0 ≤ v → v + d ≤ 4611686018427387904 → x.length ≤ 9223372036854775807 → Ev (fun k => laws_markIntS.l0 k x v (i : Int)) (v + d, x.take i ++ cntL d v) := by
  induction d with
  | zero =>
    intro i x v hi h0 h1 hl
    refine Ev.shift ?_
    have e : v + ((0 : Nat) : Int) = v := by omega
    rw [List.take_of_length_le (by omega)]
    simp only [laws_markIntS.l0, show ¬ (i : Int) < (x.length : Int) from by omega, ↓reduceIte, e, cntL, List.append_nil]
    exact Ev.now _
  | succ d ih =>
    intro i x v hi h0 h1 hl
    have hil : i < x.length := by omega
    have c1 : (i : Int) < (x.length : Int) := by omega
    have c2 : (0 : Int) ≤ (i : Int) := by omega
    have hup := int_up hil hl
    have w1 : wrap64 (v + 1) = v + 1 := wrap_id (by omega) (by omega)
    have hr := ih (i + 1) (x.set i v) (v + 1) (by rw [List.length_set]; omega) (by omega) (by omega) (by rw [List.length_set]; exact hl)
    have e : v + ((d + 1 : Nat) : Int) = v + 1 + (d : Int) := by omega
    have e2 : (x.set i v).take (i + 1) ++ cntL d (v + 1) = x.take i ++ cntL (d + 1) v := by
      rw [List.take_add_one, List.take_set_of_le (Nat.le_refl i), List.getElem?_set_self hil, cntL]
      simp
    refine Ev.shift ?_
    simp only [laws_markIntS.l0, c1, c2, w1, hup, ↓reduceIte, Int.toNat_natCast]
    rw [e, ← e2]
    exact hr
theorem heldInts_l0 (d : Nat) : ∀ (i : Nat) (x : List Int) (v : Int), i + d = x.length → 0 ≤ v → v + d ≤ 4611686018427387904 → x.length ≤ 9223372036854775807 → x.drop i = cntL d v → Ev (fun k => laws_heldIntS.l0 k x v (i : Int)) (v + d) := by
  induction d with
  | zero =>
    intro i x v hi h0 h1 hl hx
    refine Ev.shift ?_
    have e : v + ((0 : Nat) : Int) = v := by omega
    simp only [laws_heldIntS.l0, show ¬ (i : Int) < (x.length : Int) from by omega, ↓reduceIte, e]
    exact Ev.now _
  | succ d ih =>
    intro i x v hi h0 h1 hl hx
    have hil : i < x.length := by omega
    have c1 : (i : Int) < (x.length : Int) := by omega
    have c2 : (0 : Int) ≤ (i : Int) := by omega
    have hup := int_up hil hl
    have w1 : wrap64 (v + 1) = v + 1 := wrap_id (by omega) (by omega)
    rw [List.drop_eq_getElem_cons hil, cntL] at hx
    injection hx with hx1 hx2
    have hr := ih (i + 1) x (v + 1) (by omega) (by omega) (by omega) hl hx2
    have e : v + ((d + 1 : Nat) : Int) = v + 1 + (d : Int) := by omega
    refine Ev.shift ?_
    simp only [laws_heldIntS.l0, c1, c2, w1, hup, rd_nat x i hil, hx1, ↓reduceIte]
    rw [e]
    exact hr
theorem cntL_length : ∀ (d : Nat) (v : Int), (cntL d v).length = d
  | 0, _ => rfl
  | d + 1, v => by rw [cntL, List.length_cons, cntL_length d]
theorem marksInts_ev (x : List Int) (hl : x.length ≤ 4000000) : Ev (fun k => laws_markIntS.f k x 1) (1 + (x.length : Int), cntL x.length 1) ∧ Ev (fun k => laws_heldIntS.f k (cntL x.length 1) 1) (1 + (x.length : Int)) := by
  refine ⟨?_, ?_⟩
  · have h := markInts_l0 x.length 0 x 1 (by omega) (by omega) (by omega) (by omega)
    rw [List.take_zero, List.nil_append] at h
    exact h
  · exact heldInts_l0 x.length 0 (cntL x.length 1) 1 (by rw [cntL_length]; omega) (by omega) (by omega) (by rw [cntL_length]; omega) (by rw [List.drop_zero])

/-- The Parent of place k. -/
def par (l : List S63) (k : Int) : Int := (rd_T63 l k).f0
/-- The way from k down to the first block, at most d steps. -/
def way (l : List S63) : Nat → Int → Option (List Int)
  | 0, k => if k > 0 then none else some [k]
  | d + 1, k => if k > 0 then (if 0 ≤ par l k ∧ par l k ≤ k - 1 then (way l d (par l k)).map (fun w => k :: w) else none) else some [k]
def wayK (l : List S63) (k : Int) : Option (List Int) := if 0 ≤ k ∧ k ≤ (l.length : Int) - 1 then way l k.toNat k else none
/-- What is behind the first of a way. -/
theorem way_head (l : List S63) : ∀ (d : Nat) (k : Int) (w : List Int), way l d k = some w → ∃ t, w = k :: t
  | 0, k, w, h => by
    simp only [way] at h
    split at h
    · simp at h
    · exact ⟨[], (Option.some.inj h).symm⟩
  | d + 1, k, w, h => by
    simp only [way] at h
    split at h
    · split at h
      · obtain ⟨t, _, rfl⟩ := Option.map_eq_some_iff.1 h
        exact ⟨t, rfl⟩
      · simp at h
    · exact ⟨[], (Option.some.inj h).symm⟩
theorem way_length (l : List S63) : ∀ (d : Nat) (k : Int) (w : List Int), way l d k = some w → 1 ≤ w.length ∧ w.length ≤ d + 1
  | 0, k, w, h => by
    simp only [way] at h
    split at h
    · simp at h
    · rw [← Option.some.inj h]
      simp
  | d + 1, k, w, h => by
    simp only [way] at h
    split at h
    · split at h
      · obtain ⟨t, ht, rfl⟩ := Option.map_eq_some_iff.1 h
        have := way_length l d _ t ht
        simp only [List.length_cons]
        omega
      · simp at h
    · rw [← Option.some.inj h]
      simp
/-- More steps than the place tells are idle. -/
theorem way_more (l : List S63) : ∀ (d e : Nat) (k : Int), k ≤ (d : Int) → k ≤ (e : Int) → way l d k = way l e k
  | 0, 0, k, _, _ => rfl
  | 0, e + 1, k, h, _ => by
    have : ¬ k > 0 := by omega
    simp only [way, this, ↓reduceIte]
  | d + 1, 0, k, _, h => by
    have : ¬ k > 0 := by omega
    simp only [way, this, ↓reduceIte]
  | d + 1, e + 1, k, h, h2 => by
    simp only [way]
    split
    · split
      · rename_i hp
        rw [way_more l d e (par l k) (by omega) (by omega)]
      · rfl
    · rfl
theorem way_step {l : List S63} {k : Int} (hk : 0 < k) (hp : 0 ≤ par l k ∧ par l k ≤ k - 1) : way l k.toNat k = (way l (par l k).toNat (par l k)).map (fun w => k :: w) := by
  obtain ⟨d, hd⟩ : ∃ d : Nat, k.toNat = d + 1 := ⟨k.toNat - 1, by omega⟩
  rw [hd]
  simp only [way, hk, hp, and_self, ↓reduceIte, gt_iff_lt]
  rw [way_more l d (par l k).toNat (par l k) (by omega) (by omega)]
theorem way_stop {l : List S63} {k : Int} (hk : 0 < k) (hp : ¬ (0 ≤ par l k ∧ par l k ≤ k - 1)) : way l k.toNat k = none := by
  obtain ⟨d, hd⟩ : ∃ d : Nat, k.toNat = d + 1 := ⟨k.toNat - 1, by omega⟩
  rw [hd]
  simp only [way, hk, hp, ↓reduceIte, gt_iff_lt]
theorem way_zero (l : List S63) : way l (0 : Int).toNat 0 = some [0] := rfl
def heightB (l : List S63) (k : Int) : Int := match wayK l k with
  | some w => (w.length : Int) - 1
  | none => -1
def extB (l : List S63) (k u : Int) : Bool := match wayK l k with
  | some w => decide (u ∈ w)
  | none => false
theorem height_none {l : List S63} {k : Int} (h : wayK l k = none) : heightB l k = -1 := by
  unfold heightB
  rw [h]
theorem height_some {l : List S63} {k : Int} {w : List Int} (h : wayK l k = some w) : heightB l k = (w.length : Int) - 1 := by
  unfold heightB
  rw [h]
theorem ext_none {l : List S63} {k u : Int} (h : wayK l k = none) : extB l k u = false := by
  unfold extB
  rw [h]
theorem ext_some {l : List S63} {k u : Int} {w : List Int} (h : wayK l k = some w) : extB l k u = decide (u ∈ w) := by
  unfold extB
  rw [h]
theorem wayK_length {l : List S63} {k : Int} {w : List Int} (hl : l.length ≤ 1048576) (hw : wayK l k = some w) : 1 ≤ w.length ∧ w.length ≤ 1048577 := by
  unfold wayK at hw
  split at hw
  · have := way_length l _ _ w hw
    omega
  · simp at hw

theorem spec_l01In_eq (a b c : Int) : spec_l01In.f a b c = some (decide (b ≤ a ∧ a ≤ c)) := by
  unfold spec_l01In.f
  by_cases h : a ≥ b
  · simp [h]
  · have h' : ¬ b ≤ a := by omega
    simp [h, h']

theorem spec_HeightOf_l0 (l : List S63) (hl : l.length ≤ 1048576) (d : Nat) : ∀ (k n : Int), k.toNat = d → 0 ≤ k → k ≤ (l.length : Int) - 1 → 0 ≤ n → n + d ≤ 4000000 →
    Ev (fun q => spec_HeightOf.l0 q l k n) (match way l k.toNat k with | some w => n + ((w.length : Int) - 1) | none => -1) := by
  induction d using Nat.strongRecOn with
  | _ d ih =>
    intro k n hd h0 h1 hn hn2
    refine Ev.shift ?_
    have e0 : wrap64 ((l.length : Int) - 1) = (l.length : Int) - 1 := wrap_id (by omega) (by omega)
    have ein : spec_l01In.f k 0 ((l.length : Int) - 1) = some true := by rw [spec_l01In_eq, decide_eq_true ⟨h0, h1⟩]
    by_cases hk : k = 0
    · subst hk
      have hz : ¬ (l.length : Int) = 0 := by clear e0; omega
      simp only [spec_HeightOf.l0, hz, ↓reduceIte, way_zero, List.length_cons, List.length_nil]
      have e : n + (((0 + 1 : Nat) : Int) - 1) = n := by clear e0; omega
      rw [e]
      exact Ev.now _
    · have hk' : 0 < k := by clear e0; omega
      have c1 : k < (l.length : Int) := by clear e0; omega
      have m1 : -9223372036854775808 ≤ k - 1 := by clear e0; omega
      have m2 : k - 1 ≤ 9223372036854775807 := by clear e0; omega
      have m3 : -9223372036854775808 ≤ n + 1 := by clear e0; omega
      have m4 : n + 1 ≤ 9223372036854775807 := by clear e0; omega
      by_cases hp : 0 ≤ par l k ∧ par l k ≤ k - 1
      · have hr := ih (par l k).toNat (by clear e0; omega) (par l k) (n + 1) rfl hp.1 (by clear e0; omega) (by clear e0; omega) (by clear e0; omega)
        have e3 : (match Option.map (fun w => k :: w) (way l (par l k).toNat (par l k)) with | some w => n + ((w.length : Int) - 1) | none => -1) = (match way l (par l k).toNat (par l k) with | some w => n + 1 + ((w.length : Int) - 1) | none => -1) := by
          cases way l (par l k).toNat (par l k) with
          | none => rfl
          | some w =>
            show n + (((k :: w).length : Int) - 1) = n + 1 + ((w.length : Int) - 1)
            rw [List.length_cons]
            clear e0
            omega
        rw [way_step hk' hp, e3]
        have e1 : wrap64 (k - 1) = k - 1 := wrap_id m1 m2
        have e4 : wrap64 (n + 1) = n + 1 := wrap_id m3 m4
        have e2 : spec_l01In.f (par l k) 0 (k - 1) = some true := by rw [spec_l01In_eq, decide_eq_true hp]
        simp only [spec_HeightOf.l0, hk, e0, ein, h0, c1, e1, e4, Option.bind_some, ↓reduceIte]
        rw [show (rd_T63 l k).f0 = par l k from rfl]
        simp only [e2, Option.bind_some, ↓reduceIte]
        exact hr
      · rw [way_stop hk' hp]
        have e1 : wrap64 (k - 1) = k - 1 := wrap_id m1 m2
        have e2 : spec_l01In.f (par l k) 0 (k - 1) = some false := by rw [spec_l01In_eq, decide_eq_false hp]
        simp only [spec_HeightOf.l0, hk, e0, ein, h0, c1, e1, Option.bind_some, ↓reduceIte]
        rw [show (rd_T63 l k).f0 = par l k from rfl]
        simp only [e2, Option.bind_some, ↓reduceIte, Bool.false_eq_true]
        exact Ev.now _
theorem spec_HeightOf_ev (l : List S63) (hl : l.length ≤ 1048576) (k : Int) : Ev (fun q => spec_HeightOf.f q l k) (heightB l k) := by
  unfold spec_HeightOf.f heightB wayK
  by_cases h : 0 ≤ k ∧ k ≤ (l.length : Int) - 1
  · have hr := spec_HeightOf_l0 l hl k.toNat k 0 rfl h.1 h.2 (by omega) (by omega)
    simp only [h, and_self, ↓reduceIte]
    cases hw : way l k.toNat k with
    | none =>
      rw [hw] at hr
      exact hr
    | some w =>
      rw [hw] at hr
      simp only [Int.zero_add] at hr
      exact hr
  · simp only [h, ↓reduceIte]
    have e0 : wrap64 ((l.length : Int) - 1) = (l.length : Int) - 1 := wrap_id (by omega) (by omega)
    have ein : spec_l01In.f k 0 ((l.length : Int) - 1) = some false := by rw [spec_l01In_eq, decide_eq_false h]
    refine Ev.shift ?_
    by_cases hk : k = 0
    · have hz : (l.length : Int) = 0 := by clear e0; omega
      simp only [spec_HeightOf.l0, hk, hz, ↓reduceIte]
      exact Ev.now _
    · simp only [spec_HeightOf.l0, hk, e0, ein, Option.bind_some, ↓reduceIte, Bool.false_eq_true]
      exact Ev.now _

theorem impl_in_eq (a b c : Int) : impl_in.f a b c = some (decide (b ≤ a ∧ a ≤ c)) := by
  unfold impl_in.f
  by_cases h : a ≥ b
  · simp [h]
  · have h' : ¬ b ≤ a := by omega
    simp [h, h']

def wayR (acc : List Int) : Option (List Int) → List Int × Bool
  | some w => (acc ++ w.tail, true)
  | none => ([], false)
theorem impl_wayDown_l0 (l : List S63) (hl : l.length ≤ 1048576) (d : Nat) : ∀ (k : Int) (acc : List Int), k.toNat = d → 0 ≤ k → k ≤ (l.length : Int) - 1 → acc.length + d ≤ 4000000 →
    Ev (fun q => impl_wayDown.l0 q l k acc) (wayR acc (way l k.toNat k)) := by
  induction d using Nat.strongRecOn with
  | _ d ih =>
    intro k acc hd h0 h1 ha
    refine Ev.shift ?_
    by_cases hk : k > 0
    · have c1 : k < (l.length : Int) := by omega
      have c3 : acc.length < 17592186044416 := by omega
      have m1 : -9223372036854775808 ≤ k - 1 := by omega
      have m2 : k - 1 ≤ 9223372036854775807 := by omega
      by_cases hp : 0 ≤ par l k ∧ par l k ≤ k - 1
      · have hr := ih (par l k).toNat (by omega) (par l k) (acc ++ [par l k]) rfl hp.1 (by omega) (by simp; omega)
        rw [way_step hk hp]
        have e1 : wrap64 (k - 1) = k - 1 := wrap_id m1 m2
        have e2 : impl_in.f (par l k) 0 (k - 1) = some true := by rw [impl_in_eq, decide_eq_true hp]
        simp only [impl_wayDown.l0, hk, h0, c1, e1, c3, ↓reduceIte]
        rw [show (rd_T63 l k).f0 = par l k from rfl]
        simp only [e2, Option.bind_some, ↓reduceIte]
        have e3 : wayR acc (Option.map (fun w => k :: w) (way l (par l k).toNat (par l k))) = wayR (acc ++ [par l k]) (way l (par l k).toNat (par l k)) := by
          cases hw : way l (par l k).toNat (par l k) with
          | none => rfl
          | some w =>
            obtain ⟨t, rfl⟩ := way_head l _ _ w hw
            simp [wayR]
        rw [e3]
        exact hr
      · rw [way_stop hk hp]
        have e1 : wrap64 (k - 1) = k - 1 := wrap_id m1 m2
        have e2 : impl_in.f (par l k) 0 (k - 1) = some false := by rw [impl_in_eq, decide_eq_false hp]
        simp only [impl_wayDown.l0, hk, h0, c1, e1, ↓reduceIte]
        rw [show (rd_T63 l k).f0 = par l k from rfl]
        simp only [e2, Option.bind_some, ↓reduceIte, Bool.false_eq_true, wayR]
        exact Ev.now _
    · obtain rfl : k = 0 := by omega
      rw [way_zero]
      simp only [impl_wayDown.l0, show ¬ (0 : Int) > 0 from by decide, ↓reduceIte, wayR, List.tail_cons, List.append_nil]
      exact Ev.now _
def wayB (l : List S63) (k : Int) : List Int × Bool := match wayK l k with
  | some w => (w, true)
  | none => ([], false)
theorem impl_wayDown_ev (l : List S63) (hl : l.length ≤ 1048576) (k : Int) : Ev (fun q => impl_wayDown.f q l k) (wayB l k) := by
  unfold impl_wayDown.f wayB wayK
  have e : wrap64 ((l.length : Int) - 1) = (l.length : Int) - 1 := wrap_id (by omega) (by omega)
  rw [e, impl_in_eq]
  clear e
  by_cases h : 0 ≤ k ∧ k ≤ (l.length : Int) - 1
  · have hr := impl_wayDown_l0 l hl k.toNat k [k] rfl h.1 h.2 (by simp; omega)
    simp only [h, and_self, decide_true, Option.bind_some, ↓reduceIte]
    cases hw : way l k.toNat k with
    | none =>
      rw [hw] at hr
      exact hr
    | some w =>
      rw [hw] at hr
      obtain ⟨t, rfl⟩ := way_head l _ _ w hw
      exact hr
  · simp only [h, decide_false, Option.bind_some, ↓reduceIte, Bool.false_eq_true]
    exact Ev.now _
theorem wayB_none {l : List S63} {k : Int} (h : wayK l k = none) : wayB l k = ([], false) := by
  unfold wayB
  rw [h]
theorem wayB_some {l : List S63} {k : Int} {w : List Int} (h : wayK l k = some w) : wayB l k = (w, true) := by
  unfold wayB
  rw [h]

theorem rev_l0 (l : List Int) (hl : l.length ≤ 4611686018427387904) (d : Nat) : ∀ (i : Nat) (x : List Int), x.length = l.length → (∀ p : Nat, p < l.length → x[p]? = if p < i ∨ l.length ≤ p + i then l[l.length - 1 - p]? else l[p]?) → l.length ≤ 2 * i + d → i ≤ l.length →
    Ev (fun k => slices_Reverse_int_int.l0 k x (i : Int) ((l.length : Int) - 1 - (i : Int))) l.reverse := by
  induction d with
  | zero =>
    intro i x hx hp hd hi
    refine Ev.shift ?_
    simp only [slices_Reverse_int_int.l0, show ¬ (i : Int) < (l.length : Int) - 1 - (i : Int) from by omega, ↓reduceIte]
    have e : x = l.reverse := by
      apply List.ext_getElem?
      intro p
      by_cases h : p < l.length
      · rw [hp p h, List.getElem?_reverse h]
        by_cases c : p < i ∨ l.length ≤ p + i
        · rw [if_pos c]
        · rw [if_neg c]
          have : l.length - 1 - p = p := by omega
          rw [this]
      · rw [List.getElem?_eq_none (by omega), List.getElem?_eq_none (by rw [List.length_reverse]; omega)]
    rw [e]
    exact Ev.now _
  | succ d ih =>
    intro i x hx hp hd hi
    by_cases h : 2 * i + 1 < l.length
    · obtain ⟨J, hJ⟩ : ∃ J : Nat, (l.length : Int) - 1 - (i : Int) = (J : Int) := ⟨l.length - 1 - i, by omega⟩
      have c1 : (i : Int) < (J : Int) := by omega
      have c2 : (0 : Int) ≤ (J : Int) := by omega
      have c3 : (J : Int) < (x.length : Int) := by omega
      have c4 : (0 : Int) ≤ (i : Int) := by omega
      have c5 : (i : Int) < (x.length : Int) := by omega
      have hJx : J < x.length := by omega
      have hix : i < x.length := by omega
      have w1 : wrap64 ((i : Int) + 1) = ((i + 1 : Nat) : Int) := by rw [wrap_id (by omega) (by omega)]; omega
      have w2 : wrap64 ((J : Int) - 1) = (l.length : Int) - 1 - ((i + 1 : Nat) : Int) := by rw [wrap_id (by omega) (by omega)]; omega
      have gi : l[i]? = some x[i] := by
        have := hp i (by omega)
        rw [List.getElem?_eq_getElem hix, if_neg (by omega)] at this
        exact this.symm
      have gJ : l[J]? = some x[J] := by
        have := hp J (by omega)
        rw [List.getElem?_eq_getElem hJx, if_neg (by omega)] at this
        exact this.symm
      have hr := ih (i + 1) ((x.set i x[J]).set J x[i]) (by simp only [List.length_set]; exact hx) (fun p hpl => by
        by_cases e1 : p = J
        · subst e1
          rw [List.getElem?_set_self (by rw [List.length_set]; exact hJx), if_pos (by omega), ← gi]
          congr 1
          omega
        · rw [List.getElem?_set_ne (Ne.symm e1)]
          by_cases e2 : p = i
          · subst e2
            rw [List.getElem?_set_self hix, if_pos (by omega), ← gJ]
            congr 1
            omega
          · rw [List.getElem?_set_ne (Ne.symm e2), hp p hpl]
            by_cases c : p < i ∨ l.length ≤ p + i
            · rw [if_pos c, if_pos (by omega)]
            · rw [if_neg c, if_neg (by omega)]) (by omega) (by omega)
      refine Ev.shift ?_
      rw [hJ]
      simp only [slices_Reverse_int_int.l0, c1, c2, c3, c4, c5, w1, w2, rd_nat x J hJx, rd_nat x i hix, ↓reduceIte, Int.toNat_natCast]
      exact hr
    · refine Ev.shift ?_
      simp only [slices_Reverse_int_int.l0, show ¬ (i : Int) < (l.length : Int) - 1 - (i : Int) from by omega, ↓reduceIte]
      have e : x = l.reverse := by
        apply List.ext_getElem?
        intro p
        by_cases h : p < l.length
        · rw [hp p h, List.getElem?_reverse h]
          by_cases c : p < i ∨ l.length ≤ p + i
          · rw [if_pos c]
          · rw [if_neg c]
            have : l.length - 1 - p = p := by omega
            rw [this]
        · rw [List.getElem?_eq_none (by omega), List.getElem?_eq_none (by rw [List.length_reverse]; omega)]
      rw [e]
      exact Ev.now _
theorem rev_ev (l : List Int) (hl : l.length ≤ 4611686018427387904) : Ev (fun k => slices_Reverse_int_int.f k l) l.reverse := by
  have h := rev_l0 l hl l.length 0 l rfl (fun p hp => by rw [if_neg (by omega)]) (by omega) (by omega)
  unfold slices_Reverse_int_int.f
  have e : wrap64 ((l.length : Int) - 1) = (l.length : Int) - 1 - ((0 : Nat) : Int) := by rw [wrap_id (by omega) (by omega)]; omega
  rw [e]
  exact h

def rowB (l : List S63) (k : Int) : List Int := match wayK l k with
  | some w => w.reverse.drop 1
  | none => []
theorem row_none {l : List S63} {k : Int} (h : wayK l k = none) : rowB l k = [] := by
  unfold rowB
  rw [h]
theorem row_some {l : List S63} {k : Int} {w : List Int} (h : wayK l k = some w) : rowB l k = w.reverse.drop 1 := by
  unfold rowB
  rw [h]
theorem row_length {l : List S63} {k : Int} (hl : l.length ≤ 1048576) : (rowB l k).length ≤ 1048577 := by
  cases hw : wayK l k with
  | none => rw [row_none hw]; simp
  | some w =>
    rw [row_some hw]
    have := wayK_length hl hw
    simp
    omega
theorem spec_RowTo_l0 (l : List S63) (d : Nat) : ∀ (k : Int) (acc w : List Int), k.toNat = d → 0 ≤ k → k ≤ (l.length : Int) - 1 → way l k.toNat k = some w → acc.length + d ≤ 4000000 → Ev (fun q => spec_RowTo.l0 q l k acc) (w.dropLast.reverse ++ acc) := by
  induction d using Nat.strongRecOn with
  | _ d ih =>
    intro k acc w hd h0 h1 hw ha
    refine Ev.shift ?_
    by_cases hk : k > 0
    · have c1 : k < (l.length : Int) := by omega
      by_cases hp : 0 ≤ par l k ∧ par l k ≤ k - 1
      · rw [way_step hk hp] at hw
        obtain ⟨t, ht, rfl⟩ := Option.map_eq_some_iff.1 hw
        have hz : [k].length + acc.length < 17592186044416 := by simp only [List.length_cons, List.length_nil]; omega
        have hr := ih (par l k).toNat (by omega) (par l k) ([k] ++ acc) t rfl hp.1 (by omega) ht (by simp only [List.length_append, List.length_cons, List.length_nil]; omega)
        have e : (k :: t).dropLast.reverse ++ acc = t.dropLast.reverse ++ ([k] ++ acc) := by
          obtain ⟨t2, rfl⟩ := way_head l _ _ t ht
          simp
        rw [e]
        simp only [spec_RowTo.l0, hk, h0, c1, hz, ↓reduceIte, Option.bind_some]
        exact hr
      · rw [way_stop hk hp] at hw
        simp at hw
    · obtain rfl : k = 0 := by omega
      rw [way_zero] at hw
      obtain rfl := Option.some.inj hw
      simp only [spec_RowTo.l0, hk, ↓reduceIte]
      exact Ev.now _
theorem spec_RowTo_ev (l : List S63) (hl : l.length ≤ 1048576) (k : Int) : Ev (fun q => spec_RowTo.f q l k) (rowB l k) := by
  unfold spec_RowTo.f
  simp only [Option.bind_some]
  refine Ev.bind (spec_HeightOf_ev l hl k) ?_
  cases hw : wayK l k with
  | none =>
    rw [height_none hw, row_none hw]
    simp only [show ((-1 : Int) < 0) = True from eq_true (by decide), ↓reduceIte]
    exact Ev.now _
  | some w =>
    have hz := wayK_length hl hw
    have hn : ¬ (w.length : Int) - 1 < 0 := by omega
    rw [height_some hw, row_some hw]
    simp only [hn, ↓reduceIte]
    unfold wayK at hw
    split at hw
    · rename_i h
      have hr := spec_RowTo_l0 l k.toNat k [] w rfl h.1 h.2 hw (by simp only [List.length_nil]; omega)
      rw [List.append_nil] at hr
      rw [List.drop_one, List.tail_reverse]
      exact hr
    · simp at hw
theorem impl_RowTo_ev (l : List S63) (hl : l.length ≤ 1048576) (k : Int) : Ev (fun q => impl_RowTo.f q l k) (rowB l k) := by
  unfold impl_RowTo.f
  refine Ev.bind (impl_wayDown_ev l hl k) ?_
  cases hw : wayK l k with
  | none =>
    rw [wayB_none hw, row_none hw]
    simp only [Bool.false_eq_true, ↓reduceIte]
    exact Ev.now _
  | some w =>
    have hz := wayK_length hl hw
    have c : 1 ≤ (w.length : Int) := by omega
    rw [wayB_some hw, row_some hw]
    simp only [↓reduceIte, c]
    exact Ev.bind (rev_ev w (by omega)) (Ev.now _)

def idxB (u : Int) : List Int → Int → Int
  | [], _ => -1
  | x :: xs, i => if u = x then i else idxB u xs (i + 1)
theorem index_int_l0 (w : List Int) (hw : w.length ≤ 9223372036854775807) (u : Int) (d : Nat) : ∀ i : Nat, i + d = w.length → Ev (fun q => slices_Index_int_int.l0 q w u (w.length : Int) (i : Int)) (idxB u (w.drop i) (i : Int)) := by
  induction d with
  | zero =>
    intro i hi
    refine Ev.shift ?_
    rw [List.drop_of_length_le (by omega)]
    simp only [slices_Index_int_int.l0, show ¬ (i : Int) < (w.length : Int) from by omega, ↓reduceIte, idxB]
    exact Ev.now _
  | succ d ih =>
    intro i hi
    have hr := ih (i + 1) (by omega)
    have hil : i < w.length := by omega
    have c1 : (i : Int) < (w.length : Int) := by omega
    have c2 : (0 : Int) ≤ (i : Int) := by omega
    refine Ev.shift ?_
    rw [List.drop_eq_getElem_cons hil]
    by_cases hu : u = w[i]
    · simp only [slices_Index_int_int.l0, c1, c2, rd_nat w i hil, hu, ↓reduceIte, idxB]
      exact Ev.now _
    · simp only [slices_Index_int_int.l0, c1, c2, rd_nat w i hil, hu, ↓reduceIte, idxB, int_up hil hw]
      exact hr
theorem index_int_ev (w : List Int) (hw : w.length ≤ 9223372036854775807) (u : Int) : Ev (fun q => slices_Index_int_int.f q w u) (idxB u w 0) := by
  have h := index_int_l0 w hw u w.length 0 (by omega)
  rw [List.drop_zero] at h
  exact h
theorem idxB_pos (u : Int) : ∀ (w : List Int) (i : Int), 0 ≤ i → (idxB u w i ≥ 0 ↔ u ∈ w)
  | [], i, _ => by simp [idxB]
  | x :: xs, i, h => by
    by_cases hu : u = x
    · simp [idxB, hu, h]
    · simp only [idxB, hu, ↓reduceIte, List.mem_cons, false_or]
      exact idxB_pos u xs (i + 1) (by omega)

theorem height_neg (l : List S63) (k : Int) : (heightB l k < 0) = (wayK l k = none) := by
  unfold heightB
  cases hw : wayK l k with
  | none => simp
  | some w =>
    have : 1 ≤ w.length := by
      unfold wayK at hw
      split at hw
      · exact (way_length l _ _ w hw).1
      · simp at hw
    simp only [reduceCtorEq, eq_iff_iff, iff_false]
    omega

theorem contains_int_ev (w : List Int) (hw : w.length ≤ 9223372036854775807) (u : Int) : Ev (fun q => slices_Contains_int_int.f q w u) (decide (u ∈ w)) := by
  unfold slices_Contains_int_int.f
  refine Ev.bind (index_int_ev w hw u) ?_
  rw [decide_eq_decide.2 (idxB_pos u w 0 (Int.le_refl _))]
  exact Ev.now _

theorem impl_Extends_ev (l : List S63) (hl : l.length ≤ 1048576) (k u : Int) : Ev (fun q => impl_Extends.f q l k u) (extB l k u) := by
  unfold impl_Extends.f
  refine Ev.bind (impl_wayDown_ev l hl k) ?_
  cases hw : wayK l k with
  | none =>
    rw [wayB_none hw, ext_none hw]
    simp only [Bool.false_eq_true, ↓reduceIte]
    exact Ev.now _
  | some w =>
    have hz := wayK_length hl hw
    rw [wayB_some hw, ext_some hw]
    simp only [↓reduceIte]
    exact Ev.bind (contains_int_ev w (by omega) u) (Ev.now _)

theorem spec_Extends_l0 (l : List S63) (u : Int) (d : Nat) : ∀ (k : Int) (w : List Int), k.toNat = d → 0 ≤ k → k ≤ (l.length : Int) - 1 → way l k.toNat k = some w → Ev (fun q => spec_Extends.l0 q l k u) (decide (u ∈ w)) := by
  induction d using Nat.strongRecOn with
  | _ d ih =>
    intro k w hd h0 h1 hw
    refine Ev.shift ?_
    by_cases hk : k > 0
    · have c1 : k < (l.length : Int) := by omega
      by_cases hp : 0 ≤ par l k ∧ par l k ≤ k - 1
      · rw [way_step hk hp] at hw
        obtain ⟨t, ht, rfl⟩ := Option.map_eq_some_iff.1 hw
        by_cases hu : k = u
        · subst hu
          simp only [spec_Extends.l0, hk, ↓reduceIte, beq_self_eq_true]
          rw [decide_eq_true (List.mem_cons_self ..)]
          exact Ev.now _
        · have hr := ih (par l k).toNat (by omega) (par l k) t rfl hp.1 (by omega) ht
          simp only [spec_Extends.l0, hk, hu, h0, c1, ↓reduceIte]
          have e : decide (u ∈ k :: t) = decide (u ∈ t) := decide_eq_decide.2 (by rw [List.mem_cons]; exact ⟨fun q => q.elim (fun z => absurd z.symm hu) id, .inr⟩)
          rw [e]
          exact hr
      · rw [way_stop hk hp] at hw
        simp at hw
    · obtain rfl : k = 0 := by omega
      rw [way_zero] at hw
      obtain rfl := Option.some.inj hw
      simp only [spec_Extends.l0, hk, ↓reduceIte]
      have e : decide (u ∈ [(0 : Int)]) = ((0 : Int) == u) := by
        rw [Bool.eq_iff_iff]
        simp only [List.mem_singleton, decide_eq_true_eq, beq_iff_eq]
        exact eq_comm
      rw [e]
      exact Ev.now _
theorem spec_Extends_ev (l : List S63) (hl : l.length ≤ 1048576) (k u : Int) : Ev (fun q => spec_Extends.f q l k u) (extB l k u) := by
  unfold spec_Extends.f
  refine Ev.bind (spec_HeightOf_ev l hl k) ?_
  cases hw : wayK l k with
  | none =>
    rw [height_none hw, ext_none hw]
    simp only [show ((-1 : Int) < 0) = True from eq_true (by decide), ↓reduceIte]
    exact Ev.now _
  | some w =>
    have hz := wayK_length hl hw
    have hn : ¬ (w.length : Int) - 1 < 0 := by omega
    rw [height_some hw, ext_some hw]
    simp only [hn, ↓reduceIte]
    unfold wayK at hw
    split at hw
    · rename_i h
      exact spec_Extends_l0 l u k.toNat k w rfl h.1 h.2 hw
    · simp at hw

theorem way_sorted (l : List S63) : ∀ (d : Nat) (k : Int) (w : List Int), 0 ≤ k → way l d k = some w → w.Pairwise (fun a b => b < a) ∧ (∀ x ∈ w, 0 ≤ x ∧ x ≤ k) ∧ ∃ t, w = t ++ [0]
  | 0, k, w, h0, h => by
    simp only [way] at h
    split at h
    · simp at h
    · have hk : k = 0 := by omega
      subst hk
      rw [← Option.some.inj h]
      exact ⟨List.pairwise_singleton .., fun x hx => by rw [List.mem_singleton.1 hx]; omega, [], rfl⟩
  | d + 1, k, w, h0, h => by
    simp only [way] at h
    split at h
    · split at h
      · rename_i hp
        obtain ⟨t, ht, rfl⟩ := Option.map_eq_some_iff.1 h
        obtain ⟨g1, g2, s, rfl⟩ := way_sorted l d _ t hp.1 ht
        refine ⟨List.pairwise_cons.2 ⟨fun x hx => by have := g2 x hx; omega, g1⟩, fun x hx => ?_, k :: s, rfl⟩
        rcases List.mem_cons.1 hx with rfl | hx
        · omega
        · have := g2 x hx
          omega
      · simp at h
    · have hk : k = 0 := by omega
      subst hk
      rw [← Option.some.inj h]
      exact ⟨List.pairwise_singleton .., fun x hx => by rw [List.mem_singleton.1 hx]; omega, [], rfl⟩
theorem idxB_shift (u : Int) : ∀ (w : List Int) (i : Int), u ∈ w → idxB u w (i + 1) = idxB u w i + 1
  | [], i, h => by simp at h
  | x :: xs, i, h => by
    by_cases hu : u = x
    · simp only [idxB, hu, ↓reduceIte]
    · simp only [idxB, hu, ↓reduceIte]
      exact idxB_shift u xs (i + 1) ((List.mem_cons.1 h).resolve_left hu)
theorem idxB_neg (u : Int) : ∀ (w : List Int) (i : Int), u ∉ w → idxB u w i = -1
  | [], i, _ => rfl
  | x :: xs, i, h => by
    have hu : u ≠ x := fun e => h (e ▸ List.mem_cons_self ..)
    simp only [idxB, hu, ↓reduceIte]
    exact idxB_neg u xs (i + 1) (fun e => h (List.mem_cons_of_mem _ e))
theorem idxB_range (u : Int) : ∀ (w : List Int) (i : Int), 0 ≤ i → -1 ≤ idxB u w i ∧ idxB u w i < i + w.length
  | [], i, h => by simp only [idxB, List.length_nil]; omega
  | x :: xs, i, h => by
    have ih := idxB_range u xs (i + 1) (by omega)
    rw [List.length_cons]
    by_cases hu : u = x
    · simp only [idxB, hu, ↓reduceIte]
      omega
    · simp only [idxB, hu, ↓reduceIte]
      omega
theorem filter_drop (u : Int) : ∀ (w : List Int), w.Pairwise (fun a b => a < b) → (u ∈ w ∨ ∀ x ∈ w, u < x) → w.filter (fun x => decide (x > u)) = w.drop (idxB u w 0 + 1).toNat
  | [], _, _ => rfl
  | x :: xs, hs, h => by
    obtain ⟨h1, h2⟩ := List.pairwise_cons.1 hs
    by_cases hu : u = x
    · subst hu
      have e : idxB u (u :: xs) 0 = 0 := by simp only [idxB, ↓reduceIte]
      rw [e, List.filter_cons_of_neg (by simp)]
      have e2 : xs.filter (fun x => decide (x > u)) = xs := List.filter_eq_self.2 (fun y hy => decide_eq_true (h1 y hy))
      rw [e2]
      rfl
    · by_cases hm : u ∈ xs
      · have hx : x < u := h1 u hm
        have ih := filter_drop u xs h2 (.inl hm)
        have e : idxB u (x :: xs) 0 = idxB u xs 0 + 1 := by
          simp only [idxB, hu, ↓reduceIte]
          exact idxB_shift u xs 0 hm
        have hr := idxB_range u xs 0 (Int.le_refl _)
        rw [List.filter_cons_of_neg (by simp; omega), ih, e]
        have e2 : (idxB u xs 0 + 1 + 1).toNat = (idxB u xs 0 + 1).toNat + 1 := by omega
        rw [e2, List.drop_succ_cons]
      · have hn : u ∉ x :: xs := fun e => (List.mem_cons.1 e).elim hu hm
        have ha := h.resolve_left hn
        rw [idxB_neg u _ 0 hn, List.filter_eq_self.2 (fun y hy => decide_eq_true (ha y hy))]
        rfl
def afterB (l : List S63) (k u : Int) : List Int := if extB l k u = true then (rowB l k).filter (fun x => decide (x > u)) else []
theorem row_sorted {l : List S63} {k u : Int} (h : extB l k u = true) : (rowB l k).Pairwise (fun a b => a < b) ∧ (u ∈ rowB l k ∨ ∀ x ∈ rowB l k, u < x) := by
  cases hw : wayK l k with
  | none => rw [ext_none hw] at h; cases h
  | some w =>
    rw [ext_some hw] at h
    have hm := of_decide_eq_true h
    rw [row_some hw]
    unfold wayK at hw
    split at hw
    · rename_i hk
      obtain ⟨g1, g2, t, rfl⟩ := way_sorted l _ _ w hk.1 hw
      have e : (t ++ [(0 : Int)]).reverse.drop 1 = t.reverse := by simp
      rw [e]
      obtain ⟨p1, _, p3⟩ := List.pairwise_append.1 g1
      refine ⟨List.pairwise_reverse.2 p1, ?_⟩
      rcases List.mem_append.1 hm with hm | hm
      · exact .inl (List.mem_reverse.2 hm)
      · right
        intro x hx
        rw [List.mem_singleton.1 hm]
        exact p3 x (List.mem_reverse.1 hx) 0 (List.mem_singleton.2 rfl)
    · simp at hw
theorem spec_RowAfter_l0 (u : Int) (r : List Int) (hr : r.length ≤ 4000000) (d : Nat) : ∀ (i : Nat) (acc : List Int), i + d = r.length → acc.length ≤ i → Ev (fun q => spec_RowAfter.l0 q u r acc (i : Int)) (acc ++ (r.drop i).filter (fun x => decide (x > u))) := by
  induction d with
  | zero =>
    intro i acc hi ha
    refine Ev.shift ?_
    rw [List.drop_of_length_le (by omega)]
    simp only [spec_RowAfter.l0, show ¬ (i : Int) < (r.length : Int) from by omega, ↓reduceIte, List.filter_nil, List.append_nil]
    exact Ev.now _
  | succ d ih =>
    intro i acc hi ha
    have hil : i < r.length := by omega
    have c1 : (i : Int) < (r.length : Int) := by omega
    have c2 : (0 : Int) ≤ (i : Int) := by omega
    have hup := int_up hil (by omega)
    have c3 : acc.length < 17592186044416 := by omega
    refine Ev.shift ?_
    rw [List.drop_eq_getElem_cons hil]
    by_cases hu : r[i] > u
    · have h := ih (i + 1) (acc ++ [r[i]]) (by omega) (by simp only [List.length_append, List.length_cons, List.length_nil]; omega)
      rw [List.filter_cons_of_pos (p := fun x => decide (x > u)) (decide_eq_true hu)]
      rw [List.append_assoc] at h
      simp only [spec_RowAfter.l0, c1, c2, c3, rd_nat r i hil, hu, hup, ↓reduceIte]
      exact h
    · have h := ih (i + 1) acc (by omega) (by omega)
      rw [List.filter_cons_of_neg (p := fun x => decide (x > u)) (by simp only [decide_eq_true_eq]; exact hu)]
      simp only [spec_RowAfter.l0, c1, c2, rd_nat r i hil, hu, hup, ↓reduceIte]
      exact h
theorem spec_RowAfter_ev (l : List S63) (hl : l.length ≤ 1048576) (k u : Int) : Ev (fun q => spec_RowAfter.f q l k u) (afterB l k u) := by
  have hn := row_length (k := k) hl
  unfold spec_RowAfter.f afterB
  refine Ev.bind (spec_Extends_ev l hl k u) ?_
  by_cases h : extB l k u = true
  · simp only [h, ↓reduceIte]
    refine Ev.bind (spec_RowTo_ev l hl k) ?_
    have hr := spec_RowAfter_l0 u (rowB l k) (by omega) (rowB l k).length 0 [] (by omega) (by simp)
    rw [List.nil_append, List.drop_zero] at hr
    exact hr
  · simp only [h, ↓reduceIte]
    exact Ev.now _
theorem impl_RowAfter_ev (l : List S63) (hl : l.length ≤ 1048576) (k u : Int) : Ev (fun q => impl_RowAfter.f q l k u) (afterB l k u) := by
  have hn := row_length (k := k) hl
  unfold impl_RowAfter.f afterB
  refine Ev.bind (impl_Extends_ev l hl k u) ?_
  by_cases h : extB l k u = true
  · obtain ⟨s1, s2⟩ := row_sorted h
    simp only [h, ↓reduceIte]
    refine Ev.bind (impl_RowTo_ev l hl k) (Ev.bind (index_int_ev (rowB l k) (by omega) u) ?_)
    have hr := idxB_range u (rowB l k) 0 (Int.le_refl _)
    have e : wrap64 (idxB u (rowB l k) 0 + 1) = idxB u (rowB l k) 0 + 1 := wrap_id (by omega) (by omega)
    have c1 : 0 ≤ idxB u (rowB l k) 0 + 1 := by omega
    have c2 : idxB u (rowB l k) 0 + 1 ≤ ((rowB l k).length : Int) := by omega
    simp only [e, c1, c2, ↓reduceIte]
    rw [filter_drop u (rowB l k) s1 s2]
    exact Ev.now _
  · simp only [h, ↓reduceIte]
    exact Ev.now _
theorem after_length {l : List S63} {k u : Int} (hl : l.length ≤ 1048576) : (afterB l k u).length ≤ 1048577 := by
  have hn := row_length (k := k) hl
  unfold afterB
  split
  · have := List.length_filter_le (fun x => decide (x > u)) (rowB l k)
    omega
  · simp

theorem FnExactRowAfter : laws_FnExactRowAfter.Pure := by
  intro l k u hl _ _
  obtain ⟨r, hr, hq⟩ := tree_cases l hl
  rcases hq with hq | ⟨hq, _, h1, h2, ht, he, hm⟩
  · obtain ⟨K, hr⟩ := hr
    exact ⟨K, r, hr K (Nat.le_refl _), .inl hq⟩
  · have hk : ∀ b ∈ l.map cvBlock, b.f2.length ≤ 1048576 := by
      intro b hb
      obtain ⟨a, ha, rfl⟩ := List.mem_map.1 hb
      show (a.f2.map cvCmd).length ≤ _
      rw [List.length_map]
      have := (h2 a ha).1
      omega
    have hn := after_length (k := k) (u := u) hm
    obtain ⟨b, c, hb, hmb⟩ := markBlocks_ev _ hm hk
    have hmi := marksInts_ev (afterB (l.map cvBlock) k u) (by omega)
    obtain ⟨K1, g1⟩ := hr
    obtain ⟨K2, g2⟩ := ht
    obtain ⟨K3, g3⟩ := spec_RowAfter_ev _ hm k u
    obtain ⟨K4, g4⟩ := impl_RowAfter_ev _ hm k u
    obtain ⟨K5, g5⟩ := laws_eqIntS_ev (afterB (l.map cvBlock) k u) (by omega)
    obtain ⟨K6, g6⟩ := he
    obtain ⟨K7, g7⟩ := hmb
    obtain ⟨K8, g8⟩ := hmi.1
    obtain ⟨K9, g9⟩ := hmi.2
    exact ⟨K1 + K2 + K3 + K4 + K5 + K6 + K7 + K8 + K9, r, g1 _ (by omega), .inr ⟨hq, _, c, _, _, b, _, g2 _ (by omega), g3 _ (by omega), g4 _ (by omega), g5 _ (by omega), g6 _ (by omega), g7 _ (by omega), hb, g8 _ (by omega), by omega, g9 _ (by omega)⟩⟩

end Go.Proofs.Ytmcopcpeacikmaa.Pure
