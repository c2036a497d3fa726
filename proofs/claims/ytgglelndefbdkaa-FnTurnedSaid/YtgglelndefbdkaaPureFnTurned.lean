/- For every input that the statement reads, the law FnTurned of the given program returns true and leaves its arguments as they were. Conditions: none but the statement's own. -/
import Derived.Test.YtgglelndefbdkaaStmFnTurned
import Derived.Test.YtgglelndefbdkaaLib
import Derived.Test.YtgglelndefbdkaaLibCrc
import Derived.Test.YtgglelndefbdkaaLibText
set_option linter.unusedVariables false
set_option linter.unusedSimpArgs false
namespace Go.Proofs.Ytgglelndefbdkaa.Pure
open Go.RowKit Go.Proofs.Ytgglelndefbdkaa.QFnTurned Go.Proofs.YtgglelndefbdkaaW.PrintWords Go.Proofs.YtgglelndefbdkaaW.PrintLast Go.Proofs.YtgglelndefbdkaaW.PrintMore Go.Proofs.Ytgglelndefbdkaa.Lib

theorem impl_SumMore_l1 (s : ByteArray) (i : Int) (r : Int) (d : Nat) : ∀ (x : Int) (j : Nat), 0 ≤ x → x ≤ 4294967295 → j + d = 8 →
    Ev (fun k => impl_SumMore.l0 k (crcN d x) s (s.size : Int) (wrap64 (i + 1))) r → Ev (fun k => impl_SumMore.l1 k x s (s.size : Int) i (j : Int)) r := by
  induction d with
  | zero =>
    intro x j h0 h1 hj h
    obtain rfl : j = 8 := by omega
    refine Ev.shift ?_
    simp only [impl_SumMore.l1, show ¬ ((8 : Nat) : Int) < 8 from by omega, ↓reduceIte]
    exact h
  | succ d ih =>
    intro x j h0 h1 hj h
    refine Ev.shift ?_
    have hl : (j : Int) < 8 := by omega
    have h6 : wrap64 ((j : Int) + 1) = ((j + 1 : Nat) : Int) := by rw [wrap_id (by omega) (by omega)]; omega
    have e1 : Go.bits .and .u32 x 1 = x % 2 := and1_u32 h0 h1
    have hr := crc1_range h0 h1
    by_cases ho : x % 2 = 1
    · simp only [impl_SumMore.l1, hl, e1, ho, h6, ↓reduceIte]
      have e : crc1 x = Go.bits .xor .u32 (x / 2) 3558460437 := by unfold crc1; rw [if_pos ho]
      rw [e] at hr
      exact ih _ (j + 1) hr.1 hr.2 (by omega) (by simp only [crcN, e] at h; exact h)
    · simp only [impl_SumMore.l1, hl, e1, ho, h6, ↓reduceIte]
      have e : crc1 x = x / 2 := by unfold crc1; rw [if_neg ho]
      rw [e] at hr
      exact ih _ (j + 1) hr.1 hr.2 (by omega) (by simp only [crcN, e] at h; exact h)
theorem impl_SumMore_l0 (s : ByteArray) (hs : s.size ≤ 140737488351232) (d : Nat) : ∀ (x : Int) (i : Nat), i + d = s.size → Ev (fun k => impl_SumMore.l0 k x s (s.size : Int) (i : Int)) (crcS s d i x) := by
  induction d with
  | zero =>
    intro x i hi
    refine Ev.shift ?_
    simp only [impl_SumMore.l0, show ¬ (i : Int) < s.size from by omega, ↓reduceIte]
    exact Ev.now _
  | succ d ih =>
    intro x i hi
    refine Ev.shift ?_
    have h1 : (i : Int) < s.size := by omega
    have h4 : (0 : Int) ≤ i := by omega
    simp only [impl_SumMore.l0, h1, h4, ↓reduceIte]
    have hr := bits_u32_range .xor x (bt s (i : Int) % 4294967296)
    refine impl_SumMore_l1 s (i : Int) _ 8 _ 0 hr.1 hr.2 rfl ?_
    have h6 : wrap64 ((i : Int) + 1) = ((i + 1 : Nat) : Int) := by rw [wrap_id (by omega) (by omega)]; omega
    rw [h6]
    exact ih _ (i + 1) (by omega)
theorem impl_SumMore_ev (x : Int) (s : ByteArray) (hs : s.size ≤ 140737488351232) : Ev (fun k => impl_SumMore.f k x s) (crcS s s.size 0 x) :=
  impl_SumMore_l0 s hs s.size x 0 (by omega)

theorem impl_SumOf_ev (s : ByteArray) (hs : s.size ≤ 140737488351232) : Ev (fun k => impl_SumOf.f k s) (crcS s s.size 0 4294967295) := by
  unfold impl_SumOf.f
  exact Ev.bind (impl_SumMore_ev 4294967295 s hs) (Ev.now _)

def sumT (s : ByteArray) : Int := crcS s s.size 0 4294967295
def fourS (s : ByteArray) : ByteArray := strOfNums (four (sumT s))
theorem sumT_range (s : ByteArray) : 0 ≤ sumT s ∧ sumT s ≤ 4294967295 := crcS_range s s.size 0 (by decide) (by decide)
theorem fourS_size (s : ByteArray) : (fourS s).size = 4 := by
  unfold fourS
  rw [strOfNums_size]
  rfl

theorem impl_seal_ev (s : ByteArray) (hs : s.size ≤ 140737488351232) : Ev (fun k => impl_seal.f k s) (fourS s) := by
  unfold impl_seal.f
  exact Ev.bind (impl_SumOf_ev s hs) (Ev.now _)

theorem impl_in_eq (a b c : Int) : impl_in.f a b c = some (decide (b ≤ a ∧ a ≤ c)) := by
  unfold impl_in.f
  by_cases h : a ≥ b
  · simp [h]
  · have h' : ¬ b ≤ a := by omega
    simp [h, h']

/-- What is told of a text that may be sealed. -/
def unsB (s : ByteArray) : ByteArray × Bool :=
  if 4 ≤ s.size ∧ s.size ≤ 20004 ∧ (s.extract (s.size - 4) s.size).toList = (fourS (s.extract 0 (s.size - 4))).toList then (s.extract 0 (s.size - 4), true) else ((⟨#[]⟩ : ByteArray), false)
theorem extract_size_le (s : ByteArray) (a b : Nat) : (s.extract a b).size ≤ s.size := by
  rw [ByteArray.size_extract]
  omega
theorem impl_Unsealed_ev (s : ByteArray) (hs : s.size ≤ 140737488351232) : Ev (fun k => impl_Unsealed.f k s) (unsB s) := by
  unfold impl_Unsealed.f unsB
  have e : wrap64 ((s.size : Int) - 4) = (s.size : Int) - 4 := wrap_id (by omega) (by omega)
  simp only [e]
  by_cases h : 4 ≤ s.size ∧ s.size ≤ 20004
  · obtain ⟨h4, h5⟩ := h
    have e1 : impl_in.f ((s.size : Int) - 4) 0 20000 = some true := by rw [impl_in_eq, decide_eq_true (by omega)]
    have e2 : 0 ≤ (s.size : Int) - 4 := by omega
    have e3 : (s.size : Int) - 4 ≤ (s.size : Int) := by omega
    have e4 : ((s.size : Int) - 4).toNat = s.size - 4 := by omega
    simp only [e1, e2, e3, e4, ↓reduceIte, h4, h5, true_and, Option.bind_some]
    refine Ev.bind (impl_seal_ev _ (Nat.le_trans (extract_size_le _ _ _) hs)) ?_
    by_cases hq : (s.extract (s.size - 4) s.size).toList = (fourS (s.extract 0 (s.size - 4))).toList
    · simp only [hq, ↓reduceIte]
      exact Ev.now _
    · simp only [hq, ↓reduceIte]
      exact Ev.now _
  · have e1 : impl_in.f ((s.size : Int) - 4) 0 20000 = some false := by rw [impl_in_eq, decide_eq_false (by omega)]
    have e2 : ¬ (4 ≤ s.size ∧ s.size ≤ 20004 ∧ (s.extract (s.size - 4) s.size).toList = (fourS (s.extract 0 (s.size - 4))).toList) := fun q => h ⟨q.1, q.2.1⟩
    simp only [e1, e2, ↓reduceIte, Bool.false_eq_true, Option.bind_some]
    exact Ev.now _

theorem spec_l01New_l0 (l : List Int) (d : Nat) : ∀ (i : Nat) (x : Int), i + d = 4000 → ∃ h, Ev (fun k => spec_l01New.l0 k l x (i : Int)) (l, 0, h) := by
  induction d with
  | zero =>
    intro i x hi
    refine ⟨x, Ev.shift ?_⟩
    have h2 : ¬ (i : Int) < 4000 := by omega
    by_cases h1 : (i : Int) < (l.length : Int)
    · simp only [spec_l01New.l0, h1, h2, ↓reduceIte]
      exact Ev.now _
    · simp only [spec_l01New.l0, h1, ↓reduceIte]
      exact Ev.now _
  | succ d ih =>
    intro i x hi
    have h2 : (i : Int) < 4000 := by omega
    have h4 : (0 : Int) ≤ i := by omega
    have h6 : wrap64 ((i : Int) + 1) = ((i + 1 : Nat) : Int) := by rw [wrap_id (by omega) (by omega)]; omega
    by_cases h1 : (i : Int) < (l.length : Int)
    · obtain ⟨h, hh⟩ := ih (i + 1) (Go.bits .and .i64 (wrap64 ((wrap64 ((wrap64 (x * 131)) + (wrap64 (rd l (i : Int))))) + 7)) 1073741823) (by omega)
      refine ⟨h, Ev.shift ?_⟩
      simp only [spec_l01New.l0, h1, h2, h4, h6, ↓reduceIte]
      exact hh
    · refine ⟨x, Ev.shift ?_⟩
      simp only [spec_l01New.l0, h1, ↓reduceIte]
      exact Ev.now _
theorem spec_l01New_ev (l : List Int) : ∃ h, Ev (fun k => spec_l01New.f k l) (l, 0, h) := spec_l01New_l0 l 4000 0 _ rfl
/-- A cursor's place lies in its bytes. -/
def CurOk (l : List Int) (i : Int) : Prop := 0 ≤ i ∧ i ≤ (l.length : Int)
theorem spec_l01Byte_eq {l : List Int} (hl : l.length ≤ 9223372036854775807) {i : Int} (hi : CurOk l i) (h : Int) :
    ∃ x i' h', spec_l01Byte.f l i h = some (x, i', h') ∧ 0 ≤ x ∧ x ≤ 255 ∧ CurOk l i' := by
  unfold spec_l01Byte.f
  have hm := fun y => i64_and_range y 255 (by omega)
  by_cases h1 : i < (l.length : Int)
  · have h4 : 0 ≤ i := hi.1
    simp only [h1, h4, ↓reduceIte]
    refine ⟨_, _, _, rfl, (hm _).1, (hm _).2, ?_⟩
    rw [wrap_id (by omega) (by omega)]
    exact ⟨by omega, by omega⟩
  · simp only [h1, ↓reduceIte]
    exact ⟨_, _, _, rfl, (hm _).1, (hm _).2, hi⟩
theorem spec_l01Below_eq {l : List Int} (hl : l.length ≤ 9223372036854775807) {i : Int} (hi : CurOk l i) (h : Int) (n : Int) :
    ∃ x i' h', spec_l01Below.f l i h n = some (x, i', h') ∧ 0 ≤ x ∧ (0 < n → x < n) ∧ (n ≤ 0 → x = 0) ∧ CurOk l i' := by
  unfold spec_l01Below.f
  by_cases h0 : n ≤ 0
  · simp only [h0, ↓reduceIte]
    exact ⟨0, i, h, rfl, by omega, fun hn => by omega, fun _ => rfl, hi⟩
  · have hn : ¬ n = 0 := by omega
    by_cases h1 : n ≤ 256
    · obtain ⟨x, i', h', e, x0, x1, hc⟩ := spec_l01Byte_eq hl hi h
      simp only [h0, h1, hn, e, ↓reduceIte, Option.bind_some]
      refine ⟨_, _, _, rfl, ?_, fun _ => ?_, fun hh => by first | exact hh.elim | exact absurd hh h0, hc⟩
      · rw [tmod_pos x0]
        exact Int.emod_nonneg _ hn
      · rw [tmod_pos x0]
        exact Int.emod_lt_of_pos _ (by omega)
    · obtain ⟨x, i1, h1', e1, x0, x1, hc1⟩ := spec_l01Byte_eq hl hi h
      obtain ⟨y, i2, h2', e2, y0, y1, hc2⟩ := spec_l01Byte_eq hl hc1 h1'
      obtain ⟨z, i3, h3', e3, z0, z1, hc3⟩ := spec_l01Byte_eq hl hc2 h2'
      obtain ⟨v, i4, h4', e4, v0, v1, hc4⟩ := spec_l01Byte_eq hl hc3 h3'
      simp only [h0, h1, hn, e1, e2, e3, e4, ↓reduceIte, Option.bind_some]
      have ew : wrap64 ((wrap64 ((wrap64 ((wrap64 (x * 16777216)) + (wrap64 (y * 65536)))) + (wrap64 (z * 256)))) + v) = x * 16777216 + y * 65536 + z * 256 + v := by
        rw [wrap_id (x := x * 16777216) (by omega) (by omega), wrap_id (x := y * 65536) (by omega) (by omega), wrap_id (x := z * 256) (by omega) (by omega),
          wrap_id (x := x * 16777216 + y * 65536) (by omega) (by omega), wrap_id (x := x * 16777216 + y * 65536 + z * 256) (by omega) (by omega), wrap_id (by omega) (by omega)]
      refine ⟨_, _, _, rfl, ?_, fun _ => ?_, fun hh => by first | exact hh.elim | exact absurd hh h0, hc4⟩
      · rw [ew, tmod_pos (by omega)]
        exact Int.emod_nonneg _ hn
      · rw [ew, tmod_pos (by omega)]
        exact Int.emod_lt_of_pos _ (by omega)
theorem curOk_zero (l : List Int) : CurOk l 0 := ⟨by omega, by omega⟩

theorem spec_DrawPlaces_l0 {l : List Int} (hl : l.length ≤ 9223372036854775807) (d : Nat) : ∀ (j : Nat) (acc : List Int) (i h : Int), j + d = 12 → acc.length = j → (∀ x ∈ acc, 0 ≤ x ∧ x < 10000) → CurOk l i →
    ∃ r, Ev (fun k => spec_DrawPlaces.l0 k acc (j : Int) l i h) r ∧ r.length = 12 ∧ ∀ x ∈ r, 0 ≤ x ∧ x < 10000 := by
  induction d with
  | zero =>
    intro j acc i h hj ha hx hc
    refine ⟨acc, Ev.shift ?_, by omega, hx⟩
    simp only [spec_DrawPlaces.l0, show ¬ (j : Int) < 12 from by omega, ↓reduceIte]
    exact Ev.now _
  | succ d ih =>
    intro j acc i h hj ha hx hc
    obtain ⟨x, i', h', e, x0, x1, _, hc'⟩ := spec_l01Below_eq hl hc h 10000
    have h6 : wrap64 ((j : Int) + 1) = ((j + 1 : Nat) : Int) := by rw [wrap_id (by omega) (by omega)]; omega
    obtain ⟨r, hr, hrl, hrx⟩ := ih (j + 1) (acc ++ [x]) i' h' (by omega) (by simp; omega) (fun y hy => by
      rcases List.mem_append.1 hy with hy | hy
      · exact hx y hy
      · rw [List.mem_singleton.1 hy]; exact ⟨x0, x1 (by omega)⟩) hc'
    refine ⟨r, Ev.shift ?_, hrl, hrx⟩
    have hlt : acc.length < 17592186044416 := by omega
    simp only [spec_DrawPlaces.l0, show (j : Int) < 12 from by omega, e, h6, hlt, ↓reduceIte, Option.bind_some]
    exact hr
theorem spec_DrawPlaces_ev {l : List Int} (hl : l.length ≤ 9223372036854775807) : ∃ r, Ev (fun k => spec_DrawPlaces.f k l) r ∧ r.length = 12 ∧ ∀ x ∈ r, 0 ≤ x ∧ x < 10000 := by
  obtain ⟨h, hn⟩ := spec_l01New_ev l
  obtain ⟨x, i', h', e, _, _, hc⟩ := spec_l01Byte_eq hl (curOk_zero l) h
  obtain ⟨r, hr, hrl, hrx⟩ := spec_DrawPlaces_l0 hl 12 0 [] i' h' rfl rfl (fun _ hx => by simp at hx) hc
  refine ⟨r, ?_, hrl, hrx⟩
  unfold spec_DrawPlaces.f
  refine Ev.bind hn ?_
  simp only [e, Option.bind_some]
  exact hr

theorem spec_l01Text_l0 {l : List Int} (hl : l.length ≤ 9223372036854775807) (n : Nat) (hn : n ≤ 5000) (d : Nat) : ∀ (j : Nat) (acc : List Int) (i h : Int), j + d = n → acc.length = j → CurOk l i →
    ∃ s i' h', Ev (fun k => spec_l01Text.l0 k (n : Int) acc (j : Int) l i h) (s, i', h') ∧ s.size = n ∧ CurOk l i' := by
  induction d with
  | zero =>
    intro j acc i h hj ha hc
    refine ⟨strOfNums acc, i, h, Ev.shift ?_, by rw [strOfNums_size]; omega, hc⟩
    simp only [spec_l01Text.l0, show ¬ (j : Int) < (n : Int) from by omega, ↓reduceIte]
    exact Ev.now _
  | succ d ih =>
    intro j acc i h hj ha hc
    obtain ⟨x, i1, h1, e, x0, x1, hc1⟩ := spec_l01Byte_eq hl hc h
    have h6 : wrap64 ((j : Int) + 1) = ((j + 1 : Nat) : Int) := by rw [wrap_id (by omega) (by omega)]; omega
    obtain ⟨s, i', h', hr, hs, hc'⟩ := ih (j + 1) (acc ++ [x % 256]) i1 h1 (by omega) (by simp; omega) hc1
    refine ⟨s, i', h', Ev.shift ?_, hs, hc'⟩
    have hlt : acc.length < 140737488355328 := by omega
    simp only [spec_l01Text.l0, show (j : Int) < (n : Int) from by omega, e, h6, hlt, ↓reduceIte, Option.bind_some]
    exact hr
theorem spec_l01Text_ev {l : List Int} (hl : l.length ≤ 9223372036854775807) {i : Int} (hi : CurOk l i) (h : Int) {a : Int} (h0 : 0 ≤ a) (h1 : a ≤ 5000) :
    ∃ s i' h', Ev (fun k => spec_l01Text.f k l i h a) (s, i', h') ∧ (s.size : Int) = a ∧ CurOk l i' := by
  obtain ⟨n, rfl⟩ := Int.eq_ofNat_of_zero_le h0
  obtain ⟨s, i', h', hr, hs, hc⟩ := spec_l01Text_l0 hl n (by omega) n 0 [] i h (by omega) rfl hi
  refine ⟨s, i', h', ?_, by omega, hc⟩
  unfold spec_l01Text.f
  simp only [show ¬ (n : Int) > 5000 from by omega, ↓reduceIte]
  refine Ev.shift ?_
  simp only [spec_l01Text.j0]
  exact hr
theorem spec_DrawSumOf_ev {l : List Int} (hl : l.length ≤ 9223372036854775807) : ∃ s, Ev (fun k => spec_DrawSumOf.f k l) s ∧ s.size ≤ 40 := by
  obtain ⟨h, hn⟩ := spec_l01New_ev l
  obtain ⟨x, i1, h1, e1, x0, x1, _, hc1⟩ := spec_l01Below_eq hl (curOk_zero l) h 40
  have x2 := x1 (by omega)
  obtain ⟨s, i', h', hs, hz, _⟩ := spec_l01Text_ev hl hc1 h1 x0 (by omega)
  refine ⟨s, ?_, by omega⟩
  unfold spec_DrawSumOf.f
  refine Ev.bind hn ?_
  simp only [e1, Option.bind_some]
  exact Ev.bind hs (Ev.now _)

/-! ### a text of which one byte is another -/
theorem tn_bytes (t : ByteArray) (i : Nat) {v : Int} (hv : 0 ≤ v ∧ v ≤ 255) : bytesOf (turn t i v) = (bytesOf t).set i v := by
  unfold bytesOf turn
  simp only [List.map_set]
  congr 1
  rw [UInt8.toNat_ofNat']
  omega
theorem tn_size (t : ByteArray) (i : Nat) (v : Int) : (turn t i v).size = t.size := by
  have h : (turn t i v).data.toList.length = t.data.toList.length := by simp [turn]
  rw [data_length, data_length] at h
  exact h
theorem bt_list (s : ByteArray) (j : Nat) : bt s (j : Int) = (bytesOf s).getD j 0 := by
  rw [← rd_bytesOf]
  rfl
theorem tn_bt {t : ByteArray} {i : Nat} (hi : i < t.size) {v : Int} (hv : 0 ≤ v ∧ v ≤ 255) (j : Nat) : bt (turn t i v) (j : Int) = if j = i then v else bt t (j : Int) := by
  rw [bt_list, bt_list, tn_bytes t i hv, List.getD_eq_getElem?_getD, List.getD_eq_getElem?_getD, List.getElem?_set]
  by_cases h : i = j
  · subst h
    simp [bytesOf_length, hi]
  · rw [if_neg h, if_neg (fun q => h q.symm)]
theorem bytes_append (s t : ByteArray) : bytesOf (s ++ t) = bytesOf s ++ bytesOf t := by
  unfold bytesOf
  rw [ByteArray.data_append, Array.toList_append, List.map_append]
theorem bytes_extract (s : ByteArray) (a b : Nat) : bytesOf (s.extract a b) = ((bytesOf s).take b).drop a := by
  unfold bytesOf
  rw [ByteArray.data_extract, Array.toList_extract]
  simp only [List.extract_eq_take_drop, List.map_take, List.map_drop]
  generalize List.map (fun b : UInt8 => (b.toNat : Int)) s.data.toList = L
  rw [List.take_drop]
  by_cases h : a ≤ b
  · rw [Nat.add_sub_cancel' h]
  · rw [List.drop_eq_nil_of_le (by rw [List.length_take]; omega), List.drop_eq_nil_of_le (by rw [List.length_take]; omega)]
theorem bytes_inj {s t : ByteArray} (h : bytesOf s = bytesOf t) : s = t := by
  refine ba_ext ?_
  rw [ba_toList, ba_toList]
  unfold bytesOf at h
  refine (List.map_inj_right ?_).1 h
  intro a b hab
  have : a.toNat = b.toNat := by omega
  exact UInt8.toNat_inj.1 this
theorem extract_front (s t : ByteArray) : (s ++ t).extract 0 s.size = s := by
  refine bytes_inj ?_
  rw [bytes_extract, bytes_append, List.drop_zero, List.take_append_of_le_length (by rw [bytesOf_length]; exact Nat.le_refl _), ← bytesOf_length, List.take_length]
theorem extract_back (s t : ByteArray) : (s ++ t).extract s.size (s.size + t.size) = t := by
  refine bytes_inj ?_
  rw [bytes_extract, bytes_append, List.take_of_length_le (by simp [bytesOf_length]), ← bytesOf_length s, List.drop_left]
theorem bt_extract (s : ByteArray) {a b j : Nat} (h : a + j < b) : bt (s.extract a b) (j : Int) = bt s ((a + j : Nat) : Int) := by
  rw [bt_list, bt_list, bytes_extract, List.getD_eq_getElem?_getD, List.getD_eq_getElem?_getD, List.getElem?_drop, List.getElem?_take, if_pos h]
theorem bt_left {s t : ByteArray} {j : Nat} (h : j < s.size) : bt (s ++ t) (j : Int) = bt s (j : Int) := by
  rw [bt_list, bt_list, bytes_append, List.getD_eq_getElem?_getD, List.getD_eq_getElem?_getD, List.getElem?_append_left (by rw [bytesOf_length]; exact h)]
theorem bt_right {s t : ByteArray} {j : Nat} : bt (s ++ t) ((s.size + j : Nat) : Int) = bt t (j : Int) := by
  rw [bt_list, bt_list, bytes_append, List.getD_eq_getElem?_getD, List.getD_eq_getElem?_getD, List.getElem?_append_right (by rw [bytesOf_length]; omega), bytesOf_length, Nat.add_sub_cancel_left]
theorem bt_over {s : ByteArray} {j : Nat} (h : s.size ≤ j) : bt s (j : Int) = 0 := by
  rw [bt_list, List.getD_eq_getElem?_getD, List.getElem?_eq_none (by rw [bytesOf_length]; exact h)]
  rfl
theorem bt_ext {s t : ByteArray} (hz : s.size = t.size) (h : ∀ j : Nat, j < s.size → bt s (j : Int) = bt t (j : Int)) : s = t := by
  refine bytes_inj (List.ext_getElem? fun j => ?_)
  by_cases hj : j < s.size
  · have := h j hj
    rw [bt_list, bt_list, List.getD_eq_getElem?_getD, List.getD_eq_getElem?_getD, List.getElem?_eq_getElem (by rw [bytesOf_length]; exact hj), List.getElem?_eq_getElem (by rw [bytesOf_length]; omega)] at this
    rw [List.getElem?_eq_getElem (by rw [bytesOf_length]; exact hj), List.getElem?_eq_getElem (by rw [bytesOf_length]; omega)]
    exact congrArg some this
  · rw [List.getElem?_eq_none (by rw [bytesOf_length]; omega), List.getElem?_eq_none (by rw [bytesOf_length]; omega)]
theorem unsB_sealed {s : ByteArray} (h : s.size ≤ 20000) : unsB (s ++ fourS s) = (s, true) := by
  have hz : (s ++ fourS s).size = s.size + 4 := by rw [ByteArray.size_append, fourS_size]
  have e1 : (s ++ fourS s).extract 0 s.size = s := extract_front _ _
  have e2 : (s ++ fourS s).extract s.size (s.size + 4) = fourS s := by
    have := extract_back s (fourS s)
    rw [fourS_size] at this
    exact this
  unfold unsB
  rw [hz, Nat.add_sub_cancel, e1, e2, if_pos ⟨by omega, by omega, rfl⟩]
theorem fourS_inj {s t : ByteArray} (h : fourS s = fourS t) : sumT s = sumT t := by
  unfold fourS at h
  have := strOfNums_inj (four_bytes _) (four_bytes _) h
  exact four_inj (sumT_range s).1 (sumT_range s).2 (sumT_range t).1 (sumT_range t).2 this
theorem unsB_turned {s : ByteArray} {i : Nat} (hi : i < s.size + 4) {v : Int} (hv : 0 ≤ v ∧ v ≤ 255) (hne : v ≠ bt (s ++ fourS s) (i : Int)) : unsB (turn (s ++ fourS s) i v) = ((⟨#[]⟩ : ByteArray), false) := by
  have hz : (s ++ fourS s).size = s.size + 4 := by rw [ByteArray.size_append, fourS_size]
  have hT : (turn (s ++ fourS s) i v).size = s.size + 4 := by rw [tn_size, hz]
  have hb := tn_bt (t := s ++ fourS s) (i := i) (by omega) hv
  generalize turn (s ++ fourS s) i v = T at hT hb ⊢
  unfold unsB
  rw [hT, Nat.add_sub_cancel]
  refine if_neg ?_
  rintro ⟨_, _, h⟩
  have h2 := ba_ext h
  clear h
  have hs' : (T.extract 0 s.size).size = s.size := by rw [ByteArray.size_extract]; omega
  have hf : ∀ j : Nat, j < s.size → bt (T.extract 0 s.size) (j : Int) = bt T (j : Int) := fun j hj => by
    rw [bt_extract T (a := 0) (b := s.size) (j := j) (by omega), Nat.zero_add]
  have hg : ∀ j : Nat, j < 4 → bt (fourS (T.extract 0 s.size)) (j : Int) = bt T ((s.size + j : Nat) : Int) := fun j hj => by
    rw [← h2, bt_extract T (by omega)]
  by_cases hc : i < s.size
  · have h3 : fourS s = fourS (T.extract 0 s.size) := by
      refine bt_ext (by rw [fourS_size, fourS_size]) fun j hj => ?_
      rw [fourS_size] at hj
      rw [hg j hj, hb, if_neg (by omega), bt_right]
    have h4 := fourS_inj h3
    unfold sumT at h4
    rw [hs'] at h4
    have hm : bt s (i : Int) ≠ bt (T.extract 0 s.size) (i : Int) := by
      rw [hf i hc, hb, if_pos rfl]
      rw [bt_left hc] at hne
      exact fun q => hne q.symm
    refine crcS_turned hm s.size 0 (by decide) (by decide) (by omega) (by omega) (fun j hj => ?_) h4
    by_cases hjs : j < s.size
    · rw [hf j hjs, hb, if_neg hj, bt_left hjs]
    · rw [bt_over (by omega), bt_over (by omega)]
  · have h3 : T.extract 0 s.size = s := by
      refine bt_ext hs' fun j hj => ?_
      rw [hs'] at hj
      rw [hf j hj, hb, if_neg (by omega), bt_left hj]
    have h4 := hg (i - s.size) (by omega)
    rw [h3, show s.size + (i - s.size) = i from by omega, hb, if_pos rfl] at h4
    rw [show i = s.size + (i - s.size) from by omega, bt_right] at hne
    exact hne h4.symm
theorem xor_u8 (x y : Int) : Go.bits .xor .u8 x y = ((BitVec.ofInt 8 x ^^^ BitVec.ofInt 8 y).toNat : Int) := by
  unfold Go.bits
  simp only [IntKind.bits]
  have h : (BitVec.ofInt 8 x ^^^ BitVec.ofInt 8 y).toNat < 2 ^ 8 := BitVec.isLt _
  exact wraps_u8' _ (by omega) (by omega)
theorem xor_u8_ne {x c : Int} (h0 : 0 ≤ x) (h1 : x ≤ 255) (c0 : 1 ≤ c) (c1 : c ≤ 255) : Go.bits .xor .u8 x c ≠ x := by
  intro h
  rw [xor_u8] at h
  have h2 : BitVec.ofInt 8 x ^^^ BitVec.ofInt 8 c = BitVec.ofInt 8 x := by
    refine BitVec.eq_of_toNat_eq ?_
    have e8 : x % ((2 ^ 8 : Nat) : Int) = x := by
      show x % 256 = x
      omega
    rw [BitVec.toNat_ofInt, e8]
    omega
  have h3 := congrArg (BitVec.ofInt 8 x ^^^ ·) h2
  simp only [← BitVec.xor_assoc, BitVec.xor_self, BitVec.zero_xor] at h3
  have h4 := congrArg BitVec.toNat h3
  have e8 : c % ((2 ^ 8 : Nat) : Int) = c := by
    show c % 256 = c
    omega
  rw [BitVec.toNat_ofInt, BitVec.toNat_ofNat, e8] at h4
  omega
theorem sum_more (s : ByteArray) : crcS (s ++ (⟨#[120]⟩ : ByteArray)) (s ++ (⟨#[120]⟩ : ByteArray)).size 0 4294967295 = crcS (⟨#[120]⟩ : ByteArray) 1 0 (sumT s) := by
  have hz : (s ++ (⟨#[120]⟩ : ByteArray)).size = s.size + 1 := by rw [ByteArray.size_append]; rfl
  rw [hz, crcS_snoc, Nat.zero_add]
  have e : bt (s ++ (⟨#[120]⟩ : ByteArray)) (s.size : Int) = bt (⟨#[120]⟩ : ByteArray) 0 := by
    have := bt_right (s := s) (t := (⟨#[120]⟩ : ByteArray)) (j := 0)
    rw [Nat.add_zero] at this
    exact this
  rw [e, crcS_same (s := s ++ (⟨#[120]⟩ : ByteArray)) (t := s) s.size 0 4294967295 (fun j _ hj => bt_left (by omega))]
  rfl
theorem impl_Sealed_ev {s : ByteArray} (h : s.size ≤ 20000) : Ev (fun k => impl_Sealed.f k s) (s ++ fourS s, true) := by
  unfold impl_Sealed.f
  have h1 : ¬ (s.size : Int) > 20000 := by omega
  have hz : s.size + (fourS s).size ≤ 9223372036854775807 := by rw [fourS_size]; omega
  simp only [h1, ↓reduceIte]
  refine Ev.bind (impl_seal_ev s (by omega)) ?_
  simp only [hz, ↓reduceIte]
  exact Ev.now _
theorem FnTurned : laws_FnTurned.Pure := by
  intro l ⟨hl, _⟩
  by_cases hb : (l.length : Int) > 1048576
  · exact ⟨0, .inl (by unfold laws_big.f; rw [decide_eq_true hb])⟩
  obtain ⟨s, ⟨k1, e1⟩, hs⟩ := spec_DrawSumOf_ev hl
  obtain ⟨p, ⟨k2, e2⟩, hp, hx⟩ := spec_DrawPlaces_ev hl
  have hz : (s ++ fourS s).size = s.size + 4 := by rw [ByteArray.size_append, fourS_size]
  have p0 := hx _ (rd_mem (l := p) (i := 0) (by decide) (by omega))
  have p1 := hx _ (rd_mem (l := p) (i := 1) (by decide) (by omega))
  obtain ⟨k3, e3⟩ := impl_Sealed_ev (s := s) (by omega)
  obtain ⟨k4, e4⟩ := impl_Unsealed_ev (s ++ fourS s) (by omega)
  obtain ⟨k5, e5⟩ := impl_Unsealed_ev (turn (s ++ fourS s) (place (s ++ fourS s) p) (newb (s ++ fourS s) p)) (by rw [tn_size]; omega)
  obtain ⟨k6, e6⟩ := impl_SumOf_ev s (by omega)
  obtain ⟨k7, e7⟩ := impl_SumMore_ev (sumT s) (⟨#[120]⟩ : ByteArray) (by decide)
  obtain ⟨k8, e8⟩ := impl_SumOf_ev (s ++ (⟨#[120]⟩ : ByteArray)) (by rw [ByteArray.size_append]; show s.size + 1 ≤ _; omega)
  have hpl : place (s ++ fourS s) p < s.size + 4 := by
    unfold place
    rw [tmod_pos p0.1, hz]
    have a := Int.emod_lt_of_pos (rd p 0) (show (0 : Int) < ((s.size + 4 : Nat) : Int) by omega)
    have b := Int.emod_nonneg (rd p 0) (show ((s.size + 4 : Nat) : Int) ≠ 0 by omega)
    omega
  have hv : 0 ≤ newb (s ++ fourS s) p ∧ newb (s ++ fourS s) p ≤ 255 := bits_u8_range _ _ _
  have hne : newb (s ++ fourS s) p ≠ bt (s ++ fourS s) (place (s ++ fourS s) p : Int) := by
    unfold newb
    have hr := bt_range (s ++ fourS s) (place (s ++ fourS s) p : Int)
    refine xor_u8_ne hr.1 hr.2 ?_ ?_
    · rw [tmod_pos p1.1, wrap_id (by omega) (by omega)]
      omega
    · omega
  rw [unsB_sealed (by omega)] at e4
  rw [unsB_turned hpl hv hne] at e5
  rw [sum_more] at e8
  refine ⟨k1 + k2 + k3 + k4 + k5 + k6 + k7 + k8, .inr ⟨by unfold laws_big.f; rw [decide_eq_false hb], s, s ++ fourS s, p, _, _, _, e1 _ (by omega), e2 _ (by omega), hp, p0.1, p1.1, e3 _ (by omega), e4 _ (by omega), hz, by omega, e5 _ (by omega), e6 _ (by omega), e7 _ (by omega), e8 _ (by omega)⟩⟩

end Go.Proofs.Ytgglelndefbdkaa.Pure
