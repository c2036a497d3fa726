-- Written by a program of this session, for this claim.
import Derived.Test.YtdompbebeognmaaQFnBackx0
import Derived.Test.YtdompbebeognmaaQFnBackx3
import Derived.Test.YtdompbebeognmaaQFnBackx5
import Derived.Test.YtdompbebeognmaaQFnBackx6
namespace Go.Proofs.Ytdompbebeognmaa.QFnBack
open Go.RowKit Go.Proofs.YtdompbebeognmaaW.PrintWords Go.Proofs.YtdompbebeognmaaW.PrintLast Go.Proofs.YtdompbebeognmaaW.PrintMore
attribute [local go_sem] max2_int min2_int max_two min_two max_three min_three max_four min_four   -- for this text's walks alone
set_option linter.unusedVariables false
set_option linter.unusedSimpArgs false

/-! ### impl_Undone: function 43 -/
theorem idxBy92_none (p : S92 → Bool) : ∀ (l : List S92) (i : Nat), idxBy92 p l (i : Int) = -1 → ∀ x ∈ l, p x = false
  | [], _, _, x, hx => by simp at hx
  | y :: ys, i, h, x, hx => by
    simp only [idxBy92] at h
    by_cases hy : p y = true
    · rw [if_pos hy] at h
      omega
    · rw [if_neg hy] at h
      rcases List.mem_cons.1 hx with rfl | hx
      · simpa using hy
      · exact idxBy92_none p ys (i + 1) h x hx
theorem idxBy92_some (p : S92 → Bool) : ∀ (l : List S92) (i j : Nat), idxBy92 p l (i : Int) = ((i + j : Nat) : Int) → (∀ x ∈ l.take j, p x = false) ∧ ∃ h : j < l.length, p l[j] = true
  | [], i, j, h => by simp only [idxBy92] at h; omega
  | y :: ys, i, j, h => by
    simp only [idxBy92] at h
    by_cases hy : p y = true
    · rw [if_pos hy] at h
      obtain rfl : j = 0 := by omega
      exact ⟨fun x hx => by simp at hx, by simp, hy⟩
    · rw [if_neg hy] at h
      cases j with
      | zero =>
        rcases idxBy92_range p ys ((i : Int) + 1) with h2 | h2 <;> omega
      | succ j =>
        obtain ⟨h1, h2, h3⟩ := idxBy92_some p ys (i + 1) j (by rw [show i + 1 + j = i + (j + 1) from by omega]; exact h)
        refine ⟨fun x hx => ?_, by simpa using h2, by simpa using h3⟩
        rw [List.take_succ_cons] at hx
        rcases List.mem_cons.1 hx with rfl | hx
        · simpa using hy
        · exact h1 x hx
theorem run_clear2 {P : Program} (w : World) (t e : TypeId) (z : Value) (ht : P.underlying t = some (.slice e)) (hv : ∀ w, (zeroValue e).run P w = .ok z w) (hz : z.cells.size = 2) (h1 : ∀ u ∈ z.cells.toList, u.oneCell' = true) (g o n c : Nat) (hn : 0 < n)
    (cur : Array Value) (tt : TypeId) (hg : w.heap[g]? = some (.cells cur tt (0, 0))) (hfit : o + n * 2 ≤ cur.size) :
    ∃ zs : List Value, zs.length = n * 2 ∧ ∀ ty, (Builtin.clear_ #[t] ty #[.slice (some ⟨g, o, none⟩) n c]).run P w = .ok (.tuple #[]) (w.setRow g (cur.toList.take o ++ zs ++ cur.toList.drop (o + zs.length)).toArray) := by
  have hl : (Builtin.zeroCells z.cells n).toList.length = n * 2 := by
    rw [Array.length_toList]
    simp only [Builtin.zeroCells, Array.size_map, Array.size_range, hz]
  have ho : ∀ u ∈ (Builtin.zeroCells z.cells n).toList, u.oneCell' = true := by
    intro u hu
    simp only [Builtin.zeroCells, Array.toList_map, List.mem_map] at hu
    obtain ⟨q, _, rfl⟩ := hu
    have hq : q % z.cells.size < z.cells.size := Nat.mod_lt _ (by omega)
    rw [getElem!_pos z.cells _ hq]
    exact h1 _ (by simp)
  have hst := run_storeCells_at P g o tt (Builtin.zeroCells z.cells n).toList 0 cur w hg (by rw [hl]; omega) ho
  refine ⟨(Builtin.zeroCells z.cells n).toList, hl, fun ty => ?_⟩
  obtain ⟨m, rfl⟩ : ∃ m, n = m + 1 := ⟨n - 1, by omega⟩
  simp only [Nat.add_zero] at hst
  simp [Builtin.clear_, run_underlying ht, hv, hst]
theorem impl_Undone.closure (key : ByteArray) (b : Nat) (x : S92) (W : World) (hk : W.cell? ⟨b, 0, none⟩ = some (.string key)) :
    Calls Try.prog 88 #[.agg #[.string x.f0, .int .i64 x.f1], .pointer (some ⟨b, 0, none⟩)] W fun e w' => e = .returned (.bool (x.f0.toList == key.toList)) ∧ Below W.heap.size W w' := by
  have hu := Try.underlying92
  have hu2 := Try.underlying32
  have hb := World.block_lt_of_cell? W _ hk
  go_enter Try.func88, Try.ntmps88
  go_wp2
  go_ret
  exact ⟨rfl, (Below.refl _ _).alloc (Nat.le_refl _) _⟩
/-- The plain side of slices.DeleteFunc's loop. -/
theorem del_step {p : S92 → Bool} {xs dk : List S92} {i j : Nat} (hi : (dk.take i) = (xs.take j).filter (fun x => !p x)) (hd : dk.drop j = xs.drop j) (hn : dk.length = xs.length) (hij : i < j) (hj : j < xs.length) :
    (p xs[j] = true → dk.take i = (xs.take (j + 1)).filter (fun x => !p x)) ∧ (p xs[j] = false → (dk.set i xs[j]).take (i + 1) = (xs.take (j + 1)).filter (fun x => !p x)) ∧ dk.drop (j + 1) = xs.drop (j + 1) ∧ (dk.set i xs[j]).drop (j + 1) = xs.drop (j + 1) := by
  have e : xs.take (j + 1) = xs.take j ++ [xs[j]] := List.take_succ_eq_append_getElem hj
  have hd2 : dk.drop (j + 1) = xs.drop (j + 1) := by rw [← List.drop_drop, ← List.drop_drop, hd]
  refine ⟨fun h => ?_, fun h => ?_, hd2, ?_⟩
  · rw [e, List.filter_append, ← hi]
    simp [h]
  · have hil : i < (dk.set i xs[j]).length := by rw [List.length_set]; omega
    rw [List.take_succ_eq_append_getElem hil, List.getElem_set_self, List.take_set_of_le (Nat.le_refl i), e, List.filter_append, ← hi]
    simp [h]
  · rw [List.drop_set_of_lt (by omega)]
    exact hd2
theorem read92 {W : World} {base g n cap : Nat} {ok : Nat → Prop} {dk : List S92} (h : Kd.R k92 92 W base ok (.slice (some ⟨g, 0, none⟩) n cap) dk) (j : Nat) (hj : j < n) :
    W.cell? ⟨g, j * 2, none⟩ = some (.string (rd_T92 dk (j : Int)).f0) ∧ W.cell? ⟨g, j * 2 + 1, none⟩ = some (.int .i64 (rd_T92 dk (j : Int)).f1) ∧ W.frozen? ⟨g, j * 2, none⟩ = false ∧ W.frozen? ⟨g, j * 2 + 1, none⟩ = false := by
  obtain ⟨c, _, hM, hc, hf⟩ := Kd.R_elem h z92 (j : Int) (by omega) (by omega)
  obtain rfl := k92_openM hM
  exact ⟨hc 0 _ rfl, hc 1 _ rfl, hf 0, hf 1⟩
set_option maxHeartbeats 8000000 in
set_option maxRecDepth 100000 in
theorem delete92 (v : Value) (xs : List S92) (key : ByteArray) (bu : Nat) (w0 w : World) (HO : Kd.R k92 92 w w0.heap.size (fun _ => True) v xs) (HB : Below w0.heap.size w0 w) (hk : w.cell? ⟨bu, 0, none⟩ = some (.string key)) (hne : some bu ≠ v.ownBlock) (hlen : xs.length < 5864062014805) :
    Calls Try.prog 87 #[v, .func (.func 88) #[] #[.pointer (some ⟨bu, 0, none⟩)]] w fun e w' => ∃ v0_ : Value, e = .returned (v0_) ∧ Kd.R k92 92 w' w0.heap.size (fun _ => True) v0_ (xs.filter fun x => !(x.f0.toList == key.toList)) ∧ Below w0.heap.size w0 w' := by
  have hu := Try.underlying92
  obtain ⟨A, c, rfl⟩ := Kd.R_slice HO
  obtain ⟨hn, hnc, hC⟩ := Kd.R_reads' HO
  have hbu := World.block_lt_of_cell? w _ hk
  have hIF := indexFunc92_any A c xs w hC (fun x => x.f0.toList == key.toList) 88 #[.pointer (some ⟨bu, 0, none⟩)] (enters_of Try.func88 (by kernel_rfl) rfl)
    (fun W x hW => (impl_Undone.closure key bu x W ((hW.cell (p := ⟨bu, 0, none⟩) hbu).trans hk)).mono fun e w' ⟨he, hb⟩ => ⟨he, hW.trans (hb.mono hW.size)⟩)
  obtain ⟨p, HP⟩ : ∃ p : S92 → Bool, Aside0 (p = fun x => x.f0.toList == key.toList) := ⟨_, ⟨rfl⟩⟩
  rw [← HP.out] at hIF
  have hfil : (xs.filter fun x => !(x.f0.toList == key.toList)) = xs.filter (fun x => !p x) := by rw [HP.out]
  rw [hfil]
  clear hfil
  have hIFa := Aside0.mk hIF
  have HO_ := Aside0.mk HO
  have HB_ := Aside0.mk HB
  clear hIF HO HB hC
  rcases idxBy92_range p xs 0 with hm | ⟨h0, h1⟩
  · have hall := idxBy92_none p xs 0 hm
    have hfil : xs.filter (fun x => !p x) = xs := List.filter_eq_self.2 (fun x hx => by rw [hall x hx]; rfl)
    rw [hfil]
    rw [hm] at hIFa
    clear hm hall hfil hnc hn hk hne hbu hlen
    go_enter Try.func87, Try.ntmps87
    go_wp2_with (go_at_call 69; refine hIFa.out.mono ?_; rintro e w1 ⟨rfl, hb⟩; have HO1 := Aside0.mk (Kd.R_below HO_.out hb); have HB1 := Aside0.mk (HB_.out.trans (hb.mono HB_.out.size)); clear HO_ HB_ hb)
    go_ret
    exact ⟨_, rfl, HO1.out, HB1.out⟩
  · obtain ⟨k0, hk0⟩ := Int.eq_ofNat_of_zero_le h0
    obtain ⟨hlow, hkl, hhit⟩ := idxBy92_some p xs 0 k0 (by rw [Nat.zero_add]; exact hk0)
    rw [hk0] at hIFa
    obtain ⟨g, c2, e, hg, _, _⟩ := Kd.R_form HO_.out (by omega)
    injection e with eA _ ec
    subst eA; subst ec
    have hbg : bu ≠ g := fun e => hne (by rw [e]; rfl)
    have hI0 : xs.take k0 = (xs.take (k0 + 1)).filter (fun x => !p x) := by
      rw [List.take_succ_eq_append_getElem hkl, List.filter_append, List.filter_eq_self.2 (fun x hx => by rw [hlow x hx]; rfl)]
      simp [hhit]
    have HI0 := Aside0.mk hI0
    have HG := Aside0.mk hg
    have HK := Aside0.mk hk
    have HNC := Aside0.mk hnc
    have HL := Aside0.mk hlen
    have hkz : (k0 : Int) + 1 ≤ 9223372036854775807 := by omega
    have hne1 : ((k0 : Int) == -1) = false := beq_eq_false_iff_ne.2 (by omega)
    clear h0 h1 hk0 hlow hhit hI0 hg hk hnc hn hne hbu hlen
    go_enter Try.func87, Try.ntmps87
    go_wp2_with (go_at_call 69; refine hIFa.out.mono ?_; rintro e w1 ⟨rfl, hb⟩; have HO1 := Aside0.mk (Kd.R_below HO_.out hb); have HB1 := Aside0.mk (HB_.out.trans (hb.mono HB_.out.size)); have HK1 := Aside0.mk ((hb.cell (p := ⟨bu, 0, none⟩) (World.block_lt_of_cell? w _ HK.out)).trans HK.out); clear HO_ HB_ hb HK)
    go_loopg [5, 6] xs.length (fun gg s5 s6 wr => ∃ (i j : Nat) (dk : List S92), s5 = .int .i64 i ∧ s6 = .int .i64 j ∧ i < j ∧ j ≤ xs.length ∧ xs.length - j ≤ gg ∧ Aside0 (dk.length = xs.length) ∧ Aside0 (dk.take i = (xs.take j).filter (fun x => !p x)) ∧ Aside0 (dk.drop j = xs.drop j) ∧ Aside0 (Kd.R k92 92 wr w0.heap.size (fun _ => True) (.slice (some ⟨g, 0, none⟩) xs.length c) dk) ∧ Aside0 (Below w0.heap.size w0 wr) ∧ Aside0 (wr.cell? ⟨bu, 0, none⟩ = some (.string key)))
    case atStart => exact ⟨k0, k0 + 1, xs, rfl, by go_num, by omega, by omega, by omega, ⟨rfl⟩, HI0, ⟨rfl⟩, HO1, HB1, HK1⟩
    case round =>
      obtain ⟨i, j, dk, rfl, rfl, hij, hjn, hgg, HN, HT, HD, HO2, HB2, HK2⟩ := hrel
      clear HO1 HB1 HK1 HI0 hIFa
      by_cases hlt : j < xs.length
      · have hltz : (j : Int) < (xs.length : Int) := by omega
        have hjb : (j : Int) + 1 ≤ 9223372036854775807 := by have := HL.out; omega
        have hib : (i : Int) + 1 ≤ 9223372036854775807 := by omega
        have hilz : (i : Int) < (xs.length : Int) := by omega
        obtain ⟨s1, s2, s3⟩ := del_step HT.out HD.out HN.out hij hlt
        obtain ⟨hx0, hx1, _, _⟩ := read92 HO2.out j hlt
        have he : rd_T92 dk (j : Int) = xs[j] := by
          have h1 := congrArg (fun l => l.head?) HD.out
          simp only [List.head?_drop] at h1
          unfold rd_T92
          rw [Int.toNat_natCast, List.getD_eq_getElem?_getD, h1, List.getElem?_eq_getElem hlt]
          rfl
        rw [he] at hx0 hx1
        have S1 := Aside0.mk s1
        have S2 := Aside0.mk s2
        have S3 := Aside0.mk s3
        clear s1 s2 s3 he HT HD
        generalize xs[j] = x at hx0 hx1 S1 S2 S3
        have hcall : Calls Try.prog 88 #[.agg #[.string x.f0, .int .i64 x.f1], .pointer (some ⟨bu, 0, none⟩)] (wr.alloc (.cells #[.string x.f0, .int .i64 x.f1] 92)) fun e w' => e = .returned (.bool (p x)) ∧ Below (wr.alloc (.cells #[.string x.f0, .int .i64 x.f1] 92)).heap.size (wr.alloc (.cells #[.string x.f0, .int .i64 x.f1] 92)) w' := by
          rw [HP.out]
          exact impl_Undone.closure key bu x _ (Lib.cell?_alloc_some _ HK2.out)
        have hnb : Below wr.heap.size wr (wr.alloc (.cells #[.string x.f0, .int .i64 x.f1] 92)) := below_alloc (Below.refl _ _) _
        have HNB := Aside0.mk hnb
        clear hnb
        cases hq : p x with
        | true =>
          rw [hq] at hcall
          have HCALL := Aside0.mk hcall
          have T1 := Aside0.mk (S1.out hq)
          have T2 := Aside0.mk S3.out.1
          clear S1 S2 S3 hcall hq
          go_wp2_with (go_at_call 88; refine HCALL.out.mono ?_; rintro e w2 ⟨rfl, hb⟩; have HB3 := Aside0.mk (HNB.out.trans (hb.mono HNB.out.size)); clear hb)
          go_roundg (xs.length - (j + 1))
          case measure => omega
          case rel => exact ⟨i, j + 1, dk, rfl, by go_num, by omega, by omega, by omega, HN, T1, T2, ⟨Kd.R_below HO2.out HB3.out⟩, ⟨HB2.out.trans (HB3.out.mono HB2.out.size)⟩, ⟨(HB3.out.cell (p := ⟨bu, 0, none⟩) (World.block_lt_of_cell? wr _ HK2.out)).trans HK2.out⟩⟩
        | false =>
          rw [hq] at hcall
          have HCALL := Aside0.mk hcall
          have T1 := Aside0.mk (S2.out hq)
          have T2 := Aside0.mk S3.out.2
          clear S1 S2 S3 hcall hq
          go_wp2_with (go_at_call 88; refine HCALL.out.mono ?_; rintro e w2 ⟨rfl, hb⟩; have hb0 : w2.cell? ⟨wr.heap.size, 0, none⟩ = some (.string x.f0) := (hb.cell (p := ⟨wr.heap.size, 0, none⟩) (by simp)).trans (by go_simp); have hb1 : w2.cell? ⟨wr.heap.size, 1, none⟩ = some (.int .i64 x.f1) := (hb.cell (p := ⟨wr.heap.size, 1, none⟩) (by simp)).trans (by go_simp); have HB3 := Aside0.mk (HNB.out.trans (hb.mono HNB.out.size)); clear hb; have HO3 := Aside0.mk (Kd.R_below HO2.out HB3.out); obtain ⟨hy0, hy1, hz0, hz1⟩ := read92 HO3.out i (by omega); have HST := Aside0.mk (Kd.R_seg HO3.out (i : Int) (by omega) (by omega) (c := [.string (rd_T92 dk (i : Int)).f0, .int .i64 (rd_T92 dk (i : Int)).f1]) (seg := [.string x.f0, .int .i64 x.f1]) (j := 0) rfl (by intro q u hq; match q, hq with | 0, hq => (injection hq with hq; subst hq; exact hy0) | 1, hq => (injection hq with hq; subst hq; exact hy1) | q + 2, hq => (cases hq)) (Nat.le_refl 2) (x' := x) (k92_mkM w2 w0.heap.size (fun _ => False) x) (fun _ h => h.elim)).1)
          go_roundg (xs.length - (j + 1))
          case measure => omega
          case rel => exact ⟨i + 1, j + 1, dk.set i x, by go_num, by go_num, by omega, by omega, by omega, ⟨by rw [List.length_set]; exact HN.out⟩, T1, T2, HST, ⟨below_set (below_set (HB2.out.trans (HB3.out.mono HB2.out.size)) HG.out) HG.out⟩, ⟨by rw [World.cell?_setCell_other _ _ _ _ (by intro q; injection q with q _ _; exact hbg q.symm), World.cell?_setCell_other _ _ _ _ (by intro q; injection q with q _ _; exact hbg q.symm)]; exact (HB3.out.cell (p := ⟨bu, 0, none⟩) (World.block_lt_of_cell? wr _ HK2.out)).trans HK2.out⟩⟩
      · obtain rfl : j = xs.length := by omega
        have hltz : ¬ (xs.length : Int) < (xs.length : Int) := by omega
        have ht := HT.out
        rw [List.take_length] at ht
        have hil : (xs.filter (fun x => !p x)).length = i := by
          rw [← ht, List.length_take, HN.out]
          omega
        rcases own92_nil (own92 HO2.out) with ⟨e, _⟩ | ⟨g', cap', cur, e, hb', hh, h1, h2, h3, h4⟩
        · cases e
        injection e with eA eN eC
        injection eA with eA
        injection eA with eA
        subst eA; subst eC
        obtain ⟨zs, hzl, hcl⟩ := run_clear2 (P := Try.prog) wr 25 92 (.agg #[(.string ⟨#[]⟩), (.int .i64 0)]) Try.underlying25 Try.zeroValue92 rfl (by intro u hu; simp only [Value.cells, List.mem_cons, List.not_mem_nil, or_false] at hu; rcases hu with rfl | rfl <;> rfl) g (i * 2) (xs.length - i) (c - i) (by omega) cur 92 hh (by rw [h3]; omega)
        obtain ⟨cur', hc'⟩ : ∃ cur' : Array Value, cur' = (cur.toList.take (i * 2) ++ zs ++ cur.toList.drop (i * 2 + zs.length)).toArray := ⟨_, rfl⟩
        rw [← hc'] at hcl
        have hs' : cur'.size = c * 2 := by
          rw [hc']
          simp only [List.size_toArray, List.length_append, List.length_take, List.length_drop, Array.length_toList, hzl, h3]
          omega
        have hf' : cur'.toList.take (i * 2) = flat92 (xs.filter (fun x => !p x)) := by
          rw [hc']
          show List.take (i * 2) (List.take (i * 2) cur.toList ++ zs ++ _) = _
          have hl : (List.take (i * 2) cur.toList).length = i * 2 := by rw [List.length_take, Array.length_toList, h3]; omega
          rw [List.append_assoc, List.take_append_of_le_length (by rw [hl]; exact Nat.le_refl _), List.take_take, Nat.min_self, ← ht, ← flat92_take, ← h4, List.take_take, Nat.min_eq_left (by omega)]
        have hfin : Kd.R k92 92 (wr.setRow g cur') w0.heap.size (fun _ => True) (.slice (some ⟨g, 0, none⟩) i c) (xs.filter (fun x => !p x)) :=
          row92 ⟨flat92_length _, .inr ⟨g, c, cur', by rw [hil], hb', setRow_heap wr g cur cur' 92 _ hh, by rw [hil]; omega, h2, hs', by rw [hil]; exact hf'⟩⟩
        have HFIN := Aside0.mk (And.intro hfin (below_setRow HB2.out hb' cur'))
        have hic : (i : Int) ≤ (c : Int) := by omega
        have hin : (i : Int) ≤ (xs.length : Int) := by omega
        have hci : ¬ (c = i) := by omega
        clear hc' hs' hf' hfin ht hil hzl h3 h4 hh h1 h2 hb' HO2 HB2 HK2 HT HD HN eN
        go_wp2
        go_ret
        exact ⟨_, rfl, HFIN.out.1, HFIN.out.2⟩
def impl_Undone.f (k : Nat) (l0 : List (S92)) (a1_0 : ByteArray) (a1_1 : Bool) (a1_2 : Int) : Option (List (S92)) :=
  (impl_Cell_83.f l0).bind fun t0 => (impl_CellsOk.f k l0).bind fun t1 => if t1 = true then ((impl_KeyOk.f k a1_0).bind fun t2 => if t2 = true then ((impl_isNum.f a1_2).bind fun t3 => if t3 = true then (if a1_1 = true then impl_withCell.f l0 a1_0 a1_2 else some (l0.filter fun x => !(x.f0.toList == a1_0.toList))) else some t0) else some t0) else some t0
theorem impl_Undone.mono : ∀ a0 a1 a2 a3 k, LeO (impl_Undone.f k a0 a1 a2 a3) (impl_Undone.f (k + 1) a0 a1 a2 a3) := fun a0 a1 a2 a3 k =>
  LeO.bind (LeO.refl _) fun _ => LeO.bind (impl_CellsOk.mono a0 k) fun _ => LeO.ite (LeO.bind (impl_KeyOk.mono a1 k) fun _ => LeO.refl _) (LeO.refl _)
set_option maxHeartbeats 8000000 in
set_option maxRecDepth 100000 in
theorem impl_Undone.calls (k : Nat) (A0 : Option Addr) (c0 : Nat) (l0 : List (S92)) (a1_0 : ByteArray) (a1_1 : Bool) (a1_2 : Int) (r : List (S92)) (w : World) (hr0 : Kd.C k92 w A0 l0.length l0) (hc0 : l0.length ≤ c0) (h : impl_Undone.f k l0 a1_0 a1_1 a1_2 = some r) :
    Calls Try.prog 43 #[.slice A0 l0.length c0, .agg #[.string a1_0, .bool a1_1, .int .i64 a1_2]] w fun e w' => ∃ v0_ : Value, e = .returned (v0_) ∧ Kd.R k92 92 w' w.heap.size (fun _ => True) v0_ r ∧ Below w.heap.size w w' := by
  have hu32 := Try.underlying32
  have hu92 := Try.underlying92
  obtain ⟨t0, q0, h⟩ := Option.bind_eq_some_iff.mp h
  obtain ⟨t1, q1, h⟩ := Option.bind_eq_some_iff.mp h
  have hlen : t0 = l0 ∧ l0.length < 5864062014805 := by
    unfold impl_Cell_83.f at q0
    split at q0
    · exact ⟨(Option.some.inj q0).symm, by assumption⟩
    · cases q0
  obtain ⟨rfl, hlen⟩ := hlen
  have HL := Aside0.mk hlen
  have Q0 := Aside0.mk q0
  have Q1 := Aside0.mk q1
  have HR0 := Aside0.mk hr0
  have HC0 := Aside0.mk hc0
  have hbx : Below w.heap.size w (w.alloc (.cells #[.string a1_0, .bool a1_1, .int .i64 a1_2] 32)) := below_alloc (Below.refl _ _) _
  have HX := Aside0.mk hbx
  have hbk : (w.alloc (.cells #[.string a1_0, .bool a1_1, .int .i64 a1_2] 32)).heap[w.heap.size]? = some (.cells #[.string a1_0, .bool a1_1, .int .i64 a1_2] 32 (0, 0)) := heap_alloc_new w _
  have HK := Aside0.mk hbk
  clear q0 q1 hr0 hc0 hbx hbk hlen
  cases t1 with
  | false =>
    obtain rfl := Option.some.inj h
    clear h
    go_enter Try.func43, Try.ntmps43
    go_wp2_with (first
      | (go_at_call 83; (with_reducible refine (impl_Cell_83.calls A0 c0 t0 t0 _ (Kd.C_below HR0.out HX.out) HC0.out Q0.out).mono ?_); rintro e w1 ⟨v5, rfl, ho, hb⟩; have HB1 := Aside0.mk (HX.out.trans (hb.mono HX.out.size)); have HO1 := Aside0.mk (Kd.R_lower ho HX.out.size); have HK1 := Aside0.mk (blk_below HK.out hb); clear ho hb HK HX)
      | (go_at_call 20; (with_reducible refine (impl_CellsOk.calls k A0 c0 t0 false _ (Kd.C_below HR0.out HB1.out) HC0.out Q1.out).mono ?_); rintro e w2 ⟨rfl, hb⟩; have HB2 := Aside0.mk (HB1.out.trans (hb.mono HB1.out.size)); have HO2 := Aside0.mk (Kd.R_below HO1.out hb); clear HB1 HO1 HK1 hb))
    go_ret
    exact ⟨_, rfl, HO2.out, HB2.out⟩
  | true =>
    replace h : ((impl_KeyOk.f k a1_0).bind fun t2 => if t2 = true then ((impl_isNum.f a1_2).bind fun t3 => if t3 = true then (if a1_1 = true then impl_withCell.f t0 a1_0 a1_2 else some (t0.filter fun x => !(x.f0.toList == a1_0.toList))) else some t0) else some t0) = some r := h
    obtain ⟨t2, q2, h⟩ := Option.bind_eq_some_iff.mp h
    have Q2 := Aside0.mk q2
    clear q2
    cases t2 with
    | false =>
      obtain rfl := Option.some.inj h
      clear h
      go_enter Try.func43, Try.ntmps43
      go_wp2_with (first
        | (go_at_call 83; (with_reducible refine (impl_Cell_83.calls A0 c0 t0 t0 _ (Kd.C_below HR0.out HX.out) HC0.out Q0.out).mono ?_); rintro e w1 ⟨v5, rfl, ho, hb⟩; have HB1 := Aside0.mk (HX.out.trans (hb.mono HX.out.size)); have HO1 := Aside0.mk (Kd.R_lower ho HX.out.size); have HK1 := Aside0.mk (blk_below HK.out hb); clear ho hb HK HX)
        | (go_at_call 20; (with_reducible refine (impl_CellsOk.calls k A0 c0 t0 true _ (Kd.C_below HR0.out HB1.out) HC0.out Q1.out).mono ?_); rintro e w2 ⟨rfl, hb⟩; have HB2 := Aside0.mk (HB1.out.trans (hb.mono HB1.out.size)); have HO2 := Aside0.mk (Kd.R_below HO1.out hb); have HK2 := Aside0.mk (blk_below HK1.out hb); clear HB1 HO1 HK1 hb; have hx0 : w2.cell? ⟨w.heap.size, 0, none⟩ = some (.string a1_0) := (blk_cell HK2.out 0).trans rfl)
        | (go_at_call 84; (with_reducible refine (impl_KeyOk.calls k a1_0 false _ Q2.out).mono ?_); rintro e w' ⟨rfl, ⟨nd, rfl⟩⟩))
      go_ret
      exact ⟨_, rfl, Kd.R_drewN HO2.out _, pw_below_drewN HB2.out _⟩
    | true =>
      replace h : ((impl_isNum.f a1_2).bind fun t3 => if t3 = true then (if a1_1 = true then impl_withCell.f t0 a1_0 a1_2 else some (t0.filter fun x => !(x.f0.toList == a1_0.toList))) else some t0) = some r := h
      obtain ⟨t3, q3, h⟩ := Option.bind_eq_some_iff.mp h
      have Q3 := Aside0.mk q3
      clear q3
      cases t3 with
      | false =>
        obtain rfl := Option.some.inj h
        clear h
        go_enter Try.func43, Try.ntmps43
        go_wp2_with (first
          | (go_at_call 83; (with_reducible refine (impl_Cell_83.calls A0 c0 t0 t0 _ (Kd.C_below HR0.out HX.out) HC0.out Q0.out).mono ?_); rintro e w1 ⟨v5, rfl, ho, hb⟩; have HB1 := Aside0.mk (HX.out.trans (hb.mono HX.out.size)); have HO1 := Aside0.mk (Kd.R_lower ho HX.out.size); have HK1 := Aside0.mk (blk_below HK.out hb); clear ho hb HK HX)
          | (go_at_call 20; (with_reducible refine (impl_CellsOk.calls k A0 c0 t0 true _ (Kd.C_below HR0.out HB1.out) HC0.out Q1.out).mono ?_); rintro e w2 ⟨rfl, hb⟩; have HB2 := Aside0.mk (HB1.out.trans (hb.mono HB1.out.size)); have HO2 := Aside0.mk (Kd.R_below HO1.out hb); have HK2 := Aside0.mk (blk_below HK1.out hb); clear HB1 HO1 HK1 hb; have hx0 : w2.cell? ⟨w.heap.size, 0, none⟩ = some (.string a1_0) := (blk_cell HK2.out 0).trans rfl; have hx2 : w2.cell? ⟨w.heap.size, 2, none⟩ = some (.int .i64 a1_2) := (blk_cell HK2.out 2).trans rfl)
          | (go_at_call 84; (with_reducible refine (impl_KeyOk.calls k a1_0 true _ Q2.out).mono ?_); rintro e w' ⟨rfl, ⟨nd, rfl⟩⟩)
          | (go_at_call 85; (with_reducible refine (impl_isNum.calls a1_2 false _ Q3.out).mono ?_); rintro e w' ⟨rfl, ⟨nd2, rfl⟩⟩))
        go_ret
        exact ⟨_, rfl, by (with_reducible repeat (first | apply Kd.R_alloc | apply Kd.R_drewN | apply Kd.R_drew)); exact HO2.out, by repeat (first | (with_reducible first | exact HB2.out | apply below_alloc | apply pw_below_drewN | apply below_drew1) | exact HB2.out)⟩
      | true =>
        replace h : (if a1_1 = true then impl_withCell.f t0 a1_0 a1_2 else some (t0.filter fun x => !(x.f0.toList == a1_0.toList))) = some r := h
        cases a1_1 with
        | true =>
          replace h : impl_withCell.f t0 a1_0 a1_2 = some r := h
          have Q4 := Aside0.mk h
          clear h
          go_enter Try.func43, Try.ntmps43
          go_wp2_with (first
            | (go_at_call 83; (with_reducible refine (impl_Cell_83.calls A0 c0 t0 t0 _ (Kd.C_below HR0.out HX.out) HC0.out Q0.out).mono ?_); rintro e w1 ⟨v5, rfl, ho, hb⟩; have HB1 := Aside0.mk (HX.out.trans (hb.mono HX.out.size)); have HO1 := Aside0.mk (Kd.R_lower ho HX.out.size); have HK1 := Aside0.mk (blk_below HK.out hb); clear ho hb HK HX)
            | (go_at_call 20; (with_reducible refine (impl_CellsOk.calls k A0 c0 t0 true _ (Kd.C_below HR0.out HB1.out) HC0.out Q1.out).mono ?_); rintro e w2 ⟨rfl, hb⟩; have HB2 := Aside0.mk (HB1.out.trans (hb.mono HB1.out.size)); have HO2 := Aside0.mk (Kd.R_below HO1.out hb); have HK2 := Aside0.mk (blk_below HK1.out hb); clear HB1 HO1 HK1 hb; have hx0 : w2.cell? ⟨w.heap.size, 0, none⟩ = some (.string a1_0) := (blk_cell HK2.out 0).trans rfl; have hx1 : w2.cell? ⟨w.heap.size, 1, none⟩ = some (.bool true) := (blk_cell HK2.out 1).trans rfl; have hx2 : w2.cell? ⟨w.heap.size, 2, none⟩ = some (.int .i64 a1_2) := (blk_cell HK2.out 2).trans rfl)
            | (go_at_call 84; (with_reducible refine (impl_KeyOk.calls k a1_0 true _ Q2.out).mono ?_); rintro e w' ⟨rfl, ⟨nd, rfl⟩⟩)
            | (go_at_call 85; (with_reducible refine (impl_isNum.calls a1_2 true _ Q3.out).mono ?_); rintro e w' ⟨rfl, ⟨nd2, rfl⟩⟩)
            | (go_at_call 86; (with_reducible refine (impl_withCell.calls A0 c0 t0 a1_0 a1_2 r _ ?hC HC0.out Q4.out).mono ?_); (case hC => exact Kd.C_below HR0.out (by repeat (first | (with_reducible first | exact HB2.out | apply below_alloc | apply pw_below_drewN | apply below_drew1) | exact HB2.out))); rintro e w3 ⟨v6, rfl, ho, hb⟩; have HO3 := Aside0.mk (Kd.R_lower ho HB2.out.size); have HB3 := Aside0.mk (below_step (by repeat (first | (with_reducible first | exact HB2.out | apply below_alloc | apply pw_below_drewN | apply below_drew1) | exact HB2.out)) hb); clear ho hb))
          go_ret
          exact ⟨_, rfl, HO3.out, HB3.out⟩
        | false =>
          obtain rfl := Option.some.inj h
          clear h
          go_enter Try.func43, Try.ntmps43
          go_wp2_with (first
            | (go_at_call 83; (with_reducible refine (impl_Cell_83.calls A0 c0 t0 t0 _ (Kd.C_below HR0.out HX.out) HC0.out Q0.out).mono ?_); rintro e w1 ⟨v5, rfl, ho, hb⟩; have HB1 := Aside0.mk (HX.out.trans (hb.mono HX.out.size)); have HNE := Aside0.mk (Kd.R_base ho); have HO1 := Aside0.mk (Kd.R_lower ho HX.out.size); have HK1 := Aside0.mk (blk_below HK.out hb); clear ho hb HK HX)
            | (go_at_call 20; (with_reducible refine (impl_CellsOk.calls k A0 c0 t0 true _ (Kd.C_below HR0.out HB1.out) HC0.out Q1.out).mono ?_); rintro e w2 ⟨rfl, hb⟩; have HB2 := Aside0.mk (HB1.out.trans (hb.mono HB1.out.size)); have HO2 := Aside0.mk (Kd.R_below HO1.out hb); have HK2 := Aside0.mk (blk_below HK1.out hb); clear HB1 HO1 HK1 hb; have hx0 : w2.cell? ⟨w.heap.size, 0, none⟩ = some (.string a1_0) := (blk_cell HK2.out 0).trans rfl; have hx1 : w2.cell? ⟨w.heap.size, 1, none⟩ = some (.bool false) := (blk_cell HK2.out 1).trans rfl; have hx2 : w2.cell? ⟨w.heap.size, 2, none⟩ = some (.int .i64 a1_2) := (blk_cell HK2.out 2).trans rfl)
            | (go_at_call 84; (with_reducible refine (impl_KeyOk.calls k a1_0 true _ Q2.out).mono ?_); rintro e w' ⟨rfl, ⟨nd, rfl⟩⟩)
            | (go_at_call 85; (with_reducible refine (impl_isNum.calls a1_2 true _ Q3.out).mono ?_); rintro e w' ⟨rfl, ⟨nd2, rfl⟩⟩)
            | (go_at_call 87; refine (delete92 v5 t0 a1_0 w.heap.size w _ ?hO ?hB ?hX ?hN HL.out).mono ?_; (case hX => exact hx0); (case hO => (with_reducible repeat (first | apply Kd.R_alloc | apply Kd.R_drewN | apply Kd.R_drew)); exact HO2.out); (case hB => repeat (first | (with_reducible first | exact HB2.out | apply below_alloc | apply pw_below_drewN | apply below_drew1) | exact HB2.out)); (case hN => exact fun e => absurd (HNE.out _ e.symm) (by simp)); rintro e w3 ⟨v6, rfl, ho, hb⟩; have HO3 := Aside0.mk ho; have HB3 := Aside0.mk hb; clear ho hb))
          go_ret
          exact ⟨_, rfl, HO3.out, HB3.out⟩

/-! ### spec_UndoneAll: function 47 -/
def spec_UndoneAll.l0 : Nat → List (S32) → List (S92) → Int → Option ((List (S92)))
  | 0, _, _, _ => none
  | k + 1, x1, x5, x6 => if x6 ≥ 0 then (if 0 ≤ x6 then (if x6 < (x1.length : Int) then ((spec_Undone.f k x5 ((rd_T32 x1 x6).f0) ((rd_T32 x1 x6).f1) ((rd_T32 x1 x6).f2)).bind fun t168 => (spec_UndoneAll.l0 k x1 t168 (wrap64 (x6 - 1)))) else (none)) else (none)) else (some x5)
def spec_UndoneAll.f (k : Nat) (l0 : List (S92)) (l1 : List (S32)) : Option ((List (S92))) := (some (([] : List (S92)) : List (S92))).bind fun y161 => (if y161.length + l0.length < 5864062014805 then (spec_UndoneAll.l0 k l1 (y161 ++ l0) (wrap64 ((l1.length : Int) - 1))) else (none))
theorem spec_UndoneAll.mono_l : ∀ k, (∀ y0 y1 y2, LeO (spec_UndoneAll.l0 k y0 y1 y2) (spec_UndoneAll.l0 (k + 1) y0 y1 y2))
  | 0 => fun _ _ _ r h => by simp [spec_UndoneAll.l0] at h
  | k + 1 => by
    have ih0 := spec_UndoneAll.mono_l k
    · intro y0 y1 y2
      unfold spec_UndoneAll.l0
      repeat' first
      | (with_reducible exact ih0 _ _ _)
      | (with_reducible exact spec_Undone.mono _ _ _ _ _)
      | (with_reducible exact LeO.refl _)
      | (with_reducible exact LeO.none _)
      | (with_reducible refine LeO.ite ?_ ?_)
      | (with_reducible refine LeO.bind ?_ (fun _ => ?_))
      | exact ih0 _ _ _
      | exact spec_Undone.mono _ _ _ _ _
      | exact LeO.none _
      | refine LeO.ite ?_ ?_
      | refine LeO.bind ?_ (fun _ => ?_)
theorem spec_UndoneAll.mono : ∀ a0 a1 k, LeO (spec_UndoneAll.f k a0 a1) (spec_UndoneAll.f (k + 1) a0 a1) := by
  intro a0 a1 k
  have ih0 := spec_UndoneAll.mono_l k
  unfold spec_UndoneAll.f
  repeat' first
      | (with_reducible exact ih0 _ _ _)
      | (with_reducible exact spec_Undone.mono _ _ _ _ _)
      | (with_reducible exact LeO.refl _)
      | (with_reducible exact LeO.none _)
      | (with_reducible refine LeO.ite ?_ ?_)
      | (with_reducible refine LeO.bind ?_ (fun _ => ?_))
      | exact ih0 _ _ _
      | exact spec_Undone.mono _ _ _ _ _
      | exact LeO.none _
      | refine LeO.ite ?_ ?_
      | refine LeO.bind ?_ (fun _ => ?_)
set_option maxHeartbeats 8000000 in
set_option maxRecDepth 100000 in
theorem spec_UndoneAll.calls (k : Nat) (A0 : Option Addr) (c0 : Nat) (l0 : List (S92)) (A1 : Option Addr) (c1 : Nat) (l1 : List (S32)) (r : List (S92)) (w : World) (hr0 : Kd.C k92 w A0 l0.length l0) (hc0 : l0.length ≤ c0) (hr1 : Kd.C k32 w A1 l1.length l1) (hc1 : l1.length ≤ c1) (h : spec_UndoneAll.f k l0 l1 = some r) :
    Calls Try.prog 47 #[.slice A0 l0.length c0, .slice A1 l1.length c1] w fun e w' => ∃ v0_ : Value, e = .returned (v0_) ∧ Kd.R k92 92 w' w.heap.size (fun _ => True) v0_ r ∧ Below w.heap.size w w' := by
  have hu32 := Try.underlying32
  have HR0 := Aside0.mk hr0
  have HC0 := Aside0.mk hc0
  clear hr0 hc0
  have HR1 := Aside0.mk hr1
  have HC1 := Aside0.mk hc1
  clear hr1 hc1
  have HB := Aside0.mk (Below.refl w.heap.size w)
  have H : ((some (([] : List (S92)) : List (S92))).bind fun y161 => (if y161.length + l0.length < 5864062014805 then (spec_UndoneAll.l0 k l1 (y161 ++ l0) (wrap64 ((l1.length : Int) - 1))) else (none))) = some r := h
  clear h
  obtain ⟨y161, hy161⟩ : ∃ y_ : List (S92), y_ = (([] : List (S92))) := ⟨_, rfl⟩
  replace H : (if y161.length + l0.length < 5864062014805 then (spec_UndoneAll.l0 k l1 (y161 ++ l0) (wrap64 ((l1.length : Int) - 1))) else (none)) = some r := by first | (rw [hy161]; with_reducible exact H) | (have H2_ := (Option.bind_some _ _).symm.trans H; rw [hy161]; with_reducible exact H2_) | (have H2_ := (Option.bind_some _ _).symm.trans H; with_reducible exact H2_) | with_reducible exact H | (rw [hy161]; exact H) | exact H
  have Ny161 := Aside0.mk hy161
  clear hy161
  by_cases c3 : y161.length + l0.length < 5864062014805
  · rw [if_pos c3] at H
    have LMc3 := Aside0.mk c3
    clear c3
    obtain ⟨y164, hy164⟩ : ∃ y_ : List (S92), y_ = (y161 ++ l0) := ⟨_, rfl⟩
    replace H : (spec_UndoneAll.l0 k l1 y164 (wrap64 ((l1.length : Int) - 1))) = some r := by first | (rw [hy164]; with_reducible exact H) | (have H2_ := (Option.bind_some _ _).symm.trans H; rw [hy164]; with_reducible exact H2_) | (have H2_ := (Option.bind_some _ _).symm.trans H; with_reducible exact H2_) | with_reducible exact H | (rw [hy164]; exact H) | exact H
    have Ny164 := Aside0.mk hy164
    clear hy164
    have H' := Aside0.mk H
    clear H
    go_enter Try.func47, Try.ntmps47
    go_wp2_with (first | ((with_reducible refine gate_dst (N := 7) rfl ?_); refine Kd.R_lit k92 _ 92 ?hg (N := 7) ?hd (xs := ([] : List (S92))) (inner := []) (ok := fun _ => True) (okp := fun _ => True) ?hr ?hp (fun _ hk => hk) trivial (Below.refl _ _) (Nat.le_refl _) (by simp) ?_; (case hd => rfl); (case hg => rfl); (case hr => first | (go_simp; done) | (go_simp; rfl)); (case hp => exact (Reps.none _ _)); intro v162 w4 ho5 hb hg_ hnew_; clear hg_ hnew_; (first | rw [← Ny161.out] at ho5 | (simp only [Int.reduceToNat] at ho5; rw [← Ny161.out] at ho5)); have n0_ := Aside0.mk (Kd.R_lower ho5 (below_size (by repeat (first | (with_reducible first | exact HB.out | apply below_alloc | apply pw_below_drewN | apply below_drew1) | exact HB.out)))); have n1_ := Aside0.mk (below_step (by repeat (first | (with_reducible first | exact HB.out | apply below_alloc | apply pw_below_drewN | apply below_drew1) | exact HB.out)) hb); clear HB; have HO163 := n0_; have HB := n1_; clear n0_ n1_; clear hb ho5) | ((with_reducible refine gate_builtin (b := .append) (xs := #[.tmp 7, .tmp 8]) rfl ?_); at_builtin; refine Kd.R_append_rows k92 (w0 := w) w.heap.size rfl (.tmp 7) (.tmp 8) 25 92 (.agg #[(.string ⟨#[]⟩), (.int .i64 0)]) 24 rfl Try.underlying25 info92 rfl (by decide) (by omega) v162 y161 l0 _ _ _ (fun _ => True) (fun _ => False) rfl rfl ?aO ?aR (fun _ _ h => h) (fun _ h => h.elim) ?aF ?aB ?aS ?aL ?_; (case aR => repeat (first | exact (Kd.C_below HR0.out HB.out) | (with_reducible refine Kd.C_alloc ?_ _) | (with_reducible refine Kd.C_drewN ?_ _) | (with_reducible refine Kd.C_drew ?_))); (case aB => exact (by repeat (first | (with_reducible first | exact HB.out | apply below_alloc | apply pw_below_drewN | apply below_drew1) | exact HB.out))); (case aF => exact (fun _ _ => trivial)); (case aO => exact (by (with_reducible repeat (first | apply Kd.R_alloc | apply Kd.R_drewN | apply Kd.R_drew)); exact HO163.out)); (case aS => exact (below_size (by repeat (first | (with_reducible first | exact HB.out | apply below_alloc | apply pw_below_drewN | apply below_drew1) | exact HB.out)))); (case aL => have := LMc3.out; omega); intro v165 w6 ho hb hg hat; rw [← Ny164.out] at ho; have n0_ := Aside0.mk (hb); have n1_ := Aside0.mk (ho); clear HB; clear HO163; have HB := n0_; have HO166 := n1_; clear n0_ n1_; clear ho hb hg hat))
    go_loopg [5, 6] k (fun kq v5 v6 w' => ∃ (x5_1 : List (S92)) (x6_1 : Int), v6 = .int .i64 x6_1 ∧ Aside0 (spec_UndoneAll.l0 kq l1 x5_1 x6_1 = some r) ∧ Aside0 (kq ≤ k) ∧ Aside0 (Kd.R k92 92 w' w.heap.size (fun _ => True) v5 x5_1) ∧ Aside0 (Below w.heap.size w w'))
    case atStart => exact ⟨(y164), (wrap64 ((l1.length : Int) - 1)), (by first | rfl | (simp; done) | (simp [*]; done)), H', ⟨Nat.le_refl _⟩, ⟨by (with_reducible repeat (first | apply Kd.R_alloc | apply Kd.R_drewN | apply Kd.R_drew)); exact HO166.out⟩, ⟨by repeat (first | (with_reducible first | exact HB.out | apply below_alloc | apply pw_below_drewN | apply below_drew1) | exact HB.out)⟩⟩
    case round =>
      clear H'
      try clear c1
      try clear p2
      try clear c3
      try clear c4
      try clear p6
      obtain ⟨x5_1, x6_1, rfl, HA, HK1, HO_5, HB⟩ := hrel
      cases gk with
      | zero => exact absurd HA.out (by simp [spec_UndoneAll.l0])
      | succ k1 =>
        have H := HA.out
        clear HA
        simp only [spec_UndoneAll.l0] at H
        by_cases c7 : x6_1 ≥ 0
        · rw [if_pos c7] at H
          have c7b0 : decide (0 ≤ x6_1) = true := decide_eq_true c7
          clear c7
          by_cases c8 : 0 ≤ x6_1
          · rw [if_pos c8] at H
            have c8b0 : decide (0 ≤ x6_1) = true := decide_eq_true c8
            clear c8
            by_cases c9 : x6_1 < (l1.length : Int)
            · rw [if_pos c9] at H
              have c9b0 : decide (x6_1 < (l1.length : Int)) = true := decide_eq_true c9
              clear c9
              replace H := Option.bind_eq_some_iff.mp H
              obtain ⟨t168, A100, H⟩ := H
              replace H : (spec_UndoneAll.l0 k1 l1 t168 (wrap64 (x6_1 - 1))) = some r := H
              have A10 := Aside0.mk A100
              clear A100
              have H' := Aside0.mk H
              clear H
              have p167 : 0 ≤ (x6_1 : Int) := of_decide_eq_true (by first | (with_reducible assumption) | assumption)
              have q167 : x6_1 < (l1.length : Int) := of_decide_eq_true (by first | (with_reducible assumption) | assumption)
              obtain ⟨ad167, e167, hx167_0, hx167_1, hx167_2⟩ := at_T32 HR1.out x6_1 p167 q167
              cases e167
              replace hx167_0 := (HB.out.cell (World.block_lt_of_cell? w _ hx167_0)).trans hx167_0
              replace hx167_1 := (HB.out.cell (World.block_lt_of_cell? w _ hx167_1)).trans hx167_1
              replace hx167_2 := (HB.out.cell (World.block_lt_of_cell? w _ hx167_2)).trans hx167_2
              replace p167 := eq_true p167
              replace q167 := eq_true q167
              obtain ⟨Ao11, co11, eo11⟩ := Kd.R_slice HO_5.out
              subst eo11
              go_wp2_with (first | ((with_reducible refine gate_callee (f := 41) rfl ?_); refine goesL_ (some 22) rfl rfl Try.func41 (by kernel_rfl) rfl #[.slice Ao11 x5_1.length co11, .agg #[.string ((rd_T32 l1 x6_1).f0), .bool ((rd_T32 l1 x6_1).f1), .int .i64 ((rd_T32 l1 x6_1).f2)]] rfl (by (try simp only [List.map_toArray, List.map_cons, List.map_nil]); first | done | rfl | (simp only [List.length_drop, List.length_take]; rfl)) ?_; (with_reducible refine (spec_Undone.calls k1 _ _ x5_1 ((rd_T32 l1 x6_1).f0) ((rd_T32 l1 x6_1).f1) ((rd_T32 l1 x6_1).f2) t168 _ ?side1 ?side2 A10.out).mono ?_); (case side1 => repeat (first | exact (Kd.R_reads' HO_5.out).2.2 | (with_reducible refine Kd.C_alloc ?_ _) | (with_reducible refine Kd.C_drewN ?_ _) | (with_reducible refine Kd.C_drew ?_))); (case side2 => exact (Kd.R_reads' HO_5.out).2.1); rintro e w12 ⟨v169, rfl, ho0, hb⟩; refine ⟨_, rfl, ?_⟩; have n0_ := Aside0.mk (Kd.R_elder' (by (with_reducible repeat (first | apply Kd.R_alloc | apply Kd.R_drewN | apply Kd.R_drew)); exact HO_5.out) (Kd.R_base ho0) hb); have n1_ := Aside0.mk (Kd.R_lower (Kd.R_new' ho0 (Kd.R_lt (by (with_reducible repeat (first | apply Kd.R_alloc | apply Kd.R_drewN | apply Kd.R_drew)); exact HO_5.out))) (below_size (by repeat (first | (with_reducible first | exact HB.out | apply below_alloc | apply pw_below_drewN | apply below_drew1) | exact HB.out)))); have n2_ := Aside0.mk (below_step (by repeat (first | (with_reducible first | exact HB.out | apply below_alloc | apply pw_below_drewN | apply below_drew1) | exact HB.out)) hb); clear HO_5; clear HB; have HO_5 := n0_; have HO170 := n1_; have HB := n2_; clear n0_ n1_ n2_; (try clear hb); (try clear hb2); (try clear hk); (try clear hi); (try clear ho0)))
              go_roundg k1
              case measure => have := HK1.out; omega
              case rel => exact ⟨(t168), (wrap64 (x6_1 - 1)), (by first | rfl | (simp; done) | (simp [*]; done)), H', ⟨by have := HK1.out; omega⟩, ⟨by (with_reducible repeat (first | apply Kd.R_alloc | apply Kd.R_drewN | apply Kd.R_drew)); exact Kd.R_mono HO170.out (fun _ hk => trivial)⟩, ⟨by repeat (first | (with_reducible first | exact HB.out | apply below_alloc | apply pw_below_drewN | apply below_drew1) | exact HB.out)⟩⟩
            · rw [if_neg c9] at H
              exact absurd H (by simp)
          · rw [if_neg c8] at H
            exact absurd H (by simp)
        · rw [if_neg c7] at H
          have c7b0 : decide (0 ≤ x6_1) = false := decide_eq_false c7
          clear c7
          obtain rfl := Option.some.inj H
          go_wp2
          go_ret
          exact ⟨_, by first | rfl | (simp [errW_none, errW_some] <;> rfl) | (simp [*, errW_none, errW_some] <;> rfl), by (with_reducible repeat (first | apply Kd.R_alloc | apply Kd.R_drewN | apply Kd.R_drew)); exact HO_5.out, by repeat (first | (with_reducible first | exact HB.out | apply below_alloc | apply pw_below_drewN | apply below_drew1) | exact HB.out)⟩
  · rw [if_neg c3] at H
    exact absurd H (by simp)

/-! ### impl_UndoneAll: function 49 -/
def impl_UndoneAll.l0 : Nat → List (S32) → List (S92) → Int → Option ((List (S92)))
  | 0, _, _, _ => none
  | k + 1, x1, x5, x6 => if x6 ≥ 0 then (if 0 ≤ x6 then (if x6 < (x1.length : Int) then ((impl_Undone.f k x5 ((rd_T32 x1 x6).f0) ((rd_T32 x1 x6).f1) ((rd_T32 x1 x6).f2)).bind fun t175 => (impl_UndoneAll.l0 k x1 t175 (wrap64 (x6 - 1)))) else (none)) else (none)) else (some x5)
def impl_UndoneAll.f (k : Nat) (l0 : List (S92)) (l1 : List (S32)) : Option ((List (S92))) := (impl_Cell_83.f l0).bind fun t171 => (impl_UndoneAll.l0 k l1 t171 (wrap64 ((l1.length : Int) - 1)))
theorem impl_UndoneAll.mono_l : ∀ k, (∀ y0 y1 y2, LeO (impl_UndoneAll.l0 k y0 y1 y2) (impl_UndoneAll.l0 (k + 1) y0 y1 y2))
  | 0 => fun _ _ _ r h => by simp [impl_UndoneAll.l0] at h
  | k + 1 => by
    have ih0 := impl_UndoneAll.mono_l k
    · intro y0 y1 y2
      unfold impl_UndoneAll.l0
      repeat' first
      | (with_reducible exact ih0 _ _ _)
      | (with_reducible exact impl_Undone.mono _ _ _ _ _)
      | (with_reducible exact LeO.refl _)
      | (with_reducible exact LeO.none _)
      | (with_reducible refine LeO.ite ?_ ?_)
      | (with_reducible refine LeO.bind ?_ (fun _ => ?_))
      | exact ih0 _ _ _
      | exact impl_Undone.mono _ _ _ _ _
      | exact LeO.none _
      | refine LeO.ite ?_ ?_
      | refine LeO.bind ?_ (fun _ => ?_)
theorem impl_UndoneAll.mono : ∀ a0 a1 k, LeO (impl_UndoneAll.f k a0 a1) (impl_UndoneAll.f (k + 1) a0 a1) := by
  intro a0 a1 k
  have ih0 := impl_UndoneAll.mono_l k
  unfold impl_UndoneAll.f
  repeat' first
      | (with_reducible exact ih0 _ _ _)
      | (with_reducible exact impl_Undone.mono _ _ _ _ _)
      | (with_reducible exact LeO.refl _)
      | (with_reducible exact LeO.none _)
      | (with_reducible refine LeO.ite ?_ ?_)
      | (with_reducible refine LeO.bind ?_ (fun _ => ?_))
      | exact ih0 _ _ _
      | exact impl_Undone.mono _ _ _ _ _
      | exact LeO.none _
      | refine LeO.ite ?_ ?_
      | refine LeO.bind ?_ (fun _ => ?_)
set_option maxHeartbeats 8000000 in
set_option maxRecDepth 100000 in
theorem impl_UndoneAll.calls (k : Nat) (A0 : Option Addr) (c0 : Nat) (l0 : List (S92)) (A1 : Option Addr) (c1 : Nat) (l1 : List (S32)) (r : List (S92)) (w : World) (hr0 : Kd.C k92 w A0 l0.length l0) (hc0 : l0.length ≤ c0) (hr1 : Kd.C k32 w A1 l1.length l1) (hc1 : l1.length ≤ c1) (h : impl_UndoneAll.f k l0 l1 = some r) :
    Calls Try.prog 49 #[.slice A0 l0.length c0, .slice A1 l1.length c1] w fun e w' => ∃ v0_ : Value, e = .returned (v0_) ∧ Kd.R k92 92 w' w.heap.size (fun _ => True) v0_ r ∧ Below w.heap.size w w' := by
  have hu32 := Try.underlying32
  have HR0 := Aside0.mk hr0
  have HC0 := Aside0.mk hc0
  clear hr0 hc0
  have HR1 := Aside0.mk hr1
  have HC1 := Aside0.mk hc1
  clear hr1 hc1
  have HB := Aside0.mk (Below.refl w.heap.size w)
  have H : ((impl_Cell_83.f l0).bind fun t171 => (impl_UndoneAll.l0 k l1 t171 (wrap64 ((l1.length : Int) - 1)))) = some r := h
  clear h
  replace H := Option.bind_eq_some_iff.mp H
  obtain ⟨t171, A30, H⟩ := H
  replace H : (impl_UndoneAll.l0 k l1 t171 (wrap64 ((l1.length : Int) - 1))) = some r := H
  have A3 := Aside0.mk A30
  clear A30
  have H' := Aside0.mk H
  clear H
  go_enter Try.func49, Try.ntmps49
  go_wp2_with (first | ((with_reducible refine gate_callee (f := 83) rfl ?_); refine goesL_ (some 8) rfl rfl Try.func83 (by kernel_rfl) rfl #[.slice A0 l0.length c0] rfl (by (try simp only [List.map_toArray, List.map_cons, List.map_nil]); first | done | rfl | (simp only [List.length_drop, List.length_take]; rfl)) ?_; (with_reducible refine (impl_Cell_83.calls _ _ l0 t171 _ ?side1 ?side2 A3.out).mono ?_); (case side1 => repeat (first | exact HR0.out | (with_reducible refine Kd.C_alloc ?_ _) | (with_reducible refine Kd.C_drewN ?_ _) | (with_reducible refine Kd.C_drew ?_))); (case side2 => exact HC0.out); rintro e w4 ⟨v172, rfl, ho0, hb⟩; refine ⟨_, rfl, ?_⟩; have n0_ := Aside0.mk (Kd.R_lower ho0 (below_size (by repeat (first | (with_reducible first | exact HB.out | apply below_alloc | apply pw_below_drewN | apply below_drew1) | exact HB.out)))); have n1_ := Aside0.mk (below_step (by repeat (first | (with_reducible first | exact HB.out | apply below_alloc | apply pw_below_drewN | apply below_drew1) | exact HB.out)) hb); clear HB; have HO173 := n0_; have HB := n1_; clear n0_ n1_; (try clear hb); (try clear hb2); (try clear hk); (try clear hi); (try clear ho0)))
  go_loopg [5, 6] k (fun kq v5 v6 w' => ∃ (x5_1 : List (S92)) (x6_1 : Int), v6 = .int .i64 x6_1 ∧ Aside0 (impl_UndoneAll.l0 kq l1 x5_1 x6_1 = some r) ∧ Aside0 (kq ≤ k) ∧ Aside0 (Kd.R k92 92 w' w.heap.size (fun _ => True) v5 x5_1) ∧ Aside0 (Below w.heap.size w w'))
  case atStart => exact ⟨(t171), (wrap64 ((l1.length : Int) - 1)), (by first | rfl | (simp; done) | (simp [*]; done)), H', ⟨Nat.le_refl _⟩, ⟨by (with_reducible repeat (first | apply Kd.R_alloc | apply Kd.R_drewN | apply Kd.R_drew)); exact HO173.out⟩, ⟨by repeat (first | (with_reducible first | exact HB.out | apply below_alloc | apply pw_below_drewN | apply below_drew1) | exact HB.out)⟩⟩
  case round =>
    clear H'
    try clear c1
    try clear p2
    try clear c4
    obtain ⟨x5_1, x6_1, rfl, HA, HK1, HO_5, HB⟩ := hrel
    cases gk with
    | zero => exact absurd HA.out (by simp [impl_UndoneAll.l0])
    | succ k1 =>
      have H := HA.out
      clear HA
      simp only [impl_UndoneAll.l0] at H
      by_cases c5 : x6_1 ≥ 0
      · rw [if_pos c5] at H
        have c5b0 : decide (0 ≤ x6_1) = true := decide_eq_true c5
        clear c5
        by_cases c6 : 0 ≤ x6_1
        · rw [if_pos c6] at H
          have c6b0 : decide (0 ≤ x6_1) = true := decide_eq_true c6
          clear c6
          by_cases c7 : x6_1 < (l1.length : Int)
          · rw [if_pos c7] at H
            have c7b0 : decide (x6_1 < (l1.length : Int)) = true := decide_eq_true c7
            clear c7
            replace H := Option.bind_eq_some_iff.mp H
            obtain ⟨t175, A80, H⟩ := H
            replace H : (impl_UndoneAll.l0 k1 l1 t175 (wrap64 (x6_1 - 1))) = some r := H
            have A8 := Aside0.mk A80
            clear A80
            have H' := Aside0.mk H
            clear H
            have p174 : 0 ≤ (x6_1 : Int) := of_decide_eq_true (by first | (with_reducible assumption) | assumption)
            have q174 : x6_1 < (l1.length : Int) := of_decide_eq_true (by first | (with_reducible assumption) | assumption)
            obtain ⟨ad174, e174, hx174_0, hx174_1, hx174_2⟩ := at_T32 HR1.out x6_1 p174 q174
            cases e174
            replace hx174_0 := (HB.out.cell (World.block_lt_of_cell? w _ hx174_0)).trans hx174_0
            replace hx174_1 := (HB.out.cell (World.block_lt_of_cell? w _ hx174_1)).trans hx174_1
            replace hx174_2 := (HB.out.cell (World.block_lt_of_cell? w _ hx174_2)).trans hx174_2
            replace p174 := eq_true p174
            replace q174 := eq_true q174
            obtain ⟨Ao9, co9, eo9⟩ := Kd.R_slice HO_5.out
            subst eo9
            go_wp2_with (first | ((with_reducible refine gate_callee (f := 43) rfl ?_); refine goesL_ (some 21) rfl rfl Try.func43 (by kernel_rfl) rfl #[.slice Ao9 x5_1.length co9, .agg #[.string ((rd_T32 l1 x6_1).f0), .bool ((rd_T32 l1 x6_1).f1), .int .i64 ((rd_T32 l1 x6_1).f2)]] rfl (by (try simp only [List.map_toArray, List.map_cons, List.map_nil]); first | done | rfl | (simp only [List.length_drop, List.length_take]; rfl)) ?_; (with_reducible refine (impl_Undone.calls k1 _ _ x5_1 ((rd_T32 l1 x6_1).f0) ((rd_T32 l1 x6_1).f1) ((rd_T32 l1 x6_1).f2) t175 _ ?side1 ?side2 A8.out).mono ?_); (case side1 => repeat (first | exact (Kd.R_reads' HO_5.out).2.2 | (with_reducible refine Kd.C_alloc ?_ _) | (with_reducible refine Kd.C_drewN ?_ _) | (with_reducible refine Kd.C_drew ?_))); (case side2 => exact (Kd.R_reads' HO_5.out).2.1); rintro e w10 ⟨v176, rfl, ho0, hb⟩; refine ⟨_, rfl, ?_⟩; have n0_ := Aside0.mk (Kd.R_elder' (by (with_reducible repeat (first | apply Kd.R_alloc | apply Kd.R_drewN | apply Kd.R_drew)); exact HO_5.out) (Kd.R_base ho0) hb); have n1_ := Aside0.mk (Kd.R_lower (Kd.R_new' ho0 (Kd.R_lt (by (with_reducible repeat (first | apply Kd.R_alloc | apply Kd.R_drewN | apply Kd.R_drew)); exact HO_5.out))) (below_size (by repeat (first | (with_reducible first | exact HB.out | apply below_alloc | apply pw_below_drewN | apply below_drew1) | exact HB.out)))); have n2_ := Aside0.mk (below_step (by repeat (first | (with_reducible first | exact HB.out | apply below_alloc | apply pw_below_drewN | apply below_drew1) | exact HB.out)) hb); clear HO_5; clear HB; have HO_5 := n0_; have HO177 := n1_; have HB := n2_; clear n0_ n1_ n2_; (try clear hb); (try clear hb2); (try clear hk); (try clear hi); (try clear ho0)))
            go_roundg k1
            case measure => have := HK1.out; omega
            case rel => exact ⟨(t175), (wrap64 (x6_1 - 1)), (by first | rfl | (simp; done) | (simp [*]; done)), H', ⟨by have := HK1.out; omega⟩, ⟨by (with_reducible repeat (first | apply Kd.R_alloc | apply Kd.R_drewN | apply Kd.R_drew)); exact Kd.R_mono HO177.out (fun _ hk => trivial)⟩, ⟨by repeat (first | (with_reducible first | exact HB.out | apply below_alloc | apply pw_below_drewN | apply below_drew1) | exact HB.out)⟩⟩
          · rw [if_neg c7] at H
            exact absurd H (by simp)
        · rw [if_neg c6] at H
          exact absurd H (by simp)
      · rw [if_neg c5] at H
        have c5b0 : decide (0 ≤ x6_1) = false := decide_eq_false c5
        clear c5
        obtain rfl := Option.some.inj H
        go_wp2
        go_ret
        exact ⟨_, by first | rfl | (simp [errW_none, errW_some] <;> rfl) | (simp [*, errW_none, errW_some] <;> rfl), by (with_reducible repeat (first | apply Kd.R_alloc | apply Kd.R_drewN | apply Kd.R_drew)); exact HO_5.out, by repeat (first | (with_reducible first | exact HB.out | apply below_alloc | apply pw_below_drewN | apply below_drew1) | exact HB.out)⟩

/-! ### laws_big: function 52 -/
def laws_big.f (l0 : List Int) : Option (Bool) := some (decide ((l0.length : Int) > 1048576))
set_option maxHeartbeats 8000000 in
set_option maxRecDepth 100000 in
theorem laws_big.calls (A0 : Option Addr) (c0 : Nat) (l0 : List Int) (r : Bool) (w : World) (hr0 : Kd.C (Kd.int .u8) w A0 l0.length l0) (hc0 : l0.length ≤ c0) (h : laws_big.f l0 = some r) :
    Calls Try.prog 52 #[.slice A0 l0.length c0] w fun e w' => e = .returned (.bool r) ∧ Drawn0 w w' := by
  have HR0 := Aside0.mk hr0
  have HC0 := Aside0.mk hc0
  clear hr0 hc0
  have H : (some (decide ((l0.length : Int) > 1048576))) = some r := h
  clear h
  obtain rfl := Option.some.inj H
  go_enter Try.func52, Try.ntmps52
  go_wp2
  go_ret
  exact ⟨by first | rfl | (simp; done) | (simp [*]; done), by repeat (first | exact Drawn0.refl _ | apply Drawn0.step)⟩

/-! ### spec_CmdOk: function 109 -/
def spec_CmdOk.f (k : Nat) (a0_0 : Int) (a0_1 : ByteArray) (a0_2 : Int) : Option (Bool) := (spec_l01In.f a0_0 1 3).bind fun t179 => (if t179 = true then ((spec_KeyOk.f k a0_1).bind fun t180 => (if t180 = true then ((spec_l01In.f a0_2 0 1000000000).bind fun t181 => (some t181)) else (some false))) else (some false))
theorem spec_CmdOk.mono : ∀ a0 a1 a2 k, LeO (spec_CmdOk.f k a0 a1 a2) (spec_CmdOk.f (k + 1) a0 a1 a2) := by
  intro a0 a1 a2 k
  unfold spec_CmdOk.f
  repeat' first
      | (with_reducible exact spec_KeyOk.mono _ _)
      | (with_reducible exact LeO.refl _)
      | (with_reducible exact LeO.none _)
      | (with_reducible refine LeO.ite ?_ ?_)
      | (with_reducible refine LeO.bind ?_ (fun _ => ?_))
      | exact spec_KeyOk.mono _ _
      | exact LeO.none _
      | refine LeO.ite ?_ ?_
      | refine LeO.bind ?_ (fun _ => ?_)
set_option maxHeartbeats 8000000 in
set_option maxRecDepth 100000 in
theorem spec_CmdOk.calls (k : Nat) (a0_0 : Int) (a0_1 : ByteArray) (a0_2 : Int) (r : Bool) (w : World) (h : spec_CmdOk.f k a0_0 a0_1 a0_2 = some r) :
    Calls Try.prog 109 #[.agg #[.int .i64 a0_0, .string a0_1, .int .i64 a0_2]] w fun e w' => e = .returned (.bool r) ∧ Below w.heap.size w w' := by
  have hu103 := Try.underlying103
  have HB := Aside0.mk (Below.refl w.heap.size w)
  have H : ((spec_l01In.f a0_0 1 3).bind fun t179 => (if t179 = true then ((spec_KeyOk.f k a0_1).bind fun t180 => (if t180 = true then ((spec_l01In.f a0_2 0 1000000000).bind fun t181 => (some t181)) else (some false))) else (some false))) = some r := h
  clear h
  replace H := Option.bind_eq_some_iff.mp H
  obtain ⟨t179, A20, H⟩ := H
  replace H : (if t179 = true then ((spec_KeyOk.f k a0_1).bind fun t180 => (if t180 = true then ((spec_l01In.f a0_2 0 1000000000).bind fun t181 => (some t181)) else (some false))) else (some false)) = some r := H
  have A2 := Aside0.mk A20
  clear A20
  by_cases c3 : t179 = true
  · subst c3
    have H1 : ((spec_KeyOk.f k a0_1).bind fun t180 => (if t180 = true then ((spec_l01In.f a0_2 0 1000000000).bind fun t181 => (some t181)) else (some false))) = some r := by rw [if_pos rfl] at H; exact H
    clear H
    have H := H1
    clear H1
    replace H := Option.bind_eq_some_iff.mp H
    obtain ⟨t180, A40, H⟩ := H
    replace H : (if t180 = true then ((spec_l01In.f a0_2 0 1000000000).bind fun t181 => (some t181)) else (some false)) = some r := H
    have A4 := Aside0.mk A40
    clear A40
    by_cases c5 : t180 = true
    · subst c5
      have H1 : ((spec_l01In.f a0_2 0 1000000000).bind fun t181 => (some t181)) = some r := by rw [if_pos rfl] at H; exact H
      clear H
      have H := H1
      clear H1
      replace H := Option.bind_eq_some_iff.mp H
      obtain ⟨t181, A60, H⟩ := H
      replace H : (some t181) = some r := H
      have A6 := Aside0.mk A60
      clear A60
      obtain rfl := Option.some.inj H
      go_enter Try.func109, Try.ntmps109
      go_wp2_with (first | ((with_reducible refine gate_dst (N := 1) rfl ?_); refine box_event ?hg (N := 1) ?hd (cs := #[.int .i64 a0_0, .string a0_1, .int .i64 a0_2]) (t := 103) ?hr ?_; (case hd => rfl); (case hg => rfl); (case hr => first | (go_simp; done) | (go_simp; rfl)); intro gb178 hg w7 hbox hb; have n0_ := Aside0.mk (below_step (by repeat (first | (with_reducible first | exact HB.out | apply below_alloc | apply pw_below_drewN | apply below_drew1) | exact HB.out)) hb); have n1_ := Aside0.mk (hbox); have n2_ := Aside0.mk ((by rw [hg]; exact (below_size (by repeat (first | (with_reducible first | exact HB.out | apply below_alloc | apply pw_below_drewN | apply below_drew1) | exact HB.out))) : w.heap.size ≤ gb178)); have n3_ := Aside0.mk ((by rw [hg]; exact (below_size (by repeat (first | (with_reducible first | exact HB.out | apply below_alloc | apply pw_below_drewN | apply below_drew1) | exact HB.out))) : w.heap.size ≤ gb178)); clear HB; have HB := n0_; have BK178 := n1_; have GW178 := n2_; have GE178 := n3_; clear n0_ n1_ n2_ n3_; clear hb hbox hg; have hcz8_0 : w7.cell? ⟨gb178, 0, none⟩ = some (.int .i64 a0_0) := (blk_cell BK178.out 0).trans rfl; have hcz8_1 : w7.cell? ⟨gb178, 1, none⟩ = some (.string a0_1) := (blk_cell BK178.out 1).trans rfl; have hcz8_2 : w7.cell? ⟨gb178, 2, none⟩ = some (.int .i64 a0_2) := (blk_cell BK178.out 2).trans rfl; have hfz8_0 := blk_frozen BK178.out 0; have hfz8_1 := blk_frozen BK178.out 1; have hfz8_2 := blk_frozen BK178.out 2) | ((with_reducible refine gate_callee (f := 73) rfl ?_); refine goesL_ (some 5) rfl rfl Try.func73 (by kernel_rfl) rfl #[.int .i64 a0_0, .int .i64 1, .int .i64 3] rfl (by (try simp only [List.map_toArray, List.map_cons, List.map_nil]); first | done | rfl | (simp only [List.length_drop, List.length_take]; rfl)) ?_; (with_reducible refine (spec_l01In.calls a0_0 1 3 true _ A2.out).mono ?_); rintro e w' ⟨rfl, ⟨nd, rfl⟩⟩; refine ⟨_, rfl, ?_⟩) | (go_at_call 72; (with_reducible refine (spec_KeyOk.calls k a0_1 true _ A4.out).mono ?_); rintro e w' ⟨rfl, ⟨nd, rfl⟩⟩) | (go_at_call 73; (with_reducible refine (spec_l01In.calls a0_2 0 1000000000 t181 _ A6.out).mono ?_); rintro e w' ⟨rfl, ⟨nd, rfl⟩⟩))
      go_ret
      exact ⟨by first | rfl | (simp [errW_none, errW_some] <;> rfl) | (simp [*, errW_none, errW_some] <;> rfl), by repeat (first | (with_reducible first | exact HB.out | apply below_alloc | apply pw_below_drewN | apply below_drew1 | refine below_set ?_ GE178.out) | exact HB.out)⟩
    · replace c5 := Bool.eq_false_iff.mpr c5
      subst c5
      have H1 : (some false) = some r := by rw [if_neg (show ¬ (false = true) by decide)] at H; exact H
      clear H
      have H := H1
      clear H1
      obtain rfl := Option.some.inj H
      go_enter Try.func109, Try.ntmps109
      go_wp2_with (first | ((with_reducible refine gate_dst (N := 1) rfl ?_); refine box_event ?hg (N := 1) ?hd (cs := #[.int .i64 a0_0, .string a0_1, .int .i64 a0_2]) (t := 103) ?hr ?_; (case hd => rfl); (case hg => rfl); (case hr => first | (go_simp; done) | (go_simp; rfl)); intro gb178 hg w9 hbox hb; have n0_ := Aside0.mk (below_step (by repeat (first | (with_reducible first | exact HB.out | apply below_alloc | apply pw_below_drewN | apply below_drew1) | exact HB.out)) hb); have n1_ := Aside0.mk (hbox); have n2_ := Aside0.mk ((by rw [hg]; exact (below_size (by repeat (first | (with_reducible first | exact HB.out | apply below_alloc | apply pw_below_drewN | apply below_drew1) | exact HB.out))) : w.heap.size ≤ gb178)); have n3_ := Aside0.mk ((by rw [hg]; exact (below_size (by repeat (first | (with_reducible first | exact HB.out | apply below_alloc | apply pw_below_drewN | apply below_drew1) | exact HB.out))) : w.heap.size ≤ gb178)); clear HB; have HB := n0_; have BK178 := n1_; have GW178 := n2_; have GE178 := n3_; clear n0_ n1_ n2_ n3_; clear hb hbox hg; have hcz10_0 : w9.cell? ⟨gb178, 0, none⟩ = some (.int .i64 a0_0) := (blk_cell BK178.out 0).trans rfl; have hcz10_1 : w9.cell? ⟨gb178, 1, none⟩ = some (.string a0_1) := (blk_cell BK178.out 1).trans rfl; have hcz10_2 : w9.cell? ⟨gb178, 2, none⟩ = some (.int .i64 a0_2) := (blk_cell BK178.out 2).trans rfl; have hfz10_0 := blk_frozen BK178.out 0; have hfz10_1 := blk_frozen BK178.out 1; have hfz10_2 := blk_frozen BK178.out 2) | ((with_reducible refine gate_callee (f := 73) rfl ?_); refine goesL_ (some 5) rfl rfl Try.func73 (by kernel_rfl) rfl #[.int .i64 a0_0, .int .i64 1, .int .i64 3] rfl (by (try simp only [List.map_toArray, List.map_cons, List.map_nil]); first | done | rfl | (simp only [List.length_drop, List.length_take]; rfl)) ?_; (with_reducible refine (spec_l01In.calls a0_0 1 3 true _ A2.out).mono ?_); rintro e w' ⟨rfl, ⟨nd, rfl⟩⟩; refine ⟨_, rfl, ?_⟩) | (go_at_call 72; (with_reducible refine (spec_KeyOk.calls k a0_1 false _ A4.out).mono ?_); rintro e w' ⟨rfl, ⟨nd, rfl⟩⟩))
      go_ret
      exact ⟨by first | rfl | (simp [errW_none, errW_some] <;> rfl) | (simp [*, errW_none, errW_some] <;> rfl), by repeat (first | (with_reducible first | exact HB.out | apply below_alloc | apply pw_below_drewN | apply below_drew1 | refine below_set ?_ GE178.out) | exact HB.out)⟩
  · replace c3 := Bool.eq_false_iff.mpr c3
    subst c3
    have H1 : (some false) = some r := by rw [if_neg (show ¬ (false = true) by decide)] at H; exact H
    clear H
    have H := H1
    clear H1
    obtain rfl := Option.some.inj H
    go_enter Try.func109, Try.ntmps109
    go_wp2_with (first | ((with_reducible refine gate_dst (N := 1) rfl ?_); refine box_event ?hg (N := 1) ?hd (cs := #[.int .i64 a0_0, .string a0_1, .int .i64 a0_2]) (t := 103) ?hr ?_; (case hd => rfl); (case hg => rfl); (case hr => first | (go_simp; done) | (go_simp; rfl)); intro gb178 hg w11 hbox hb; have n0_ := Aside0.mk (below_step (by repeat (first | (with_reducible first | exact HB.out | apply below_alloc | apply pw_below_drewN | apply below_drew1) | exact HB.out)) hb); have n1_ := Aside0.mk (hbox); have n2_ := Aside0.mk ((by rw [hg]; exact (below_size (by repeat (first | (with_reducible first | exact HB.out | apply below_alloc | apply pw_below_drewN | apply below_drew1) | exact HB.out))) : w.heap.size ≤ gb178)); have n3_ := Aside0.mk ((by rw [hg]; exact (below_size (by repeat (first | (with_reducible first | exact HB.out | apply below_alloc | apply pw_below_drewN | apply below_drew1) | exact HB.out))) : w.heap.size ≤ gb178)); clear HB; have HB := n0_; have BK178 := n1_; have GW178 := n2_; have GE178 := n3_; clear n0_ n1_ n2_ n3_; clear hb hbox hg; have hcz12_0 : w11.cell? ⟨gb178, 0, none⟩ = some (.int .i64 a0_0) := (blk_cell BK178.out 0).trans rfl; have hcz12_1 : w11.cell? ⟨gb178, 1, none⟩ = some (.string a0_1) := (blk_cell BK178.out 1).trans rfl; have hcz12_2 : w11.cell? ⟨gb178, 2, none⟩ = some (.int .i64 a0_2) := (blk_cell BK178.out 2).trans rfl; have hfz12_0 := blk_frozen BK178.out 0; have hfz12_1 := blk_frozen BK178.out 1; have hfz12_2 := blk_frozen BK178.out 2) | ((with_reducible refine gate_callee (f := 73) rfl ?_); refine goesL_ (some 5) rfl rfl Try.func73 (by kernel_rfl) rfl #[.int .i64 a0_0, .int .i64 1, .int .i64 3] rfl (by (try simp only [List.map_toArray, List.map_cons, List.map_nil]); first | done | rfl | (simp only [List.length_drop, List.length_take]; rfl)) ?_; (with_reducible refine (spec_l01In.calls a0_0 1 3 false _ A2.out).mono ?_); rintro e w' ⟨rfl, ⟨nd, rfl⟩⟩; refine ⟨_, rfl, ?_⟩))
    go_ret
    exact ⟨by first | rfl | (simp [errW_none, errW_some] <;> rfl) | (simp [*, errW_none, errW_some] <;> rfl), by repeat (first | (with_reducible first | exact HB.out | apply below_alloc | apply pw_below_drewN | apply below_drew1 | refine below_set ?_ GE178.out) | exact HB.out)⟩

end Go.Proofs.Ytdompbebeognmaa.QFnBack
