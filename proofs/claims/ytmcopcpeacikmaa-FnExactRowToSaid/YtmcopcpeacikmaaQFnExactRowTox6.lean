/- The law FnExactRowTo of the given program is walked over the contracts of what it calls; laws.markIntS at a row that begins inside its block. Conditions: what reading tells of the arguments, and the plain answers named in the statement. -/
import Derived.Test.YtmcopcpeacikmaaQFnExactRowTox0
import Derived.Test.YtmcopcpeacikmaaQFnExactRowTox1
import Derived.Test.YtmcopcpeacikmaaQFnExactRowTox2
import Derived.Test.YtmcopcpeacikmaaQFnExactRowTox3
import Derived.Test.YtmcopcpeacikmaaQFnExactRowTox4
import Derived.Test.YtmcopcpeacikmaaQFnExactRowTox5
namespace Go.Proofs.Ytmcopcpeacikmaa.QFnExactRowTo
open Go.RowKit Go.Proofs.YtmcopcpeacikmaaW.PrintWords Go.Proofs.YtmcopcpeacikmaaW.PrintLast Go.Proofs.YtmcopcpeacikmaaW.PrintMore
attribute [local go_sem] max2_int min2_int max_two min_two max_three min_three max_four min_four   -- for this text's walks alone
set_option linter.unusedVariables false
set_option linter.unusedSimpArgs false

set_option maxHeartbeats 8000000 in
set_option maxRecDepth 100000 in
theorem laws_markIntS.callsQ (k : Nat) (P0_ : Nat → Prop) (u9000_ : Value) (l0 : List Int) (a1 : Int) (r1 : Int) (r2 : List Int) (w0 w : World) (hB : Below w0.heap.size w0 w) (ho0 : Kd.Q (Kd.int .i64) 3 w w0.heap.size P0_ u9000_ l0) (h : laws_markIntS.f k l0 a1 = some (r1, r2)) :
    Calls Try.prog 52 #[u9000_, .int .i64 a1] w fun e w' => e = .returned (.int .i64 r1) ∧ Kd.Q (Kd.int .i64) 3 w' w0.heap.size (fun k_ => (P0_ k_ ∨ w.heap.size ≤ k_)) u9000_ r2 ∧ Below w0.heap.size w0 w' ∧ Kept w w' (fun k_ => P0_ k_) := by
  have HO0 := Aside0.mk (show Kd.Q (Kd.int .i64) 3 w w0.heap.size (fun k_ => (P0_ k_ ∨ w.heap.size ≤ k_)) u9000_ l0 from Kd.Q_mono ho0 (fun k_ hk => (.inl hk)))
  have HK := Aside0.mk (Kept.refl w (fun k_ => P0_ k_))
  have HW0 := Aside0.mk hB.size
  have HB := Aside0.mk hB
  clear hB
  have H : (laws_markIntS.l0 k l0 a1 0) = some (r1, r2) := h
  clear h
  have H' := Aside0.mk H
  clear H
  go_enter Try.func52, Try.ntmps52
  go_wp2
  go_loopg [1, 5] k (fun kq v1 v5 w' => ∃ (x0_1 : List Int) (x1_1 : Int) (x5_1 : Int), v1 = .int .i64 x1_1 ∧ v5 = .int .i64 x5_1 ∧ Aside0 (laws_markIntS.l0 kq x0_1 x1_1 x5_1 = some (r1, r2)) ∧ Aside0 (kq ≤ k) ∧ Aside0 (Kd.Q (Kd.int .i64) 3 w' w0.heap.size (fun k_ => (P0_ k_ ∨ w.heap.size ≤ k_)) u9000_ x0_1) ∧ Aside0 (Kept w w' (fun k_ => P0_ k_)) ∧ Aside0 (Below w0.heap.size w0 w'))
  case atStart => exact ⟨(l0), (a1), (0), (by first | rfl | (simp; done) | (simp [*]; done)), (by first | rfl | (simp; done) | (simp [*]; done)), H', ⟨Nat.le_refl _⟩, ⟨by (with_reducible repeat (first | apply Kd.Q_alloc | apply Kd.Q_drewN | apply Kd.Q_drew)); exact HO0.out⟩, ⟨by repeat (first | (with_reducible first | exact HK.out | apply Kept.alloc | apply Kept.drewN | apply Kept.drew) | exact HK.out)⟩, ⟨by repeat (first | (with_reducible first | exact HB.out | apply below_alloc | apply pw_below_drewN | apply below_drew1) | exact HB.out)⟩⟩
  case round =>
    clear H'
    try clear p2
    obtain ⟨x0_1, x1_1, x5_1, rfl, rfl, HA, HK1, HO_0, HK, HB⟩ := hrel
    cases gk with
    | zero => exact absurd HA.out (by simp [laws_markIntS.l0])
    | succ k1 =>
      have H := HA.out
      clear HA
      simp only [laws_markIntS.l0] at H
      by_cases c3 : x5_1 < (x0_1.length : Int)
      · rw [if_pos c3] at H
        have c3b0 : decide (x5_1 < (x0_1.length : Int)) = true := decide_eq_true c3
        clear c3
        by_cases c4 : 0 ≤ x5_1
        · rw [if_pos c4] at H
          have c4b0 : decide (0 ≤ x5_1) = true := decide_eq_true c4
          clear c4
          obtain ⟨y206, hy206⟩ : ∃ y_ : List Int, y_ = (x0_1.set (x5_1 : Int).toNat x1_1) := ⟨_, rfl⟩
          replace H : (laws_markIntS.l0 k1 y206 (wrap64 (x1_1 + 1)) (wrap64 (x5_1 + 1))) = some (r1, r2) := by first | (rw [hy206]; with_reducible exact H) | (have H2_ := (Option.bind_some _ _).symm.trans H; rw [hy206]; with_reducible exact H2_) | (have H2_ := (Option.bind_some _ _).symm.trans H; with_reducible exact H2_) | with_reducible exact H | (rw [hy206]; exact H) | exact H
          have Ny206 := Aside0.mk hy206
          clear hy206
          have H' := Aside0.mk H
          clear H
          obtain ⟨Ao6, co6, eo6, _⟩ := Kd.Q_slice HO_0.out
          subst eo6
          have p5 : 0 ≤ (x5_1 : Int) := of_decide_eq_true (by first | (with_reducible assumption) | assumption)
          have q5 : (x5_1 : Int) < ((x0_1.length : Int) : Int) := of_decide_eq_true (by first | (with_reducible assumption) | assumption)
          obtain ⟨go5, oo5, co5, eo5, gb5, gl5, cl5, HG5⟩ := Kd.Q_form HO_0.out (by omega)
          (first | cases eo5 | (injection eo5 with ea_ en_ ec_; (first | subst ea_ | (injection ea_ with ea_; subst ea_)); subst ec_; clear en_))
          have GB5 := Aside0.mk gb5
          have GG5 := Aside0.mk HG5
          clear gb5 gl5 HG5
          have HMgo5 := Aside0.mk (show (P0_ go5 ∨ w.heap.size ≤ go5) from (HO_0.out.1 _ rfl))
          obtain ⟨hx5_0, hf5_0⟩ := Kd.Q_cell 0 HO_0.out (x5_1 : Int) p5 q5
          replace p5 := eq_true p5
          replace q5 := eq_true q5
          have HP7 := Kd.Q_putg HO_0.out (x5_1 : Int) (of_eq_true p5) (of_eq_true q5) x1_1
          go_wp2_with (first | ((with_reducible refine gate_store (t := 3) (p := 15) rfl ?_); refine store_event (t := 3) (p := 15) (v := ?vo_w8) (w1 := (wr.setCell ⟨go5, oo5 + (x5_1 : Int).toNat, none⟩ (.int .i64 x1_1))) ?hg ?ho ?hn ?hr ?_; (case ho => rfl); (case hg => rfl); (case hn => rfl); (case hr => first | (go_simp; done) | (go_simp; rfl)); intro w8 hw; have hg : wr.grownBy w8 (some go5) := (by rw [hw]; exact HP7.2); have hp_ : Kd.Q (Kd.int .i64) 3 w8 w0.heap.size (fun k_ => (P0_ k_ ∨ w.heap.size ≤ k_)) (.slice (some ⟨go5, oo5, none⟩) x0_1.length co6) y206 := (by rw [hw, Ny206.out]; exact HP7.1); clear HP7; have n0_ := Aside0.mk (hp_); have n1_ := Aside0.mk ((by rw [hw]; exact below_set (HB.out) GB5.out : Below w0.heap.size w0 w8)); have n2_ := Aside0.mk (Kept.of_grown (S := (fun k_ => P0_ k_)) hg (by repeat (first | (with_reducible first | exact HK.out | apply Kept.alloc | apply Kept.drewN | apply Kept.drew) | exact HK.out)) (fun k_ e_ => (HO_0.out.1 k_ e_))); clear HO_0; clear HB; clear HK; have HO_0 := n0_; have HB := n1_; have HK := n2_; clear n0_ n1_ n2_; clear hg hw hp_))
          go_roundg k1
          case measure => have := HK1.out; omega
          case rel => exact ⟨(y206), (wrap64 (x1_1 + 1)), (wrap64 (x5_1 + 1)), (by first | rfl | (simp; done) | (simp [*]; done)), (by first | rfl | (simp; done) | (simp [*]; done)), H', ⟨by have := HK1.out; omega⟩, ⟨by (with_reducible repeat (first | apply Kd.Q_alloc | apply Kd.Q_drewN | apply Kd.Q_drew)); exact HO_0.out⟩, ⟨by repeat (first | (with_reducible first | exact HK.out | apply Kept.alloc | apply Kept.drewN | apply Kept.drew) | exact HK.out)⟩, ⟨by repeat (first | (with_reducible first | exact HB.out | apply below_alloc | apply pw_below_drewN | apply below_drew1) | exact HB.out)⟩⟩
        · rw [if_neg c4] at H
          exact absurd H (by simp)
      · rw [if_neg c3] at H
        have c3b0 : decide (x5_1 < (x0_1.length : Int)) = false := decide_eq_false c3
        clear c3
        simp only [Option.some.injEq, Prod.mk.injEq] at H
        obtain ⟨rfl, rfl⟩ := H
        obtain ⟨Ao9, co9, eo9, _⟩ := Kd.Q_slice HO_0.out
        subst eo9
        go_wp2
        go_ret
        exact ⟨by first | rfl | (simp [errW_none, errW_some] <;> rfl) | (simp [*, errW_none, errW_some] <;> rfl), by (with_reducible repeat (first | apply Kd.Q_alloc | apply Kd.Q_drewN | apply Kd.Q_drew)); exact HO_0.out, by repeat (first | (with_reducible first | exact HB.out | apply below_alloc | apply pw_below_drewN | apply below_drew1) | exact HB.out), by repeat (first | (with_reducible first | exact HK.out | apply Kept.alloc | apply Kept.drewN | apply Kept.drew) | exact HK.out)⟩

/-- What the law comes to: too much, or answers that agree. -/
def laws_FnExactRowTo.Told (k : Nat) (l0 : List S58) (a1 : Int) : Prop :=
  ∃ t, laws_szBlockS.f k l0 1048576 = some t ∧ (t < 0 ∨ ¬ t < 0 ∧ ∃ (tr tr2 : List S63) (r r2 : List Int) (b m : Int), (laws_toBlockS.f k l0 = some tr ∧ spec_RowTo.f k tr a1 = some r ∧ impl_RowTo.f k tr a1 = some r ∧ laws_eqIntS.f k r r = some true ∧ laws_eqBlockS.f k tr tr = some true ∧ laws_markBlockS.f k tr 1 = some (b, tr2) ∧ 0 ≤ b ∧ laws_markIntS.f k r 1 = some (m, r2) ∧ 0 ≤ m ∧ laws_heldIntS.f k r2 1 = some m))
set_option maxHeartbeats 8000000 in
set_option maxRecDepth 100000 in
theorem laws_FnExactRowTo.told (k : Nat) (A0 : Option Addr) (c0 : Nat) (l0 : List S58) (a1 : Int) (w : World) (hr0 : Kd.C k58 w A0 l0.length l0) (hc0 : l0.length ≤ c0) (h : laws_FnExactRowTo.Told k l0 a1) :
    Calls Try.prog 12 #[.slice A0 l0.length c0, .int .i64 a1] w fun e w' => e = .returned (.bool true) ∧ Below w.heap.size w w' := by
  obtain ⟨t, hsz, h⟩ := h
  have HR0 := Aside0.mk hr0
  have HC0 := Aside0.mk hc0
  have HSZ := Aside0.mk hsz
  clear hr0 hc0 hsz
  have ST0 := True.intro
  rcases h with h | ⟨h, tr, tr2, r, r2, b, m, h1, h2, h3, h4, h5, h6, h7, h8, h9, h10⟩
  · have hd : decide (t < 0) = true := decide_eq_true h
    go_enter Try.func12, Try.ntmps12
    go_wp2_with (first | (clear ST0; go_at_call 21; refine (laws_szBlockS.calls k A0 c0 l0 1048576 t _ HR0.out HC0.out HSZ.out).mono ?_; rintro e w1 ⟨rfl, hb⟩; have HBs1 := Aside0.mk hb; have HR1 := Aside0.mk (Kd.C_below HR0.out hb); clear hb; have ST1 := True.intro))
    go_ret
    exact ⟨rfl, HBs1.out⟩
  · have hd : decide (t < 0) = false := decide_eq_false h
    have hd2 : decide (b < 0) = false := decide_eq_false (by omega)
    have hd3 : decide (m < 0) = false := decide_eq_false (by omega)
    have hd4 : (m != m) = false := bne_self_eq_false m
    have HTO := Aside0.mk h1
    have HSP := Aside0.mk h2
    have HIM := Aside0.mk h3
    have HEI := Aside0.mk h4
    have HEB := Aside0.mk h5
    have HMB := Aside0.mk h6
    have HMI := Aside0.mk h8
    have HHI := Aside0.mk h10
    clear h h1 h2 h3 h4 h5 h6 h7 h8 h9 h10
    go_enter Try.func12, Try.ntmps12
    go_wp2_with (first | (clear ST0; go_at_call 21; refine (laws_szBlockS.calls k A0 c0 l0 1048576 t _ HR0.out HC0.out HSZ.out).mono ?_; rintro e w1 ⟨rfl, hb⟩; have HBs1 := Aside0.mk hb; have HR1 := Aside0.mk (Kd.C_below HR0.out hb); clear hb; have ST1 := True.intro) | (clear ST1; go_at_call 23; refine (laws_toBlockS.calls k A0 c0 l0 tr _ HR1.out HC0.out HTO.out).mono ?_; rintro e w2 ⟨v2, rfl, ho, hb⟩; obtain ⟨A2, c2, e2, hl, hC⟩ := Kd.S_reads ho; subst e2; have HL2 := Aside0.mk hl; have HC2 := Aside0.mk hC; have HBs2 : Aside0 (Below w.heap.size w w2) := ⟨HBs1.out.trans (hb.mono HBs1.out.size)⟩; clear ho hl hC hb; have ST2 := True.intro) | (clear ST2; go_at_call 48; refine (spec_RowTo.calls k A2 c2 tr a1 r _ HC2.out HL2.out HSP.out).mono ?_; rintro e w3 ⟨v3, rfl, ho, hb⟩; obtain ⟨A3, c3, e3, hl, hC⟩ := Kd.R_reads ho; subst e3; have HL3 := Aside0.mk hl; have HC3 := Aside0.mk hC; have HBs3 : Aside0 (Below w.heap.size w w3) := ⟨HBs2.out.trans (hb.mono HBs2.out.size)⟩; have HR3 := Aside0.mk (Kd.C_below HR0.out HBs3.out); clear ho hl hC hb; have ST3 := True.intro) | (clear ST3; go_at_call 23; refine (laws_toBlockS.calls k A0 c0 l0 tr _ HR3.out HC0.out HTO.out).mono ?_; rintro e w4 ⟨v4, rfl, ho, hb⟩; obtain ⟨A4, c4, e4, hl, hC⟩ := Kd.S_reads ho; subst e4; have HL4 := Aside0.mk hl; have HC4 := Aside0.mk hC; have HB4 := Aside0.mk hb; have HS4 : Aside0 (Kd.S k63 63 w4 w3.heap.size (fun k_ => w3.heap.size ≤ k_ ∧ k_ < w4.heap.size) (.slice A4 tr.length c4) tr) := ⟨Kd.S_mono (Kd.S_bound ho) (fun _ h => ⟨h.2.1, h.2.2.1⟩)⟩; clear ho hl hC hb; have ST4 := True.intro) | (clear ST4; go_at_call 49; refine (impl_RowTo.calls k A4 c4 tr a1 r _ HC4.out HL4.out HIM.out).mono ?_; rintro e w5 ⟨v5, rfl, ho, hb⟩; obtain ⟨A5, c5, e5, hl, hC⟩ := Kd.Q_reads ho; subst e5; have HL5 := Aside0.mk hl; have HC5 := Aside0.mk hC; have HB5 : Aside0 (Below w3.heap.size w3 w5) := ⟨HB4.out.trans (hb.mono HB4.out.size)⟩; have HQ5 : Aside0 (Kd.Q (Kd.int .i64) 3 w5 w3.heap.size (fun k_ => w4.heap.size ≤ k_ ∧ k_ < w5.heap.size) (.slice A5 r.length c5) r) := ⟨Kd.Q_lower (Kd.Q_mono (Kd.Q_bound ho) (fun _ h => ⟨h.2.1, h.2.2.1⟩)) HB4.out.size⟩; have HS5 := Aside0.mk (Kd.S_below HS4.out hb); clear ho hl hC hb; have ST5 := True.intro) | (clear ST5; go_at_call 50; refine (laws_eqIntS.calls k A5 c5 r A3 c3 r true _ HC5.out HL5.out (Kd.C_below HC3.out HB5.out) HL3.out HEI.out).mono ?_; rintro e w6 ⟨rfl, hd⟩; have hb := hd.below; have HB6 : Aside0 (Below w3.heap.size w3 w6) := ⟨HB5.out.trans (hb.mono HB5.out.size)⟩; have HQ6 := Aside0.mk (Kd.Q_below HQ5.out hb); have HS6 := Aside0.mk (Kd.S_below HS5.out hb); have HR6 := Aside0.mk (Kd.C_below HR3.out HB6.out); clear hb hd; have ST6 := True.intro) | (clear ST6; go_at_call 23; refine (laws_toBlockS.calls k A0 c0 l0 tr _ HR6.out HC0.out HTO.out).mono ?_; rintro e w7 ⟨v7, rfl, ho, hb⟩; obtain ⟨A7, c7, e7, hl, hC⟩ := Kd.S_reads ho; subst e7; have HL7 := Aside0.mk hl; have HC7 := Aside0.mk hC; have HB7 : Aside0 (Below w3.heap.size w3 w7) := ⟨HB6.out.trans (hb.mono HB6.out.size)⟩; have HQ7 := Aside0.mk (Kd.Q_below HQ6.out hb); have HS7 := Aside0.mk (Kd.S_below HS6.out hb); clear ho hl hC hb; have ST7 := True.intro) | (clear ST7; go_at_call 26; refine (laws_eqBlockS.calls k A4 c4 tr A7 c7 tr true _ (Kd.S_reads' HS7.out).2.2 HL4.out HC7.out HL7.out HEB.out).mono ?_; rintro e w8 ⟨rfl, hb⟩; have HB8 : Aside0 (Below w3.heap.size w3 w8) := ⟨HB7.out.trans (hb.mono HB7.out.size)⟩; have HQ8 := Aside0.mk (Kd.Q_below HQ7.out hb); have HS8 := Aside0.mk (Kd.S_below HS7.out hb); clear hb; have ST8 := True.intro) | (clear ST8; go_at_call 51; refine (laws_markBlockS.calls k (fun k_ => w3.heap.size ≤ k_ ∧ k_ < w4.heap.size) (.slice A4 tr.length c4) tr 1 b tr2 w3 _ HB8.out HS8.out HMB.out).mono ?_; rintro e w9 ⟨rfl, hS, hb, hk⟩; have HB9 := Aside0.mk hb; have HQ9 := Aside0.mk (Kd.Q_kept HQ8.out hk (fun k_ h h2 => Nat.not_lt.2 h.1 h2.2)); clear hS hb hk; have ST9 := True.intro) | (clear ST9; go_at_call 50; refine (laws_eqIntS.calls k A5 c5 r A3 c3 r true _ (Kd.Q_reads' HQ9.out).2.2 HL5.out (Kd.C_below HC3.out HB9.out) HL3.out HEI.out).mono ?_; rintro e w10 ⟨rfl, hd⟩; have hb := hd.below; have HB10 : Aside0 (Below w3.heap.size w3 w10) := ⟨HB9.out.trans (hb.mono HB9.out.size)⟩; have HQ10 := Aside0.mk (Kd.Q_below HQ9.out hb); clear hb; have ST10 := True.intro) | (clear ST10; go_at_call 52; refine (laws_markIntS.callsQ k (fun k_ => w4.heap.size ≤ k_ ∧ k_ < w5.heap.size) (.slice A5 r.length c5) r 1 m r2 w3 _ HB10.out HQ10.out HMI.out).mono ?_; rintro e w11 ⟨rfl, hQ, hb, hk⟩; have HB11 := Aside0.mk hb; have HC11 := Aside0.mk (Kd.Q_reads' hQ).2.2; have HE11 : Aside0 (r.length = r2.length) := ⟨(Kd.Q_reads' hQ).1⟩; have HL11 : Aside0 (r2.length ≤ c5) := ⟨by rw [← HE11.out]; exact HL5.out⟩; clear hb hQ hk; have ST11 := True.intro) | (clear ST11; go_at_call 53; have HH_ := laws_heldIntS.calls k A5 c5 r2 1 m w11 HC11.out HL11.out HHI.out; rw [← HE11.out] at HH_; refine HH_.mono ?_; clear HH_; rintro e w12 ⟨rfl, hd⟩; have hb := hd.below; have HB12 : Aside0 (Below w3.heap.size w3 w12) := ⟨HB11.out.trans (hb.mono HB11.out.size)⟩; have HC12 := Aside0.mk (Kd.C_below HC11.out hb); have HR12 := Aside0.mk (Kd.C_below HR3.out HB12.out); clear hb hd; have ST12 := True.intro) | (clear ST12; go_at_call 23; refine (laws_toBlockS.calls k A0 c0 l0 tr _ HR12.out HC0.out HTO.out).mono ?_; rintro e w13 ⟨v13, rfl, ho, hb⟩; obtain ⟨A13, c13, e13, hl, hC⟩ := Kd.S_reads ho; subst e13; have HL13 := Aside0.mk hl; have HCT13 := Aside0.mk hC; have HB13 : Aside0 (Below w3.heap.size w3 w13) := ⟨HB12.out.trans (hb.mono HB12.out.size)⟩; have HC13 := Aside0.mk (Kd.C_below HC12.out hb); clear ho hl hC hb; have ST13 := True.intro) | (clear ST13; go_at_call 49; refine (impl_RowTo.calls k A13 c13 tr a1 r _ HCT13.out HL13.out HIM.out).mono ?_; rintro e w14 ⟨v14, rfl, ho, hb⟩; obtain ⟨A14, c14, e14, hl, hC⟩ := Kd.Q_reads ho; subst e14; have HL14 := Aside0.mk hl; have HCQ14 := Aside0.mk hC; have HB14 : Aside0 (Below w3.heap.size w3 w14) := ⟨HB13.out.trans (hb.mono HB13.out.size)⟩; have HC14 := Aside0.mk (Kd.C_below HC13.out hb); clear ho hl hC hb; have ST14 := True.intro) | (clear ST14; go_at_call 50; refine (laws_eqIntS.calls k A14 c14 r A3 c3 r true _ HCQ14.out HL14.out (Kd.C_below HC3.out HB14.out) HL3.out HEI.out).mono ?_; rintro e w15 ⟨rfl, hd⟩; have hb := hd.below; have HB15 : Aside0 (Below w3.heap.size w3 w15) := ⟨HB14.out.trans (hb.mono HB14.out.size)⟩; have HC15 := Aside0.mk (Kd.C_below HC14.out hb); clear hb hd; have ST15 := True.intro) | (clear ST15; go_at_call 53; have HH_ := laws_heldIntS.calls k A5 c5 r2 1 m w15 HC15.out HL11.out HHI.out; rw [← HE11.out] at HH_; refine HH_.mono ?_; clear HH_; rintro e w16 ⟨rfl, hd⟩; have hb := hd.below; have HB16 : Aside0 (Below w3.heap.size w3 w16) := ⟨HB15.out.trans (hb.mono HB15.out.size)⟩; clear hb hd; have ST16 := True.intro))
    go_ret
    exact ⟨rfl, HBs3.out.trans (HB16.out.mono HBs3.out.size)⟩
end Go.Proofs.Ytmcopcpeacikmaa.QFnExactRowTo
