-- Written by a program of this session, for this claim.
import Derived.Test.YtmcopcpeacikmaaQFnExactBlockOkx0
import Derived.Test.YtmcopcpeacikmaaQFnExactBlockOkx4
namespace Go.Proofs.Ytmcopcpeacikmaa.QFnExactBlockOk
open Go.RowKit Go.Proofs.YtmcopcpeacikmaaW.PrintWords Go.Proofs.YtmcopcpeacikmaaW.PrintLast Go.Proofs.YtmcopcpeacikmaaW.PrintMore
attribute [local go_sem] max2_int min2_int max_two min_two max_three min_three max_four min_four   -- for this text's walks alone
set_option linter.unusedVariables false
set_option linter.unusedSimpArgs false

/-! ### impl_Cmd_79: function 79 -/

/-- The first place from which on p holds; -1 where there is none; nothing where p tells nothing. -/
def idxO95 (p : S95 → Option Bool) : List S95 → Int → Option Int
  | [], _ => some (-1)
  | x :: xs, i => (p x).bind fun t => if t = true then some i else idxO95 p xs (i + 1)
theorem idxO95_mono {p q : S95 → Option Bool} (h : ∀ x, LeO (p x) (q x)) : ∀ (l : List S95) (i : Int), LeO (idxO95 p l i) (idxO95 q l i)
  | [], _ => LeO.refl _
  | x :: xs, i => LeO.bind (h x) fun _ => LeO.ite (LeO.refl _) (idxO95_mono h xs (i + 1))
set_option maxHeartbeats 2000000 in
theorem indexFunc95_opt (A0 : Option Addr) (c0 : Nat) (l0 : List S95) (w : World) (hr0 : Kd.C k95 w A0 l0.length l0) (p : S95 → Option Bool) (g : Nat) (lb : Array Value) (r : Int) (hres : idxO95 p l0 0 = some r)
    (eg : ∀ args w, (callFunc g args).run Try.prog w = .ok (.enter g args) w)
    (hp : ∀ (W : World) (x : S95) (b : Bool), Below w.heap.size w W → p x = some b → Calls Try.prog g (#[.agg #[.int .i64 x.f0, .string x.f1, .int .i64 x.f2]] ++ lb) W fun e w' => e = .returned (.bool b) ∧ Below w.heap.size w w') :
    Calls Try.prog 105 #[.slice A0 l0.length c0, .func (.func g) #[] lb] w fun e w' => e = .returned (.int .i64 r) ∧ Below w.heap.size w w' := by
  have hu := Try.underlying95
  have hlen : l0.length ≤ 9223372036854775807 := hr0.2.1
  have HR := Aside0.mk hr0
  have HRES := Aside0.mk hres
  clear hr0 hres
  go_enter Try.func105, Try.ntmps105
  go_wp2
  go_loopg [5, 8] l0.length (fun gg _ s8 wr => ∃ kk : Nat, kk ≤ l0.length ∧ l0.length - kk ≤ gg ∧ s8 = .int .i64 kk ∧ Aside0 (Below w.heap.size w wr) ∧ Aside0 (idxO95 p (l0.drop kk) kk = some r))
  case atStart => exact ⟨0, Nat.zero_le _, by omega, rfl, ⟨Below.refl _ w⟩, HRES⟩
  case round =>
    obtain ⟨kk, hkk, hg, rfl, BW, A⟩ := hrel
    by_cases hlt : kk < l0.length
    · have hltz : (kk : Int) < (l0.length : Int) := by omega
      have hx : rd_T95 l0 (kk : Int) = l0[kk] := by unfold rd_T95; rw [Int.toNat_natCast, List.getD_eq_getElem?_getD, List.getElem?_eq_getElem hlt]; rfl
      obtain ⟨ad, e, hx0, hx1, hx2⟩ := at_T95 HR.out (kk : Int) (by omega) hltz
      subst e
      rw [hx] at hx0 hx1 hx2
      replace hx0 := pw_cell_below BW.out hx0
      replace hx1 := pw_cell_below BW.out hx1
      replace hx2 := pw_cell_below BW.out hx2
      rw [Int.toNat_natCast] at hx0 hx1 hx2
      have hcall := fun b => hp wr l0[kk] b BW.out
      have hd : l0.drop kk = l0[kk] :: l0.drop (kk + 1) := List.drop_eq_getElem_cons hlt
      have HD := A.out
      rw [hd] at HD
      clear hd hp hx A HRES
      generalize hy : l0[kk] = y at hx0 hx1 hx2 hcall HD
      clear hy
      cases hq : p y with
      | none => rw [idxO95, hq] at HD; cases HD
      | some b =>
        have HCALL := Aside0.mk (hcall b hq)
        rw [idxO95, hq, Option.bind_some] at HD
        clear hq hcall
        cases b with
        | true =>
          rw [if_pos rfl] at HD
          obtain rfl := Option.some.inj HD
          go_wp2_with fail
          refine HCALL.out.mono ?_
          rintro e w' ⟨rfl, hb'⟩
          go_wp2
          go_ret
          exact ⟨rfl, hb'⟩
        | false =>
          rw [if_neg Bool.false_ne_true] at HD
          have HD := Aside0.mk HD
          go_wp2_with fail
          refine HCALL.out.mono ?_
          rintro e w' ⟨rfl, hb'⟩
          go_wp2
          go_roundg (l0.length - (kk + 1))
          case measure => omega
          case rel => exact ⟨kk + 1, by omega, by omega, by go_num, ⟨hb'⟩, HD⟩
    · have hltz : ¬ (kk : Int) < (l0.length : Int) := by omega
      have : kk = l0.length := by omega
      subst this
      have HD := A.out
      rw [List.drop_length, idxO95] at HD
      obtain rfl := Option.some.inj HD
      go_wp2
      go_ret
      exact ⟨rfl, BW.out⟩

def impl_Cmd_79.p (k : Nat) (x : S95) : Option Bool := (impl_CmdOk.f k x.f0 x.f1 x.f2).bind fun t => some (!t)
theorem impl_Cmd_79.closure (k : Nat) (x : S95) (b : Bool) (W : World) (h : impl_Cmd_79.p k x = some b) :
    Calls Try.prog 80 #[.agg #[.int .i64 x.f0, .string x.f1, .int .i64 x.f2]] W fun e w' => e = .returned (.bool b) ∧ Below W.heap.size W w' := by
  obtain ⟨t, ht, h⟩ := Option.bind_eq_some_iff.mp h
  obtain rfl := Option.some.inj h
  have HT := Aside0.mk ht
  clear ht h
  go_enter Try.func80, Try.ntmps80
  go_wp2_with (go_at_call 81; refine (impl_CmdOk.calls k x.f0 x.f1 x.f2 t _ HT.out).mono ?_; rintro e w' ⟨rfl, hb⟩)
  go_ret
  exact ⟨rfl, by first | exact hb | (have h1_ := (Below.refl W.heap.size W).alloc (Nat.le_refl _) (.cells #[.int .i64 x.f0, .string x.f1, .int .i64 x.f2] 95); exact h1_.trans (hb.mono h1_.size))⟩
def impl_Cmd_79.f (k : Nat) (l0 : List (S95)) : Option Bool := (idxO95 (impl_Cmd_79.p k) l0 0).bind fun r => some (decide (0 ≤ r))
theorem impl_Cmd_79.mono : ∀ a0 k, LeO (impl_Cmd_79.f k a0) (impl_Cmd_79.f (k + 1) a0) := fun a0 k =>
  LeO.bind (idxO95_mono (fun x => LeO.bind (impl_CmdOk.mono _ _ _ k) fun _ => LeO.refl _) a0 0) fun _ => LeO.refl _
theorem impl_Cmd_79.calls (k : Nat) (A0 : Option Addr) (c0 : Nat) (l0 : List (S95)) (r : Bool) (w : World) (hr0 : Kd.C k95 w A0 l0.length l0) (hc0 : l0.length ≤ c0) (h : impl_Cmd_79.f k l0 = some r) :
    Calls Try.prog 79 #[.slice A0 l0.length c0, .func (.func 80) #[] #[]] w fun e w' => e = .returned (.bool r) ∧ Below w.heap.size w w' := by
  obtain ⟨i, hi, h⟩ := Option.bind_eq_some_iff.mp h
  obtain rfl := Option.some.inj h
  have hcon := indexFunc95_opt A0 c0 l0 w hr0 (impl_Cmd_79.p k) 80 #[] i hi (enters_of Try.func80 (by kernel_rfl) rfl)
    (fun W x b hW hb => (impl_Cmd_79.closure k x b W hb).mono fun e w' ⟨he, hb⟩ => ⟨he, hW.trans (hb.mono hW.size)⟩)
  have HC := Aside0.mk hcon
  clear hcon hr0 hc0 h hi
  go_enter Try.func79, Try.ntmps79
  go_wp2_with (go_at_call 105; refine HC.out.mono ?_; rintro e w' ⟨rfl, hb⟩)
  go_ret
  exact ⟨rfl, hb⟩

end Go.Proofs.Ytmcopcpeacikmaa.QFnExactBlockOk
