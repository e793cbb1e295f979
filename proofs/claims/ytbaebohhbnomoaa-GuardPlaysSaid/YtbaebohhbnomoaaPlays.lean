/- GuardPlays: the law's own walk. No condition. -/
import Derived.Test.YtbaebohhbnomoaaSim
namespace Go.Proofs.Ytbaebohhbnomoaa.G
open Go.RowKit
set_option linter.unusedVariables false
set_option linter.unusedSimpArgs false

theorem next_like {args : Array Value} {w : World} {a b : Int} (h : a = b) (hc : Calls Try.prog 17 args w fun e w' => e = .returned (.int .i64 a) ∧ w = w') : Calls Try.prog 17 args w fun e w' => e = .returned (.int .i64 b) ∧ w = w' := h ▸ hc
set_option maxRecDepth 100000 in
set_option maxHeartbeats 6400000 in
theorem plays_walk (a0 a1 a2 a3 : Int) (a4 : Option Addr) (len4 cap4 : Nat) (f4 : Nat → Nat → Int) (w : World) (wf0 : (Lit.int .i64 a0).wf = true) (wf1 : (Lit.int .i64 a1).wf = true) (wf2 : (Lit.int .i64 a2).wf = true) (wf3 : (Lit.int .i64 a3).wf = true)
    (w4 : (a4 = none ∧ len4 = 0 ∧ cap4 = 0) ∨ ∃ x, a4 = some x ∧ len4 ≤ cap4 ∧ cap4 ≤ maxLen ∧ ∀ i, i < len4 → ∀ (j : Nat) (k : IntKind), [IntKind.i64, .i64, .i64][j]? = some k → w.cell? (x.add (i * [IntKind.i64, .i64, .i64].length + j)) = some (.int k (f4 i j)) ∧ (Lit.int k (f4 i j)).wf = true) :
    Calls Try.prog 3 #[.int .i64 a0, .int .i64 a1, .int .i64 a2, .int .i64 a3, .slice a4 len4 cap4] w fun e w' => e = .returned (.bool true) ∧ Below w.heap.size w w' := by
  have hlen : len4 ≤ 9223372036854775807 := by
    rcases w4 with ⟨_, rfl, _⟩ | ⟨x, _, h1, h2, _⟩
    · omega
    · unfold maxLen at h2
      omega
  have W4 := Lib.hid w4
  clear wf0 wf1 wf2 wf3 w4
  by_cases hbig : 400 < len4
  · go_enter Try.func3, Try.ntmps3
    go_wp2_with (go_at_call 9; refine (head_any _).mono ?_; rintro e w1 ⟨rfl, B1⟩; have A1 := Lib.hid B1; clear B1)
    go_ret
    exact ⟨rfl, A1.out⟩
  · by_cases hv : Valid a0 a1 a2 a3
    · have HV := Lib.hid hv
      clear hv
      go_enter Try.func3, Try.ntmps3
      go_wp2_with (first
        | (go_at_call 9; refine (head_any _).mono ?_; rintro e w1 ⟨rfl, B1⟩; have A1 := Lib.hid B1; clear B1)
        | (go_at_call 10; refine (new_held w.heap.size a0 a1 a2 a3 _ HV.out A1.out.size).mono ?_; rintro e w2 ⟨g, rfl, H2, B2⟩; have A2 := Lib.hid (A1.out.trans (B2.mono A1.out.size)); have HH2 := Lib.hid H2; have HB2 := Lib.hid B2; clear H2 B2)
        | (go_at_call 11; refine (rnew_yes w.heap.size a0 a1 a2 a3 _ HV.out A2.out.size).mono ?_; rintro e w3 ⟨r, rfl, H3, B3⟩; have A3 := Lib.hid (A2.out.trans (B3.mono A2.out.size)); have T3 := Lib.hid (show ∃ ow, Both w.heap.size w3 g r (newS a0 a1 a2 a3) (rnewS a0 a1 a2 a3) ow from ⟨Since w1.heap.size w3, ⟨_, _, HH2.out.below B3, H3, fun j h1 h2 => by have := h1.2; have := h2.1; omega, fun j h1 => ⟨h1.1, by have := h1.2; have := B3.size; omega⟩, fun j h1 => ⟨by have := h1.1; have := HB2.out.size; omega, h1.2⟩⟩, fun j h1 => h1.2⟩); clear H3 B3))
      go_loopw [14] (fun iv wr => ∃ i : Nat, i ≤ len4 ∧ iv = .int .i64 i ∧ Hid (∃ s q ow, Both w.heap.size wr g r s q ow ∧ Sim s q i) ∧ Hid (Below w.heap.size w wr)) (fun iv _ => len4 - (intOf iv).toNat)
      case atStart => exact ⟨0, Nat.zero_le _, rfl, Lib.hid (by obtain ⟨ow, h⟩ := T3.out; exact ⟨_, _, ow, h, Sim.start _ _ _ _ (by have := HV.out.c0; omega)⟩), A3⟩
      case round =>
        obtain ⟨i, hi, rfl, hT, hB⟩ := hrel
        by_cases hlt : i < len4
        · obtain ⟨x, ex, hx⟩ := rowS_at W4.out i hlt
          subst ex
          have x0 := (hB.out.cell (p := x.add (i * 3 + 0)) (World.block_lt_of_cell? w _ (hx 0 .i64 rfl).1)).trans (hx 0 .i64 rfl).1
          have x1 := (hB.out.cell (p := x.add (i * 3 + 1)) (World.block_lt_of_cell? w _ (hx 1 .i64 rfl).1)).trans (hx 1 .i64 rfl).1
          have x2 := (hB.out.cell (p := x.add (i * 3 + 2)) (World.block_lt_of_cell? w _ (hx 2 .i64 rfl).1)).trans (hx 2 .i64 rfl).1
          rw [Nat.add_zero] at x0
          rw [add_field _ _ 1 (by omega)] at x1
          rw [add_field _ _ 2 (by omega)] at x2
          have WC := Lib.hid (hx 1 .i64 rfl).2
          generalize f4 i 0 = what at *
          generalize f4 i 1 = c at *
          generalize f4 i 2 = nw at *
          obtain ⟨s, q, ow, T, P⟩ := hT.out
          clear hx
          have ROK := Lib.hid (P.rok T.ok (by omega))
          have HP := Lib.hid P
          have HT := Lib.hid T
          clear P T
          have HBS : Hid (¬ ow wr.heap.size) := Lib.hid (fun h => Nat.lt_irrefl _ (HT.out.lt _ h))
          have HTA := Lib.hid (HT.out.below ((Below.refl _ _).alloc (Nat.le_refl _) (Obj.cells #[Value.int .i64 what, Value.int .i64 c, Value.int .i64 nw] 29)))
          by_cases h3 : what = 3
          · subst h3
            have HM := Lib.hid (HP.out.may HT.out.ok c nw)
            have NX := Lib.hid ((HP.out.may HT.out.ok c nw).1.nexts c)
            go_wp2_with (first
              | (go_at_call 12; refine (HTA.out.mayL c nw WC.out).mono ?_; rintro e w5 ⟨rfl, T5, U5, B5⟩; rw [HM.out.2]; have HT5 := Lib.hid T5; have HB5 := Lib.hid B5; have y1 : w5.cell? ⟨wr.heap.size, 1, none⟩ = some (.int .i64 c) := cell_turned (by simp) U5 HBS.out; have y2 : w5.cell? ⟨wr.heap.size, 2, none⟩ = some (.int .i64 nw) := cell_turned (by simp) U5 HBS.out; have N5 := Lib.hid (show ¬ More ow (wr.alloc (Obj.cells #[Value.int .i64 3, Value.int .i64 c, Value.int .i64 nw] 29)) w5 wr.heap.size from fun h => h.elim HBS.out (fun h => by have := h.1; rw [World.size_alloc] at this; omega)); clear T5 B5 U5)
              | (go_at_call 13; refine (HT5.out.mayR c nw ROK.out).mono ?_; rintro e w6 ⟨rfl, T6, U6, B6⟩; have HT6 := Lib.hid T6; have HB6 := Lib.hid B6; have z1 : w6.cell? ⟨wr.heap.size, 1, none⟩ = some (.int .i64 c) := cell_turned y1 U6 N5.out; clear T6 B6 U6))
            clear y1 y2
            go_quiet ((first
              | (go_at_call 16; exact quiet_left ((HT6.out.below (below_dn (Below.refl _ _) _)).nextL c WC.out))
              | (go_at_call 17; exact quiet_left (next_like NX.out ((HT6.out.below (below_dn (Below.refl _ _) _)).nextR c)))))
            go_wp2_with fail
            go_roundw
            case rel => exact ⟨i + 1, by omega, by go_num, Lib.hid ⟨_, _, _, HT6.out.below (below_dn (Below.refl _ _) _), HM.out.1.mono (Nat.le_succ _)⟩, Lib.hid (below_dn (((hB.out.alloc hB.out.size _).trans HB5.out).trans HB6.out) _)⟩
            case measure => simp [intOf]; omega
          · have h3b : (what == 3) = false := beq_eq_false_iff_ne.2 h3
            have HM := Lib.hid (HP.out.issue HT.out.ok c nw)
            have NX := Lib.hid ((HP.out.issue HT.out.ok c nw).1.nexts c)
            go_wp2_with (first
              | (go_at_call 14; refine (HTA.out.issueL c nw WC.out).mono ?_; rintro e w5 ⟨rfl, T5, U5, B5⟩; rw [HM.out.2.1, HM.out.2.2]; have HT5 := Lib.hid T5; have HB5 := Lib.hid B5; have y1 : w5.cell? ⟨wr.heap.size, 1, none⟩ = some (.int .i64 c) := cell_turned (by simp) U5 HBS.out; have y2 : w5.cell? ⟨wr.heap.size, 2, none⟩ = some (.int .i64 nw) := cell_turned (by simp) U5 HBS.out; have N5 := Lib.hid (show ¬ More ow (wr.alloc (Obj.cells #[Value.int .i64 what, Value.int .i64 c, Value.int .i64 nw] 29)) w5 wr.heap.size from fun h => h.elim HBS.out (fun h => by have := h.1; rw [World.size_alloc] at this; omega)); clear T5 B5 U5)
              | (go_at_call 15; refine (HT5.out.issueR c nw ROK.out).mono ?_; rintro e w6 ⟨rfl, T6, U6, B6⟩; have HT6 := Lib.hid T6; have HB6 := Lib.hid B6; have z1 : w6.cell? ⟨wr.heap.size, 1, none⟩ = some (.int .i64 c) := cell_turned y1 U6 N5.out; clear T6 B6 U6))
            clear y1 y2
            go_quiet ((first
              | (go_at_call 16; exact quiet_left ((HT6.out.below (below_dn (Below.refl _ _) _)).nextL c WC.out))
              | (go_at_call 17; exact quiet_left (next_like NX.out ((HT6.out.below (below_dn (Below.refl _ _) _)).nextR c)))))
            go_wp2_with fail
            go_roundw
            case rel => exact ⟨i + 1, by omega, by go_num, Lib.hid ⟨_, _, _, HT6.out.below (below_dn (Below.refl _ _) _), HM.out.1⟩, Lib.hid (below_dn (((hB.out.alloc hB.out.size _).trans HB5.out).trans HB6.out) _)⟩
            case measure => simp [intOf]; omega
        · go_wp2_with fail
          go_ret
          exact ⟨rfl, hB.out⟩
    · have HV := Lib.hid hv
      clear hv
      go_enter Try.func3, Try.ntmps3
      go_wp2_with (first
        | (go_at_call 9; refine (head_any _).mono ?_; rintro e w1 ⟨rfl, B1⟩; have A1 := Lib.hid B1; clear B1)
        | (go_at_call 10; refine (new_no a0 a1 a2 a3 _ HV.out).mono ?_; rintro e w2 ⟨rfl, B2⟩; have A2 := Lib.hid (A1.out.trans (B2.mono A1.out.size)); clear B2)
        | (go_at_call 11; refine (rnew_bad a0 a1 a2 a3 _ HV.out).mono ?_; rintro e w3 ⟨rfl, B3⟩; have A3 := Lib.hid (A2.out.trans (B3.mono A2.out.size)); clear B3))
      go_ret
      exact ⟨rfl, A3.out⟩
end Go.Proofs.Ytbaebohhbnomoaa.G
