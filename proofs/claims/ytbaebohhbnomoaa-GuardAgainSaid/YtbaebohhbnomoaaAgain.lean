/- GuardAgain: a life later as many can be issued as at first; times that fall are taken for the last one. No condition. -/
import Derived.Test.YtbaebohhbnomoaaGLaw
namespace Go.Proofs.Ytbaebohhbnomoaa.G
open Go.RowKit
set_option linter.unusedVariables false
set_option linter.unusedSimpArgs false

structure AInv (s : St) (wd lf now : Int) (i : Nat) : Prop where
  bits : s.bits = 12
  window : s.window = wd
  life : s.life = lf
  n : s.n = 1
  kept : keep now lf (s.ats 0) = List.replicate i now
  now : s.now ≤ now

theorem keep_rep {now t life : Int} (i : Nat) (h : now - t < life) : keep now life (List.replicate i t) = List.replicate i t := by
  unfold keep
  rw [List.filter_eq_self]
  intro x hx
  rw [List.eq_of_mem_replicate hx]
  unfold old
  simp
  omega
theorem keep_rep0 {now t life : Int} (i : Nat) (h : life ≤ now - t) : keep now life (List.replicate i t) = [] := by
  unfold keep
  rw [List.filter_eq_nil_iff]
  intro x hx
  rw [List.eq_of_mem_replicate hx]
  unfold old
  simp [h]
theorem tk_is {s : St} {now : Int} (h : s.now ≤ now) (h1 : now ≤ 1099511627776) : tk s now = now := by
  unfold tk
  split <;> split <;> omega
theorem tk_low {s : St} {now : Int} (ok : Ok s) (h : now ≤ s.now) : tk s now = s.now := by
  have := ok.n1
  unfold tk
  split <;> split <;> omega

theorem may_zero {s : St} {now t : Int} (hn : s.n = 1) (ht : tk s now = t) : mayS s 0 now = cutAt s t 0 := by
  unfold mayS
  rw [hn, if_pos (by decide), ht]
  rfl
theorem cut_ats (s : St) (t : Int) : (cutAt s t 0).ats 0 = keep t s.life (s.ats 0) := upd_same s.ats 0 (keep t s.life (s.ats 0))
theorem room_zero {s : St} (hn : s.n = 1) : room s 0 = s.window - ((s.ats 0).length : Int) := by
  unfold room
  rw [hn, if_pos (by decide)]
  rfl

theorem AInv.may {s : St} {wd lf now : Int} {i : Nat} (h : AInv s wd lf now i) (hl : 1 ≤ lf) (h1 : now ≤ 1099511627776) :
    room (mayS s 0 now) 0 = wd - i ∧ AInv (mayS s 0 now) wd lf now i ∧ (mayS s 0 now).now = now ∧ (mayS s 0 now).ats 0 = List.replicate i now := by
  have hm := may_zero h.n (tk_is h.now h1)
  have ha : (cutAt s now 0).ats 0 = List.replicate i now := by rw [cut_ats, h.life, h.kept]
  rw [hm]
  refine ⟨?_, ⟨h.bits, h.window, h.life, h.n, ?_, Int.le_refl _⟩, rfl, ha⟩
  · rw [room_zero (s := cutAt s now 0) h.n, ha, show (cutAt s now 0).window = s.window from rfl, h.window]
    simp
  · rw [ha, keep_rep i (by omega)]
theorem AInv.issue {s : St} {wd lf now x : Int} {i : Nat} (ok : Ok s) (h : AInv s wd lf now i) (hl : 1 ≤ lf) (h1 : now ≤ 1099511627776) (hs : s.now = now) (ha : s.ats 0 = List.replicate i now) (hi : (i : Int) < wd) (hx : x ≤ now) :
    issueB s 0 x = true ∧ AInv (issueS s 0 x) wd lf now (i + 1) ∧ (issueS s 0 x).ats 0 = List.replicate (i + 1) now := by
  have ht : tk s x = now := by rw [tk_low ok (by omega), hs]
  have hm := may_zero h.n ht
  have hc : (cutAt s now 0).ats 0 = List.replicate i now := by rw [cut_ats, h.life, ha, keep_rep i (by omega)]
  have hr : room (cutAt s now 0) 0 = wd - i := by
    rw [room_zero (s := cutAt s now 0) h.n, hc, show (cutAt s now 0).window = s.window from rfl, h.window]
    simp
  have hne : ¬ room (mayS s 0 x) 0 = 0 := by rw [hm, hr]; omega
  refine ⟨by unfold issueB; simp [hne], ?_⟩
  unfold issueS
  rw [if_neg hne, hm]
  have e : upd (cutAt s now 0).ats 0 ((cutAt s now 0).ats 0 ++ [(cutAt s now 0).now]) 0 = List.replicate (i + 1) now := by
    rw [upd_same, hc, show (cutAt s now 0).now = now from rfl, List.replicate_succ']
  refine ⟨⟨h.bits, h.window, h.life, h.n, ?_, Int.le_refl _⟩, e⟩
  show keep now lf (upd (cutAt s now 0).ats 0 ((cutAt s now 0).ats 0 ++ [(cutAt s now 0).now]) 0) = _
  rw [e, keep_rep _ (by omega)]
theorem AInv.full {s : St} {wd lf now : Int} {i : Nat} (h : AInv s wd lf now i) (hl : 1 ≤ lf) (hl2 : lf ≤ 65536) (h1 : now ≤ 1000000) (ha : s.ats 0 = List.replicate i now) (hi : (i : Int) = wd) :
    issueB s 0 (now + lf - 1) = false ∧ AInv (issueS s 0 (now + lf - 1)) wd lf (now + lf) 0 := by
  have ht : tk s (now + lf - 1) = now + lf - 1 := tk_is (by have := h.now; omega) (by omega)
  have hm := may_zero h.n ht
  have hc : (cutAt s (now + lf - 1) 0).ats 0 = List.replicate i now := by rw [cut_ats, h.life, ha, keep_rep i (by omega)]
  have hr : room (cutAt s (now + lf - 1) 0) 0 = 0 := by
    rw [room_zero (s := cutAt s (now + lf - 1) 0) h.n, hc, show (cutAt s (now + lf - 1) 0).window = s.window from rfl, h.window]
    simp
    omega
  have he : room (mayS s 0 (now + lf - 1)) 0 = 0 := by rw [hm, hr]
  refine ⟨by unfold issueB; simp [he], ?_⟩
  unfold issueS
  rw [if_pos he, hm]
  refine ⟨h.bits, h.window, h.life, h.n, ?_, by show now + lf - 1 ≤ now + lf; omega⟩
  rw [hc, keep_rep0 i (by omega)]
  rfl

theorem again_valid {wd lf : Int} (h0 : 1 ≤ wd) (h1 : wd ≤ 256) (h2 : 1 ≤ lf) (h3 : lf ≤ 65536) : Valid 12 1 wd lf := ⟨.inl rfl, by decide, by decide, h0, by show wd ≤ 1024; omega, h2, by omega⟩
theorem again_start {wd lf : Int} : AInv (newS 12 1 wd lf) wd lf 7 0 := ⟨rfl, rfl, rfl, rfl, rfl, by show (0 : Int) ≤ 7; decide⟩

set_option maxHeartbeats 3200000 in
theorem again_walk (a0 a1 a2 : Int) (w : World) (wf0 : (Lit.int .u8 a0).wf = true) (wf1 : (Lit.int .u16 a1).wf = true) (wf2 : (Lit.int .u8 a2).wf = true) :
    Calls Try.prog 6 #[.int .u8 a0, .int .u16 a1, .int .u8 a2] w fun e w' => e = .returned (.bool true) ∧ Below w.heap.size w w' := by
  have hb : 0 ≤ a0 ∧ a0 ≤ 255 := by simpa [Lit.wf, IntKind.min, IntKind.max, IntKind.signed, IntKind.bits] using wf0
  have hc : 0 ≤ a1 ∧ a1 ≤ 65535 := by simpa [Lit.wf, IntKind.min, IntKind.max, IntKind.signed, IntKind.bits] using wf1
  have hd : 0 ≤ a2 ∧ a2 ≤ 255 := by simpa [Lit.wf, IntKind.min, IntKind.max, IntKind.signed, IntKind.bits] using wf2
  obtain ⟨hb0, hb1⟩ := hb
  obtain ⟨hc0, hc1⟩ := hc
  obtain ⟨hd0, hd1⟩ := hd
  clear wf0 wf1 wf2
  go_enter Try.func6, Try.ntmps6
  go_wp2_with (first
    | (go_at_call 9; refine (head_any _).mono ?_; rintro e w1 ⟨rfl, B1⟩)
    | (go_at_call 10; refine (new_held w.heap.size 12 1 (1 + a0) (1 + a1) _ (again_valid (by omega) (by omega) (by omega) (by omega)) B1.size).mono ?_; rintro e w2 ⟨g, rfl, H2, B2⟩))
  have HB2 := Lib.hid (B1.trans (B2.mono B1.size))
  have HH2 := Lib.hid H2
  clear B1 B2 H2
  go_loopw [11, 12] (fun nv tv wr => ∃ (k : Nat) (nw : Int), (k : Int) ≤ a2 % 5 ∧ tv = .int .i64 k ∧ nv = .int .i64 nw ∧ 7 ≤ nw ∧ nw ≤ 7 + 65536 * k ∧ Hid (∃ s own, Held w.heap.size wr g s own ∧ AInv s (1 + a0) (1 + a1) nw 0) ∧ Hid (Below w.heap.size w wr)) (fun _ tv _ => (a2 % 5 - intOf tv).toNat)
  case atStart => exact ⟨0, 7, by omega, rfl, rfl, by omega, by omega, Lib.hid ⟨_, _, HH2.out, again_start⟩, HB2⟩
  case round =>
    obtain ⟨k, nw, hk, rfl, rfl, hn0, hn1, hH, hB⟩ := hrel
    by_cases hlt : (k : Int) < a2 % 5
    · go_wp2_with fail
      obtain ⟨wo, rfl⟩ : ∃ wo : World, wo = wr := ⟨_, rfl⟩
      go_loopw [13] (fun iv wi => ∃ i : Nat, (i : Int) ≤ 1 + a0 ∧ iv = .int .i64 i ∧ Hid (∃ s own, Held w.heap.size wi g s own ∧ AInv s (1 + a0) (1 + a1) nw i ∧ (0 < i → s.ats 0 = List.replicate i nw)) ∧ Hid (Below w.heap.size w wi)) (fun iv _ => (1 + a0 - intOf iv).toNat)
      case atStart =>
        obtain ⟨s, own, H, R⟩ := hH.out
        exact ⟨0, by omega, rfl, Lib.hid ⟨s, own, H, R, fun h => absurd h (Nat.lt_irrefl 0)⟩, hB⟩
      case round =>
        obtain ⟨i, hi, rfl, hI, hBi⟩ := hrel
        obtain ⟨s, own, H, R, hrow⟩ := hI.out
        by_cases hil : (i : Int) < 1 + a0
        · have st := R.may (by omega) (by omega)
          have HM := Lib.hid (H.may 0 nw (by decide))
          have HE := Lib.hid st.1
          have HS := Lib.hid st.2
          clear H R st hrow
          go_wp2_with (first
            | (go_at_call 12; refine HM.out.mono ?_; rintro e w3 ⟨rfl, H3, T3, B3⟩; rw [HE.out]; have HB3 := Lib.hid (hBi.out.trans B3); have HI3 := Lib.hid (H3.issue 0 (nw - (i : Int) % 3) (by decide)); have st2 := AInv.issue (x := nw - (i : Int) % 3) H3.ok HS.out.1 (by omega) (by omega) HS.out.2.1 HS.out.2.2 hil (by omega); have HE3 := Lib.hid st2.1; have HS3 := Lib.hid st2.2; clear H3 T3 B3 st2)
            | (go_at_call 14; refine HI3.out.mono ?_; rintro e w4 ⟨rfl, H4, T4, B4⟩; rw [HE3.out]; have HB4 := Lib.hid (HB3.out.trans B4); have HH4 := Lib.hid H4; clear H4 T4 B4))
          go_roundw
          case rel => exact ⟨i + 1, by omega, by go_num, Lib.hid ⟨_, _, HH4.out, HS3.out.1, fun _ => HS3.out.2⟩, HB4⟩
          case measure => simp [intOf]; omega
        · have hiw : (i : Int) = 1 + a0 := by omega
          have st := AInv.full R (by omega) (by omega) (by omega) (hrow (by omega)) hiw
          have HI3 := Lib.hid (H.issue 0 (nw + (1 + a1) - 1) (by decide))
          have HE3 := Lib.hid st.1
          have HS3 := Lib.hid st.2
          clear H R st hrow hiw
          go_wp2_with (go_at_call 14; refine HI3.out.mono ?_; rintro e w4 ⟨rfl, H4, T4, B4⟩; rw [HE3.out]; have HB4 := Lib.hid (hBi.out.trans B4); have HH4 := Lib.hid H4; clear H4 T4 B4)
          go_roundw
          case rel => exact ⟨k + 1, nw + (1 + a1), by omega, by go_num, rfl, by omega, by omega, Lib.hid ⟨_, _, HH4.out, HS3.out⟩, HB4⟩
          case measure => simp [intOf]; omega
    · obtain ⟨s, own, H, R⟩ := hH.out
      have st := R.may (by omega) (by omega)
      have HM := Lib.hid (H.may 0 nw (by decide))
      have HE : Hid (room (mayS s 0 nw) 0 = 1 + a0) := Lib.hid (by have := st.1; simpa using this)
      clear H R st
      go_wp2_with (go_at_call 12; refine HM.out.mono ?_; rintro e w3 ⟨rfl, H3, T3, B3⟩; rw [HE.out]; have HB3 := Lib.hid (hB.out.trans B3); clear H3 T3 B3)
      go_ret
      exact ⟨by first | rfl | simp, HB3.out⟩
end Go.Proofs.Ytbaebohhbnomoaa.G
