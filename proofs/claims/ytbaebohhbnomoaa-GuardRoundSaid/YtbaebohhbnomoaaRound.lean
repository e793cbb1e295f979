/- GuardRound: numbers go round: behind the last one comes 0 again. No condition. -/
import Derived.Test.YtbaebohhbnomoaaGLaw
namespace Go.Proofs.Ytbaebohhbnomoaa.G
open Go.RowKit
set_option linter.unusedVariables false
set_option linter.unusedSimpArgs false

structure RInv (s : St) (i : Int) : Prop where
  bits : s.bits = 12
  window : s.window = 1024
  life : s.life = 1
  n : s.n = 1
  next : s.next 0 = i % 4096
  ats : ∀ j, j < (s.ats 0).length → gi (s.ats 0) j < i
  now : s.now ≤ i

theorem keep_none {now life : Int} {xs : List Int} (h : ∀ j, j < xs.length → old now life (gi xs j) = true) : keep now life xs = [] := by
  unfold keep
  rw [List.filter_eq_nil_iff]
  intro t ht
  obtain ⟨j, hj, rfl⟩ := List.mem_iff_getElem.1 ht
  have := h j hj
  unfold gi at this
  rw [List.getD_eq_getElem?_getD, List.getElem?_eq_getElem hj] at this
  simpa using this

theorem RInv.step {s : St} {i : Int} (h : RInv s i) (h0 : 0 ≤ i) (h1 : i ≤ 9000) : issueN s 0 i = i % 4096 ∧ issueB s 0 i = true ∧ RInv (issueS s 0 i) (i + 1) := by
  have ht : tk s i = i := by
    unfold tk
    have := h.now
    split <;> split <;> omega
  have hin : (0 : Int) ≤ 0 ∧ (0 : Int) < s.n := by rw [h.n]; decide
  have hk : keep i s.life (s.ats 0) = [] := keep_none (fun j hj => by
    unfold old
    rw [h.life]
    have := h.ats j hj
    simp
    omega)
  have hm : mayS s 0 i = cutAt s i 0 := by
    unfold mayS
    rw [if_pos hin, ht]
    rfl
  have ha : (cutAt s i 0).ats 0 = [] := by
    show upd s.ats 0 (keep i s.life (s.ats 0)) 0 = []
    rw [upd_same, hk]
  have hr : room (cutAt s i 0) 0 = 1024 := by
    unfold room
    rw [show (cutAt s i 0).n = s.n from rfl, if_pos hin, show (0 : Int).toNat = 0 from rfl, ha, show (cutAt s i 0).window = s.window from rfl, h.window]
    rfl
  have hne : ¬ room (mayS s 0 i) 0 = 0 := by rw [hm, hr]; decide
  have hnx : (cutAt s i 0).next 0 = i % 4096 := h.next
  refine ⟨?_, ?_, ?_⟩
  · unfold issueN
    rw [if_neg hne, hm]
    exact hnx
  · unfold issueB
    simp [hne]
  · unfold issueS
    rw [if_neg hne, hm]
    refine ⟨h.bits, h.window, h.life, h.n, ?_, fun j hj => ?_, ?_⟩
    · show upd (cutAt s i 0).next (0 : Int).toNat (NumPlain.add s.bits ((cutAt s i 0).next (0 : Int).toNat) 1) 0 = (i + 1) % 4096
      rw [show (0 : Int).toNat = 0 from rfl, upd_same, hnx, h.bits, (add_in (.inl rfl) (by omega) (by rw [NumPlain.all_12]; omega)).1, NumPlain.all_12]
      omega
    · have e : ({ cutAt s i 0 with next := upd (cutAt s i 0).next (0 : Int).toNat (NumPlain.add s.bits ((cutAt s i 0).next (0 : Int).toNat) 1), ats := upd (cutAt s i 0).ats (0 : Int).toNat ((cutAt s i 0).ats (0 : Int).toNat ++ [(cutAt s i 0).now]) } : St).ats 0 = [i] := by
        show upd (cutAt s i 0).ats 0 ((cutAt s i 0).ats 0 ++ [(cutAt s i 0).now]) 0 = [i]
        rw [upd_same, ha]
        rfl
      rw [e] at hj ⊢
      obtain rfl : j = 0 := by simpa using hj
      show i < i + 1
      omega
    · show i ≤ i + 1
      omega

theorem round_valid : Valid 12 1 1024 1 := ⟨.inl rfl, by decide, by decide, by decide, by decide, by decide, by decide⟩
theorem round_start : RInv (newS 12 1 1024 1) 0 := ⟨rfl, rfl, rfl, rfl, rfl, fun j hj => absurd hj (Nat.not_lt_zero j), by decide⟩

set_option maxHeartbeats 3200000 in
theorem round_walk (a0 : Int) (w : World) (wf0 : (Lit.int .u16 a0).wf = true) : Calls Try.prog 8 #[.int .u16 a0] w fun e w' => e = .returned (.bool true) ∧ Below w.heap.size w w' := by
  have hb : 0 ≤ a0 ∧ a0 ≤ 65535 := by simpa [Lit.wf, IntKind.min, IntKind.max, IntKind.signed, IntKind.bits] using wf0
  have hb0 := hb.1
  have hb1 := hb.2
  clear hb wf0
  go_enter Try.func8, Try.ntmps8
  go_wp2_with (first
    | (go_at_call 9; refine (head_any _).mono ?_; rintro e w1 ⟨rfl, B1⟩)
    | (go_at_call 10; refine (new_held w.heap.size 12 1 1024 1 _ round_valid B1.size).mono ?_; rintro e w2 ⟨g, rfl, H2, B2⟩))
  have HB2 := Lib.hid (B1.trans (B2.mono B1.size))
  have HH2 := Lib.hid H2
  clear B1 B2 H2
  go_loopw [6] (fun i wr => ∃ k : Nat, (k : Int) ≤ a0 % 9000 ∧ i = .int .i64 k ∧ Hid (∃ s own, Held w.heap.size wr g s own ∧ RInv s k) ∧ Hid (Below w.heap.size w wr)) (fun i _ => (a0 % 9000 - intOf i).toNat)
  case atStart => exact ⟨0, by omega, rfl, Lib.hid ⟨_, _, HH2.out, round_start⟩, HB2⟩
  case round =>
    obtain ⟨k, hk, rfl, hH, hB⟩ := hrel
    obtain ⟨s, own, H, R⟩ := hH.out
    by_cases hlt : (k : Int) < a0 % 9000
    · have st := R.step (i := (k : Int)) (by omega) (by omega)
      have HI := Lib.hid (H.issue 0 k (by decide))
      have HE1 := Lib.hid st.1
      have HE2 := Lib.hid st.2.1
      have HR := Lib.hid st.2.2
      clear H R st
      go_wp2_with (go_at_call 14; refine HI.out.mono ?_; rintro e w3 ⟨rfl, H3, T3, B3⟩; rw [HE1.out, HE2.out]; have HH3 := Lib.hid H3; have HB3 := Lib.hid (hB.out.trans B3); clear H3 T3 B3)
      go_roundw
      case rel => exact ⟨k + 1, by omega, by go_num, Lib.hid ⟨_, _, HH3.out, HR.out⟩, HB3⟩
      case measure => simp [intOf]; omega
    · have e : (k : Int) = a0 % 9000 := by omega
      have HN := Lib.hid (H.next 0 (by decide))
      have HX : Hid (nextS s 0 = a0 % 9000 % 4096) := Lib.hid (by unfold nextS; rw [R.n]; rw [if_pos (by decide)]; rw [← e]; exact R.next)
      clear H R e
      go_wp2_with (go_at_call 16; refine HN.out.mono ?_; rintro e w3 ⟨rfl, rfl⟩; rw [HX.out])
      go_ret
      exact ⟨rfl, hB.out⟩
end Go.Proofs.Ytbaebohhbnomoaa.G
