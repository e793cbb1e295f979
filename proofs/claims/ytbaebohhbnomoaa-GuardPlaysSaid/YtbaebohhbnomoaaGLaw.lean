/- What a law needs of a guard: its calls, one behind the other; and the law's own live question. -/
import Derived.Test.YtbaebohhbnomoaaIssue
import Derived.Test.YtbaebohhbnomoaaNew
namespace Go.Proofs.Ytbaebohhbnomoaa.G
open Go.RowKit
set_option linter.unusedVariables false
set_option linter.unusedSimpArgs false

theorem Fine.keep {xs : List Int} (h : Fine xs) (now life : Int) : Fine (keep now life xs) := by
  intro j hj
  have hm : gi (G.keep now life xs) j ∈ xs := by
    unfold gi
    rw [List.getD_eq_getElem?_getD, List.getElem?_eq_getElem hj]
    exact (List.mem_filter.1 (List.getElem_mem hj)).1
  obtain ⟨i, hi, e⟩ := List.mem_iff_getElem.1 hm
  have := h i hi
  unfold gi at this
  rw [List.getD_eq_getElem?_getD, List.getElem?_eq_getElem hi] at this
  rw [← e]
  exact this
theorem Fine.snoc {xs : List Int} (h : Fine xs) {t : Int} (h0 : 0 ≤ t) (h1 : t ≤ 1099511627776) : Fine (xs ++ [t]) := by
  intro j hj
  unfold gi
  by_cases hlt : j < xs.length
  · rw [List.getD_eq_getElem?_getD, List.getElem?_append_left hlt]
    exact h j hlt
  · obtain rfl : j = xs.length := by simp at hj; omega
    rw [List.getD_eq_getElem?_getD, List.getElem?_append_right (Nat.le_refl _)]
    simp [h0, h1]

theorem Ok.may {s : St} (ok : Ok s) (c now : Int) : Ok (mayS s c now) := by
  have ht := tk_in ok now
  have h0 := ok.n0
  unfold mayS
  split
  · rename_i hc
    have hi : c.toNat < s.n := by omega
    refine ⟨ok.bits, ok.w0, ok.w1, ok.l0, ok.l1, by show 0 ≤ tk s now; omega, ht.2, ok.c0, ok.c1, ok.next, fun i h => ?_, fun i h => ?_⟩
    · show Fine (upd s.ats c.toNat (keep (tk s now) s.life (s.ats c.toNat)) i)
      by_cases e : i = c.toNat
      · rw [e, upd_same]
        exact (ok.fine _ hi).keep _ _
      · rw [upd_other _ _ e]
        exact ok.fine i h
    · show ((upd s.ats c.toNat (keep (tk s now) s.life (s.ats c.toNat)) i).length : Int) ≤ s.window
      by_cases e : i = c.toNat
      · rw [e, upd_same]
        have := ok.room _ hi
        have := keep_le (tk s now) s.life (s.ats c.toNat)
        omega
      · rw [upd_other _ _ e]
        exact ok.room i h
  · exact ⟨ok.bits, ok.w0, ok.w1, ok.l0, ok.l1, by show 0 ≤ tk s now; omega, ht.2, ok.c0, ok.c1, ok.next, ok.fine, ok.room⟩
theorem mayS_bits (s : St) (c now : Int) : (mayS s c now).bits = s.bits ∧ (mayS s c now).n = s.n ∧ (mayS s c now).window = s.window ∧ (mayS s c now).life = s.life ∧ (mayS s c now).now = tk s now ∧ (mayS s c now).next = s.next := by
  unfold mayS
  split <;> exact ⟨rfl, rfl, rfl, rfl, rfl, rfl⟩
theorem add_in {bits a : Int} (hb : bits = 12 ∨ bits = 24) (h0 : 0 ≤ a) (h1 : a < NumPlain.all bits) : NumPlain.add bits a 1 = (a + 1) % NumPlain.all bits ∧ 0 ≤ NumPlain.add bits a 1 ∧ NumPlain.add bits a 1 < NumPlain.all bits := by
  have hr : NumPlain.right bits a = true := by unfold NumPlain.right; simp [h0, h1]
  have e : NumPlain.add bits a 1 = (a + 1) % NumPlain.all bits := by unfold NumPlain.add; rw [if_pos hr]
  have hp : 0 < NumPlain.all bits := by omega
  rw [e]
  exact ⟨rfl, Int.emod_nonneg _ (by omega), Int.emod_lt_of_pos _ hp⟩
theorem room_in {s : St} {c : Int} (h : room s c ≠ 0) : 0 ≤ c ∧ c < s.n := Classical.byContradiction fun hn => h (if_neg hn)
theorem Ok.issue {s : St} (ok : Ok s) (c now : Int) : Ok (issueS s c now) := by
  have ok1 := ok.may c now
  have hb := mayS_bits s c now
  unfold issueS
  split
  · exact ok1
  · rename_i hr
    have hc := room_in hr
    have hi : c.toNat < (mayS s c now).n := by omega
    have hnx := ok1.next _ hi
    have ha := add_in ok1.bits hnx.1 hnx.2
    refine ⟨ok1.bits, ok1.w0, ok1.w1, ok1.l0, ok1.l1, ok1.n0, ok1.n1, ok1.c0, ok1.c1, fun i h => ?_, fun i h => ?_, fun i h => ?_⟩
    · show 0 ≤ upd (mayS s c now).next c.toNat (NumPlain.add s.bits ((mayS s c now).next c.toNat) 1) i ∧ upd (mayS s c now).next c.toNat (NumPlain.add s.bits ((mayS s c now).next c.toNat) 1) i < NumPlain.all (mayS s c now).bits
      by_cases e : i = c.toNat
      · rw [e, upd_same, ← hb.1]
        exact ha.2
      · rw [upd_other _ _ e]
        exact ok1.next i h
    · show Fine (upd (mayS s c now).ats c.toNat ((mayS s c now).ats c.toNat ++ [(mayS s c now).now]) i)
      by_cases e : i = c.toNat
      · rw [e, upd_same]
        exact (ok1.fine _ hi).snoc ok1.n0 ok1.n1
      · rw [upd_other _ _ e]
        exact ok1.fine i h
    · show ((upd (mayS s c now).ats c.toNat ((mayS s c now).ats c.toNat ++ [(mayS s c now).now]) i).length : Int) ≤ (mayS s c now).window
      by_cases e : i = c.toNat
      · rw [e, upd_same]
        have h1 := ok1.room _ hi
        have h2 : G.room (mayS s c now) c = (mayS s c now).window - ((mayS s c now).ats c.toNat).length := if_pos hc
        simp only [List.length_append, List.length_singleton]
        omega
      · rw [upd_other _ _ e]
        exact ok1.room i h

/-- A guard in memory of the call's own (from block B on), in a right state. -/
structure Held (B : Nat) (w : World) (g : Nat) (s : St) (own : Nat → Prop) : Prop where
  at_ : GuardAt w g s own
  ok : Ok s
  lo : ∀ k, own k → B ≤ k
  base : B ≤ w.heap.size
theorem Held.lt {B : Nat} {w : World} {g : Nat} {s : St} {own : Nat → Prop} (h : Held B w g s own) (k : Nat) (hk : own k) : k < w.heap.size := h.at_.1 k hk
theorem Held.turned {B : Nat} {w w' : World} {g : Nat} {s : St} {own o2 : Nat → Prop} (h : Held B w g s own) (t : Turned o2 w w') (hd : ∀ k, own k → ¬ o2 k) : Held B w' g s own :=
  ⟨h.at_.turned t hd, h.ok, h.lo, Nat.le_trans h.base t.size⟩
theorem Held.below {B : Nat} {w w' : World} {g : Nat} {s : St} {own : Nat → Prop} (h : Held B w g s own) (t : Below w.heap.size w w') : Held B w' g s own := ⟨h.at_.below t, h.ok, h.lo, Nat.le_trans h.base t.size⟩
theorem Held.under {B : Nat} {w w' : World} {g : Nat} {s : St} {own : Nat → Prop} (h : Held B w g s own) (t : Turned own w w') : Below B w w' := t.below (fun k hk ho => by have := h.lo k ho; omega) h.base

def OpPost (B : Nat) (g : Nat) (s' : St) (own : Nat → Prop) (v : Value) (w : World) (e : Ending) (w' : World) : Prop := e = .returned v ∧ Held B w' g s' (More own w w') ∧ Turned own w w' ∧ Below B w w'

theorem Held.may {B : Nat} {w : World} {g : Nat} {s : St} {own : Nat → Prop} (h : Held B w g s own) (c now : Int) (hc : (Lit.int .i64 c).wf = true) :
    Calls Try.prog 12 #[.pointer (some ⟨g, 0, none⟩), .int .i64 c, .int .i64 now] w (OpPost B g (mayS s c now) own (.int .i64 (room (mayS s c now) c)) w) :=
  (may_any g s own c now w h.at_ h.ok hc).mono fun e w' ⟨he, hg, ht⟩ => ⟨he, ⟨hg.more h.at_.1 ht, h.ok.may c now, fun k hk => hk.elim (h.lo k) (fun h1 => Nat.le_trans h.base h1.1), Nat.le_trans h.base ht.size⟩, ht, h.under ht⟩
theorem Held.issue {B : Nat} {w : World} {g : Nat} {s : St} {own : Nat → Prop} (h : Held B w g s own) (c now : Int) (hc : (Lit.int .i64 c).wf = true) :
    Calls Try.prog 14 #[.pointer (some ⟨g, 0, none⟩), .int .i64 c, .int .i64 now] w (OpPost B g (issueS s c now) own (.tuple #[.int .i64 (issueN s c now), .bool (issueB s c now)]) w) := by
  have hh : Calls Try.prog 14 #[.pointer (some ⟨g, 0, none⟩), .int .i64 c, .int .i64 now] w (IssuePost g s own c now w) := by
    by_cases hr : room (mayS s c now) c = 0
    · exact issue_no g s own c now w h.at_ h.ok hc hr
    · exact issue_yes g s own c now w h.at_ h.ok hc hr
  exact hh.mono fun e w' ⟨he, hg, ht⟩ => ⟨he, ⟨hg, h.ok.issue c now, fun k hk => hk.elim (h.lo k) (fun h1 => Nat.le_trans h.base h1.1), Nat.le_trans h.base ht.size⟩, ht, h.under ht⟩
theorem Held.next {B : Nat} {w : World} {g : Nat} {s : St} {own : Nat → Prop} (h : Held B w g s own) (c : Int) (hc : (Lit.int .i64 c).wf = true) :
    Calls Try.prog 16 #[.pointer (some ⟨g, 0, none⟩), .int .i64 c] w fun e w' => e = .returned (.int .i64 (nextS s c)) ∧ w = w' := next_any g s own c w h.at_ hc
def MadePost (B : Nat) (s : St) (w : World) (e : Ending) (w' : World) : Prop := ∃ g, e = .returned (.pointer (some ⟨g, 0, none⟩)) ∧ Held B w' g s (Since w.heap.size w') ∧ Below w.heap.size w w'
theorem new_held (B : Nat) (bits classes window life : Int) (w : World) (v : Valid bits classes window life) (hB : B ≤ w.heap.size) : Calls Try.prog 10 #[.int .i64 bits, .int .i64 classes, .int .i64 window, .int .i64 life] w (MadePost B (newS bits classes window life) w) :=
  (new_yes bits classes window life w v).mono fun e w' ⟨g, he, hg, hb⟩ => ⟨g, he, ⟨hg, v.ok, fun k hk => Nat.le_trans hB hk.1, Nat.le_trans hB hb.size⟩, hb⟩

/-! ### the live question -/
theorem wf64 {c : Int} (h0 : -9223372036854775808 ≤ c) (h1 : c ≤ 9223372036854775807) : (Lit.int .i64 c).wf = true := by
  simp [Lit.wf, IntKind.min, IntKind.max, IntKind.signed, IntKind.bits]
  omega
def h0 : St := newS 12 2 2 3
def h1 : St := issueS h0 0 0
def h2 : St := issueS h1 0 1
def h3 : St := issueS h2 0 2
def h4 : St := mayS h3 1 2
def h5 : St := issueS h4 0 3
def h6 : St := issueS h5 1 3
def h7 : St := issueS h6 2 3

theorem e1 : issueN h0 0 0 = 0 ∧ issueB h0 0 0 = true := by decide
theorem e2 : issueN h1 0 1 = 1 ∧ issueB h1 0 1 = true := by decide
theorem e3 : issueN h2 0 2 = 0 ∧ issueB h2 0 2 = false := by decide
theorem e4 : room (mayS h3 1 2) 1 = 2 := by decide
theorem e5 : issueN h4 0 3 = 2 ∧ issueB h4 0 3 = true := by decide
theorem e6 : issueN h5 1 3 = 0 ∧ issueB h5 1 3 = true := by decide
theorem e7 : issueN h6 2 3 = 0 ∧ issueB h6 2 3 = false := by decide
theorem e8 : nextS h7 0 = 3 := by decide
theorem e9 : room (mayS h7 0 3) 0 = 0 := by decide

theorem v0 : Valid 12 2 2 3 := ⟨.inl rfl, by decide, by decide, by decide, by decide, by decide, by decide⟩
theorem v1 : ¬ Valid 12 2 1025 3 := fun h => absurd h.w1 (by decide)
theorem v2 : ¬ Valid 13 1 1 1 := fun h => absurd h.b (by decide)


theorem q1 {B : Nat} {w : World} {g : Nat} {own : Nat → Prop} (H : Held B w g h0 own) : Calls Try.prog 14 #[.pointer (some ⟨g, 0, none⟩), .int .i64 0, .int .i64 0] w (OpPost B g h1 own (.tuple #[.int .i64 0, .bool true]) w) := by
  have h := H.issue 0 0 (by decide)
  rw [e1.1, e1.2] at h
  exact h
theorem q2 {B : Nat} {w : World} {g : Nat} {own : Nat → Prop} (H : Held B w g h1 own) : Calls Try.prog 14 #[.pointer (some ⟨g, 0, none⟩), .int .i64 0, .int .i64 1] w (OpPost B g h2 own (.tuple #[.int .i64 1, .bool true]) w) := by
  have h := H.issue 0 1 (by decide)
  rw [e2.1, e2.2] at h
  exact h
theorem q3 {B : Nat} {w : World} {g : Nat} {own : Nat → Prop} (H : Held B w g h2 own) : Calls Try.prog 14 #[.pointer (some ⟨g, 0, none⟩), .int .i64 0, .int .i64 2] w (OpPost B g h3 own (.tuple #[.int .i64 0, .bool false]) w) := by
  have h := H.issue 0 2 (by decide)
  rw [e3.1, e3.2] at h
  exact h
theorem q4 {B : Nat} {w : World} {g : Nat} {own : Nat → Prop} (H : Held B w g h3 own) : Calls Try.prog 12 #[.pointer (some ⟨g, 0, none⟩), .int .i64 1, .int .i64 2] w (OpPost B g h4 own (.int .i64 2) w) := by
  have h := H.may 1 2 (by decide)
  rw [e4] at h
  exact h
theorem q5 {B : Nat} {w : World} {g : Nat} {own : Nat → Prop} (H : Held B w g h4 own) : Calls Try.prog 14 #[.pointer (some ⟨g, 0, none⟩), .int .i64 0, .int .i64 3] w (OpPost B g h5 own (.tuple #[.int .i64 2, .bool true]) w) := by
  have h := H.issue 0 3 (by decide)
  rw [e5.1, e5.2] at h
  exact h
theorem q6 {B : Nat} {w : World} {g : Nat} {own : Nat → Prop} (H : Held B w g h5 own) : Calls Try.prog 14 #[.pointer (some ⟨g, 0, none⟩), .int .i64 1, .int .i64 3] w (OpPost B g h6 own (.tuple #[.int .i64 0, .bool true]) w) := by
  have h := H.issue 1 3 (by decide)
  rw [e6.1, e6.2] at h
  exact h
theorem q7 {B : Nat} {w : World} {g : Nat} {own : Nat → Prop} (H : Held B w g h6 own) : Calls Try.prog 14 #[.pointer (some ⟨g, 0, none⟩), .int .i64 2, .int .i64 3] w (OpPost B g h7 own (.tuple #[.int .i64 0, .bool false]) w) := by
  have h := H.issue 2 3 (by decide)
  rw [e7.1, e7.2] at h
  exact h
theorem q8 {B : Nat} {w : World} {g : Nat} {own : Nat → Prop} (H : Held B w g h7 own) : Calls Try.prog 16 #[.pointer (some ⟨g, 0, none⟩), .int .i64 0] w fun e w' => e = .returned (.int .i64 3) ∧ w = w' := by
  have h := H.next 0 (by decide)
  rw [e8] at h
  exact h
theorem q9 {B : Nat} {w : World} {g : Nat} {own : Nat → Prop} (H : Held B w g h7 own) : Calls Try.prog 12 #[.pointer (some ⟨g, 0, none⟩), .int .i64 0, .int .i64 3] w (OpPost B g (mayS h7 0 3) own (.int .i64 0) w) := by
  have h := H.may 0 3 (by decide)
  rw [e9] at h
  exact h
attribute [local irreducible] h0 h1 h2 h3 h4 h5 h6 h7
theorem q0 (w : World) (hq : newS 12 2 2 3 = h0) : Calls Try.prog 10 #[.int .i64 12, .int .i64 2, .int .i64 2, .int .i64 3] w (MadePost w.heap.size h0 w) := hq ▸ new_held w.heap.size 12 2 2 3 w v0 (Nat.le_refl _)
theorem hq0 : newS 12 2 2 3 = h0 := by unfold h0; rfl

set_option maxHeartbeats 1600000 in
theorem head_any (w : World) : Calls Try.prog 9 #[] w fun e w' => e = .returned (.bool true) ∧ Below w.heap.size w w' := by
  go_enter Try.func9, Try.ntmps9
  go_wp2_with fail
  refine (q0 w hq0).mono ?_
  rintro e w1 ⟨g, rfl, H0, B1⟩
  have K1 := Lib.hid H0
  have A1 := Lib.hid B1
  clear H0 B1
  go_wp2_with fail
  refine (new_no 12 2 1025 3 _ v1).mono ?_
  rintro e w2 ⟨rfl, B2⟩
  have K2 := Lib.hid (K1.out.below B2)
  have A2 := Lib.hid (A1.out.trans (B2.mono A1.out.size))
  clear B2 K1 A1
  go_wp2_with fail
  refine (new_no 13 1 1 1 _ v2).mono ?_
  rintro e w3 ⟨rfl, B3⟩
  have K3 := Lib.hid (K2.out.below B3)
  have A3 := Lib.hid (A2.out.trans (B3.mono A2.out.size))
  clear B3 K2 A2
  go_wp2_with fail
  refine (q1 K3.out).mono ?_
  rintro e w4 ⟨rfl, H4, T4, B4⟩
  have K4 := Lib.hid H4
  have A4 := Lib.hid (A3.out.trans B4)
  clear H4 T4 B4 K3 A3
  go_wp2_with fail
  refine (q2 K4.out).mono ?_
  rintro e w5 ⟨rfl, H5, T5, B5⟩
  have K5 := Lib.hid H5
  have A5 := Lib.hid (A4.out.trans B5)
  clear H5 T5 B5 K4 A4
  go_wp2_with fail
  refine (q3 K5.out).mono ?_
  rintro e w6 ⟨rfl, H6, T6, B6⟩
  have K6 := Lib.hid H6
  have A6 := Lib.hid (A5.out.trans B6)
  clear H6 T6 B6 K5 A5
  go_wp2_with fail
  refine (q4 K6.out).mono ?_
  rintro e w7 ⟨rfl, H7, T7, B7⟩
  have K7 := Lib.hid H7
  have A7 := Lib.hid (A6.out.trans B7)
  clear H7 T7 B7 K6 A6
  go_wp2_with fail
  refine (q5 K7.out).mono ?_
  rintro e w8 ⟨rfl, H8, T8, B8⟩
  have K8 := Lib.hid H8
  have A8 := Lib.hid (A7.out.trans B8)
  clear H8 T8 B8 K7 A7
  go_wp2_with fail
  refine (q6 K8.out).mono ?_
  rintro e w9 ⟨rfl, H9, T9, B9⟩
  have K9 := Lib.hid H9
  have A9 := Lib.hid (A8.out.trans B9)
  clear H9 T9 B9 K8 A8
  go_wp2_with fail
  refine (q7 K9.out).mono ?_
  rintro e w10 ⟨rfl, H10, T10, B10⟩
  have K10 := Lib.hid H10
  have A10 := Lib.hid (A9.out.trans B10)
  clear H10 T10 B10 K9 A9
  go_wp2_with (first
    | (go_at_call 16; refine (q8 K10.out).mono ?_; rintro e w11 ⟨rfl, rfl⟩)
    | (go_at_call 12; refine (q9 K10.out).mono ?_; rintro e w12 ⟨rfl, H12, T12, B12⟩; have A12 := Lib.hid (A10.out.trans B12); clear H12 T12 B12))
  go_ret
  exact ⟨rfl, A12.out⟩
end Go.Proofs.Ytbaebohhbnomoaa.G
