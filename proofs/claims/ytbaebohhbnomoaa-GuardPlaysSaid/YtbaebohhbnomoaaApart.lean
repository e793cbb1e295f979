/- GuardApart: what is issued of other classes changes nothing of one, but the time. No condition. -/
import Derived.Test.YtbaebohhbnomoaaGLaw
import Derived.Deep.RegionHeld3
namespace Go.Proofs.Ytbaebohhbnomoaa.G
open Go.RowKit
set_option linter.unusedVariables false
set_option linter.unusedSimpArgs false

/-- An element of a slice of structs of whole numbers. -/
theorem rowS_at {ks : List IntKind} {w : World} {a : Option Addr} {len cap : Nat} {f : Nat → Nat → Int} (h : (a = none ∧ len = 0 ∧ cap = 0) ∨
  ∃ x, a = some x ∧ len ≤ cap ∧ cap ≤ maxLen ∧ ∀ i, i < len → ∀ (j : Nat) (k : IntKind), ks[j]? = some k → w.cell? (x.add (i * ks.length + j)) = some (.int k (f i j)) ∧ (Lit.int k (f i j)).wf = true)
    (i : Nat) (hi : i < len) : ∃ x : Addr, a = some x ∧ ∀ (j : Nat) (k : IntKind), ks[j]? = some k → w.cell? (x.add (i * ks.length + j)) = some (.int k (f i j)) ∧ (Lit.int k (f i j)).wf = true := by
  rcases h with ⟨_, rfl, _⟩ | ⟨x, rfl, h1, h2, h3⟩
  · omega
  · exact ⟨x, rfl, h3 i hi⟩

theorem add_field (a : Addr) (m j : Nat) (hj : 0 < j) : a.add (m + j) = ⟨(a.add m).block, (a.add m).off + j, none⟩ := by
  unfold Addr.add
  have h1 : ¬ m + j = 0 := by omega
  rw [if_neg h1]
  split
  · subst_vars
    simp
  · simp
    omega

structure PInv (s t : St) : Prop where
  n : s.n = 3
  m : t.n = 3
  now : s.now = t.now
  life : s.life = t.life
  window : s.window = t.window
  bits : s.bits = t.bits
  next : s.next 1 = t.next 1
  ats : s.ats 1 = t.ats 1

theorem PInv.tk {s t : St} (h : PInv s t) (x : Int) : G.tk s x = G.tk t x := by unfold G.tk; rw [h.now]
theorem PInv.mays {s t : St} (h : PInv s t) (c d x : Int) (hcd : c = 1 ↔ d = 1) : PInv (mayS s c x) (mayS t d x) := by
  have hs := mayS_bits s c x
  have ht := mayS_bits t d x
  refine ⟨hs.2.1.trans h.n, ht.2.1.trans h.m, ?_, ?_, ?_, ?_, ?_, ?_⟩
  · rw [hs.2.2.2.2.1, ht.2.2.2.2.1, h.tk]
  · rw [hs.2.2.2.1, ht.2.2.2.1, h.life]
  · rw [hs.2.2.1, ht.2.2.1, h.window]
  · rw [hs.1, ht.1, h.bits]
  · rw [hs.2.2.2.2.2, ht.2.2.2.2.2, h.next]
  · by_cases hc : c = 1
    · obtain rfl := hc
      obtain rfl := hcd.1 rfl
      unfold mayS
      rw [h.n, h.m, if_pos (by decide), if_pos (by decide)]
      show upd s.ats 1 (keep (G.tk s x) s.life (s.ats 1)) 1 = upd t.ats 1 (keep (G.tk t x) t.life (t.ats 1)) 1
      rw [upd_same, upd_same, h.tk, h.life, h.ats]
    · have hd : ¬ d = 1 := fun e => hc (hcd.2 e)
      have e1 : (mayS s c x).ats 1 = s.ats 1 := by
        unfold mayS
        split
        · exact upd_other _ _ (by omega)
        · rfl
      have e2 : (mayS t d x).ats 1 = t.ats 1 := by
        unfold mayS
        split
        · exact upd_other _ _ (by omega)
        · rfl
      rw [e1, e2, h.ats]
theorem PInv.room {s t : St} (h : PInv s t) : G.room s 1 = G.room t 1 := by
  unfold G.room
  rw [h.n, h.m, if_pos (by decide), if_pos (by decide), h.window]
  show t.window - ((s.ats 1).length : Int) = t.window - ((t.ats 1).length : Int)
  rw [h.ats]
theorem PInv.nexts {s t : St} (h : PInv s t) : nextS s 1 = nextS t 1 := by
  unfold nextS
  rw [h.n, h.m, if_pos (by decide), if_pos (by decide)]
  exact h.next
theorem issue_far {s : St} {c x : Int} (hc : ¬ c = 1) : (issueS s c x).next 1 = (mayS s c x).next 1 ∧ (issueS s c x).ats 1 = (mayS s c x).ats 1 ∧ (issueS s c x).n = (mayS s c x).n ∧ (issueS s c x).now = (mayS s c x).now ∧ (issueS s c x).life = (mayS s c x).life ∧ (issueS s c x).window = (mayS s c x).window ∧ (issueS s c x).bits = (mayS s c x).bits := by
  unfold issueS
  split
  · exact ⟨rfl, rfl, rfl, rfl, rfl, rfl, rfl⟩
  · rename_i hr
    have := room_in hr
    exact ⟨upd_other _ _ (by omega), upd_other _ _ (by omega), rfl, rfl, rfl, rfl, rfl⟩
theorem PInv.far {s t : St} (h : PInv s t) {c x : Int} (hc : ¬ c = 1) : PInv (issueS s c x) (mayS t c x) := by
  have hm := h.mays c c x Iff.rfl
  have e := issue_far (s := s) (x := x) hc
  exact ⟨e.2.2.1.trans hm.n, hm.m, e.2.2.2.1.trans hm.now, e.2.2.2.2.1.trans hm.life, e.2.2.2.2.2.1.trans hm.window, e.2.2.2.2.2.2.trans hm.bits, e.1.trans hm.next, e.2.1.trans hm.ats⟩
theorem PInv.near {s t : St} (h : PInv s t) (x : Int) : issueN s 1 x = issueN t 1 x ∧ issueB s 1 x = issueB t 1 x ∧ PInv (issueS s 1 x) (issueS t 1 x) := by
  have hm := h.mays 1 1 x Iff.rfl
  have hr := hm.room
  have hn : (mayS s 1 x).next 1 = (mayS t 1 x).next 1 := hm.next
  refine ⟨?_, ?_, ?_⟩
  · unfold issueN
    rw [hr]
    split
    · rfl
    · exact hn
  · unfold issueB
    rw [hr]
  · unfold issueS
    rw [hr]
    split
    · exact hm
    · refine ⟨hm.n, hm.m, hm.now, hm.life, hm.window, hm.bits, ?_, ?_⟩
      · show upd (mayS s 1 x).next 1 (NumPlain.add s.bits ((mayS s 1 x).next 1) 1) 1 = upd (mayS t 1 x).next 1 (NumPlain.add t.bits ((mayS t 1 x).next 1) 1) 1
        rw [upd_same, upd_same, hn, h.bits]
      · show upd (mayS s 1 x).ats 1 ((mayS s 1 x).ats 1 ++ [(mayS s 1 x).now]) 1 = upd (mayS t 1 x).ats 1 ((mayS t 1 x).ats 1 ++ [(mayS t 1 x).now]) 1
        rw [upd_same, upd_same, hm.ats, hm.now]

/-- Two guards apart; 'ow': what both own. -/
structure Two (B : Nat) (w : World) (g k : Nat) (s t : St) (ow : Nat → Prop) : Prop where
  st : ∃ o1 o2, Held B w g s o1 ∧ Held B w k t o2 ∧ (∀ j, o1 j → ¬ o2 j) ∧ (∀ j, o1 j → ow j) ∧ (∀ j, o2 j → ow j)
  lt : ∀ j, ow j → j < w.heap.size
def TwoPost (B g k : Nat) (s t : St) (ow : Nat → Prop) (v : Value) (w : World) (e : Ending) (w' : World) : Prop := e = .returned v ∧ Two B w' g k s t (More ow w w') ∧ Turned ow w w' ∧ Below B w w'
theorem more_lt {ow : Nat → Prop} {w w' : World} (h : ∀ j, ow j → j < w.heap.size) (hs : w.heap.size ≤ w'.heap.size) (j : Nat) (hj : More ow w w' j) : j < w'.heap.size := hj.elim (fun h1 => Nat.lt_of_lt_of_le (h j h1) hs) (fun h1 => h1.2)
theorem more_up {o1 ow : Nat → Prop} {w w' : World} (h : ∀ j, o1 j → ow j) (j : Nat) (hj : More o1 w w' j) : More ow w w' j := hj.elim (fun h1 => .inl (h j h1)) .inr
theorem two_left {B : Nat} {w w' : World} {g k : Nat} {s' t : St} {o1 o2 ow : Nat → Prop} (h2 : Held B w k t o2) (hd : ∀ j, o1 j → ¬ o2 j) (u1 : ∀ j, o1 j → ow j) (u2 : ∀ j, o2 j → ow j) (hl : ∀ j, ow j → j < w.heap.size) (h1 : Held B w' g s' (More o1 w w')) (ht : Turned o1 w w') : Two B w' g k s' t (More ow w w') :=
  ⟨⟨_, _, h1, h2.turned ht (fun j hj h => hd j h hj), fun j hj h => hj.elim (fun h3 => hd j h3 h) (fun h3 => by have := h2.lt j h; omega), more_up u1, fun j hj => .inl (u2 j hj)⟩, more_lt hl ht.size⟩
theorem two_right {B : Nat} {w w' : World} {g k : Nat} {s t' : St} {o1 o2 ow : Nat → Prop} (h1 : Held B w g s o1) (hd : ∀ j, o1 j → ¬ o2 j) (u1 : ∀ j, o1 j → ow j) (u2 : ∀ j, o2 j → ow j) (hl : ∀ j, ow j → j < w.heap.size) (h2 : Held B w' k t' (More o2 w w')) (ht : Turned o2 w w') : Two B w' g k s t' (More ow w w') :=
  ⟨⟨_, _, h1.turned ht (fun j hj h => hd j hj h), h2, fun j hj h => h.elim (fun h3 => hd j hj h3) (fun h3 => by have := h1.lt j hj; omega), fun j hj => .inl (u1 j hj), more_up u2⟩, more_lt hl ht.size⟩
theorem Two.below {B : Nat} {w w' : World} {g k : Nat} {s t : St} {ow : Nat → Prop} (h : Two B w g k s t ow) (hb : Below w.heap.size w w') : Two B w' g k s t ow := by
  obtain ⟨⟨o1, o2, h1, h2, hd, u1, u2⟩, hl⟩ := h
  exact ⟨⟨o1, o2, h1.below hb, h2.below hb, hd, u1, u2⟩, fun j hj => Nat.lt_of_lt_of_le (hl j hj) hb.size⟩
theorem Two.base {B : Nat} {w : World} {g k : Nat} {s t : St} {ow : Nat → Prop} (h : Two B w g k s t ow) : B ≤ w.heap.size := by
  obtain ⟨⟨o1, o2, h1, h2, hd, u1, u2⟩, hl⟩ := h
  exact h1.base
theorem Two.issueL {B : Nat} {w : World} {g k : Nat} {s t : St} {ow : Nat → Prop} (h : Two B w g k s t ow) (c x : Int) (hc : (Lit.int .i64 c).wf = true) : Calls Try.prog 14 #[.pointer (some ⟨g, 0, none⟩), .int .i64 c, .int .i64 x] w (TwoPost B g k (issueS s c x) t ow (.tuple #[.int .i64 (issueN s c x), .bool (issueB s c x)]) w) := by
  obtain ⟨⟨o1, o2, h1, h2, hd, u1, u2⟩, hl⟩ := h
  exact (h1.issue c x hc).mono fun e w' ⟨he, hh, ht, hb⟩ => ⟨he, two_left h2 hd u1 u2 hl hh ht, ht.mono u1, hb⟩
theorem Two.issueR {B : Nat} {w : World} {g k : Nat} {s t : St} {ow : Nat → Prop} (h : Two B w g k s t ow) (c x : Int) (hc : (Lit.int .i64 c).wf = true) : Calls Try.prog 14 #[.pointer (some ⟨k, 0, none⟩), .int .i64 c, .int .i64 x] w (TwoPost B g k s (issueS t c x) ow (.tuple #[.int .i64 (issueN t c x), .bool (issueB t c x)]) w) := by
  obtain ⟨⟨o1, o2, h1, h2, hd, u1, u2⟩, hl⟩ := h
  exact (h2.issue c x hc).mono fun e w' ⟨he, hh, ht, hb⟩ => ⟨he, two_right h1 hd u1 u2 hl hh ht, ht.mono u2, hb⟩
theorem Two.mayL {B : Nat} {w : World} {g k : Nat} {s t : St} {ow : Nat → Prop} (h : Two B w g k s t ow) (c x : Int) (hc : (Lit.int .i64 c).wf = true) : Calls Try.prog 12 #[.pointer (some ⟨g, 0, none⟩), .int .i64 c, .int .i64 x] w (TwoPost B g k (mayS s c x) t ow (.int .i64 (room (mayS s c x) c)) w) := by
  obtain ⟨⟨o1, o2, h1, h2, hd, u1, u2⟩, hl⟩ := h
  exact (h1.may c x hc).mono fun e w' ⟨he, hh, ht, hb⟩ => ⟨he, two_left h2 hd u1 u2 hl hh ht, ht.mono u1, hb⟩
theorem Two.mayR {B : Nat} {w : World} {g k : Nat} {s t : St} {ow : Nat → Prop} (h : Two B w g k s t ow) (c x : Int) (hc : (Lit.int .i64 c).wf = true) : Calls Try.prog 12 #[.pointer (some ⟨k, 0, none⟩), .int .i64 c, .int .i64 x] w (TwoPost B g k s (mayS t c x) ow (.int .i64 (room (mayS t c x) c)) w) := by
  obtain ⟨⟨o1, o2, h1, h2, hd, u1, u2⟩, hl⟩ := h
  exact (h2.may c x hc).mono fun e w' ⟨he, hh, ht, hb⟩ => ⟨he, two_right h1 hd u1 u2 hl hh ht, ht.mono u2, hb⟩
theorem Two.nextL {B : Nat} {w : World} {g k : Nat} {s t : St} {ow : Nat → Prop} (h : Two B w g k s t ow) (c : Int) (hc : (Lit.int .i64 c).wf = true) : Calls Try.prog 16 #[.pointer (some ⟨g, 0, none⟩), .int .i64 c] w fun e w' => e = .returned (.int .i64 (nextS s c)) ∧ w = w' := by
  obtain ⟨⟨o1, o2, h1, h2, hd, u1, u2⟩, hl⟩ := h
  exact h1.next c hc
theorem Two.nextR {B : Nat} {w : World} {g k : Nat} {s t : St} {ow : Nat → Prop} (h : Two B w g k s t ow) (c : Int) (hc : (Lit.int .i64 c).wf = true) : Calls Try.prog 16 #[.pointer (some ⟨k, 0, none⟩), .int .i64 c] w fun e w' => e = .returned (.int .i64 (nextS t c)) ∧ w = w' := by
  obtain ⟨⟨o1, o2, h1, h2, hd, u1, u2⟩, hl⟩ := h
  exact h2.next c hc
theorem cell_turned {ow : Nat → Prop} {w w' : World} {b o : Nat} {v : Value} (h : w.cell? ⟨b, o, none⟩ = some v) (t : Turned ow w w') (hn : ¬ ow b) : w'.cell? ⟨b, o, none⟩ = some v :=
  (World.cell?_of_block (t.keep b (World.block_lt_of_cell? w _ h) hn)).trans h

theorem apart_valid {wd lf : Int} (h0 : 1 ≤ wd) (h1 : wd ≤ 256) (h2 : 1 ≤ lf) (h3 : lf ≤ 256) : Valid 12 3 wd lf := ⟨.inl rfl, by decide, by decide, h0, by show wd ≤ 1024; omega, h2, by omega⟩
theorem apart_start (s : St) (h : s.n = 3) : PInv s s := ⟨h, h, rfl, rfl, rfl, rfl, rfl, rfl⟩

set_option maxRecDepth 100000 in
set_option maxHeartbeats 6400000 in
theorem apart_walk (a0 a1 : Int) (a2 : Option Addr) (len2 cap2 : Nat) (f2 : Nat → Nat → Int) (w : World) (wf0 : (Lit.int .u8 a0).wf = true) (wf1 : (Lit.int .u8 a1).wf = true)
    (w2 : (a2 = none ∧ len2 = 0 ∧ cap2 = 0) ∨ ∃ x, a2 = some x ∧ len2 ≤ cap2 ∧ cap2 ≤ maxLen ∧ ∀ i, i < len2 → ∀ (j : Nat) (k : IntKind), [IntKind.i64, .i64, .i64][j]? = some k → w.cell? (x.add (i * [IntKind.i64, .i64, .i64].length + j)) = some (.int k (f2 i j)) ∧ (Lit.int k (f2 i j)).wf = true) :
    Calls Try.prog 7 #[.int .u8 a0, .int .u8 a1, .slice a2 len2 cap2] w fun e w' => e = .returned (.bool true) ∧ Below w.heap.size w w' := by
  have hb : 0 ≤ a0 ∧ a0 ≤ 255 := by simpa [Lit.wf, IntKind.min, IntKind.max, IntKind.signed, IntKind.bits] using wf0
  have hc : 0 ≤ a1 ∧ a1 ≤ 255 := by simpa [Lit.wf, IntKind.min, IntKind.max, IntKind.signed, IntKind.bits] using wf1
  obtain ⟨hb0, hb1⟩ := hb
  obtain ⟨hc0, hc1⟩ := hc
  have hlen : len2 ≤ 9223372036854775807 := by
    rcases w2 with ⟨_, rfl, _⟩ | ⟨x, _, h1, h2, _⟩
    · omega
    · unfold maxLen at h2
      omega
  have W2 := Lib.hid w2
  clear wf0 wf1 w2
  by_cases hbig : 400 < len2
  · go_enter Try.func7, Try.ntmps7
    go_wp2_with fail
    refine (head_any _).mono ?_
    rintro e w1 ⟨rfl, B1⟩
    have A1 := Lib.hid B1
    clear B1
    go_wp2_with fail
    refine (new_held w.heap.size 12 3 (1 + a0) (1 + a1) _ (apart_valid (by omega) (by omega) (by omega) (by omega)) A1.out.size).mono ?_
    rintro e w2 ⟨g, rfl, H2, B2⟩
    have A2 := Lib.hid (A1.out.trans (B2.mono A1.out.size))
    have HH2 := Lib.hid H2
    clear H2 A1
    go_wp2_with fail
    refine (new_held w.heap.size 12 3 (1 + a0) (1 + a1) _ (apart_valid (by omega) (by omega) (by omega) (by omega)) A2.out.size).mono ?_
    rintro e w3 ⟨k, rfl, H3, B3⟩
    have A3 := Lib.hid (A2.out.trans (B3.mono A2.out.size))
    have T3 := Lib.hid (show ∃ ow, Two w.heap.size w3 g k (newS 12 3 (1 + a0) (1 + a1)) (newS 12 3 (1 + a0) (1 + a1)) ow from ⟨Since w1.heap.size w3, ⟨_, _, HH2.out.below B3, H3, fun j h1 h2 => by have := h1.2; have := h2.1; omega, fun j h1 => ⟨h1.1, by have := h1.2; have := B3.size; omega⟩, fun j h1 => ⟨by have := h1.1; have := B2.size; omega, h1.2⟩⟩, fun j h1 => h1.2⟩)
    clear H3 B3 B2 A2 HH2
    go_wp2_with fail
    go_ret
    exact ⟨rfl, A3.out⟩
  · go_enter Try.func7, Try.ntmps7
    go_wp2_with fail
    refine (head_any _).mono ?_
    rintro e w1 ⟨rfl, B1⟩
    have A1 := Lib.hid B1
    clear B1
    go_wp2_with fail
    refine (new_held w.heap.size 12 3 (1 + a0) (1 + a1) _ (apart_valid (by omega) (by omega) (by omega) (by omega)) A1.out.size).mono ?_
    rintro e w2 ⟨g, rfl, H2, B2⟩
    have A2 := Lib.hid (A1.out.trans (B2.mono A1.out.size))
    have HH2 := Lib.hid H2
    clear H2 A1
    go_wp2_with fail
    refine (new_held w.heap.size 12 3 (1 + a0) (1 + a1) _ (apart_valid (by omega) (by omega) (by omega) (by omega)) A2.out.size).mono ?_
    rintro e w3 ⟨k, rfl, H3, B3⟩
    have A3 := Lib.hid (A2.out.trans (B3.mono A2.out.size))
    have T3 := Lib.hid (show ∃ ow, Two w.heap.size w3 g k (newS 12 3 (1 + a0) (1 + a1)) (newS 12 3 (1 + a0) (1 + a1)) ow from ⟨Since w1.heap.size w3, ⟨_, _, HH2.out.below B3, H3, fun j h1 h2 => by have := h1.2; have := h2.1; omega, fun j h1 => ⟨h1.1, by have := h1.2; have := B3.size; omega⟩, fun j h1 => ⟨by have := h1.1; have := B2.size; omega, h1.2⟩⟩, fun j h1 => h1.2⟩)
    clear H3 B3 B2 A2 HH2
    go_wp2_with fail
    go_loopw [10] (fun iv wr => ∃ i : Nat, i ≤ len2 ∧ iv = .int .i64 i ∧ Hid (∃ s t ow, Two w.heap.size wr g k s t ow ∧ PInv s t) ∧ Hid (Below w.heap.size w wr)) (fun iv _ => len2 - (intOf iv).toNat)
    case atStart => exact ⟨0, Nat.zero_le _, rfl, Lib.hid (by obtain ⟨ow, h⟩ := T3.out; exact ⟨_, _, ow, h, apart_start _ rfl⟩), A3⟩
    case round =>
      obtain ⟨i, hi, rfl, hT, hB⟩ := hrel
      by_cases hlt : i < len2
      · obtain ⟨x, ex, hx⟩ := rowS_at W2.out i hlt
        subst ex
        have x0 := (hB.out.cell (p := x.add (i * 3 + 0)) (World.block_lt_of_cell? w _ (hx 0 .i64 rfl).1)).trans (hx 0 .i64 rfl).1
        have x1 := (hB.out.cell (p := x.add (i * 3 + 1)) (World.block_lt_of_cell? w _ (hx 1 .i64 rfl).1)).trans (hx 1 .i64 rfl).1
        have x2 := (hB.out.cell (p := x.add (i * 3 + 2)) (World.block_lt_of_cell? w _ (hx 2 .i64 rfl).1)).trans (hx 2 .i64 rfl).1
        rw [Nat.add_zero] at x0
        rw [add_field _ _ 1 (by omega)] at x1
        rw [add_field _ _ 2 (by omega)] at x2
        have WC := Lib.hid (hx 1 .i64 rfl).2
        have WN := Lib.hid (hx 2 .i64 rfl).2
        generalize f2 i 0 = what at *
        generalize f2 i 1 = c at *
        generalize f2 i 2 = nw at *
        obtain ⟨s, t, ow, T, P⟩ := hT.out
        clear hx
        have HP := Lib.hid P
        have HT := Lib.hid T
        clear T P
        by_cases hc1 : c = 1
        · subst hc1
          have hbs : ¬ ow wr.heap.size := fun h => Nat.lt_irrefl _ (HT.out.lt _ h)
          have HBS := Lib.hid hbs
          have HTA := Lib.hid (HT.out.below ((Below.refl _ _).alloc (Nat.le_refl _) (Obj.cells #[Value.int .i64 what, Value.int .i64 1, Value.int .i64 nw] 29)))
          have near := HP.out.near nw
          have NR := Lib.hid near
          clear hbs near
          go_wp2_with (first
            | (go_at_call 14; refine (HT4.out.issueR 1 nw WC.out).mono ?_; rintro e w5 ⟨rfl, T5, U5, B5⟩; have HT5 := Lib.hid T5; have HB5 := Lib.hid B5; have z2 : w5.cell? ⟨wr.heap.size, 2, none⟩ = some (.int .i64 nw) := cell_turned y2 U5 N4.out; have N5 := Lib.hid (show ¬ More _ w4 w5 wr.heap.size from fun h => h.elim N4.out (fun h => by have h5 := h.1; have h6 : wr.heap.size < w4.heap.size := World.block_lt_of_cell? w4 _ y2; omega)); clear T5 B5 U5)
            | (go_at_call 14; refine (HTA.out.issueL 1 nw WC.out).mono ?_; rintro e w4 ⟨rfl, T4, U4, B4⟩; rw [NR.out.1, NR.out.2.1]; have HT4 := Lib.hid T4; have HB4 := Lib.hid B4; have y1 : w4.cell? ⟨wr.heap.size, 1, none⟩ = some (.int .i64 1) := cell_turned (by simp) U4 HBS.out; have y2 : w4.cell? ⟨wr.heap.size, 2, none⟩ = some (.int .i64 nw) := cell_turned (by simp) U4 HBS.out; have N4 := Lib.hid (show ¬ More ow (wr.alloc (Obj.cells #[Value.int .i64 what, Value.int .i64 1, Value.int .i64 nw] 29)) w4 wr.heap.size from fun h => h.elim HBS.out (fun h => by have := h.1; rw [World.size_alloc] at this; omega)); clear T4 B4 U4))
          have Q := NR.out.2.2
          have HQ := Lib.hid Q
          have hnx := Q.nexts
          have Q2 := Q.mays 1 1 nw Iff.rfl
          have hrm := Q2.room
          have HQ2 := Lib.hid Q2
          clear y1 y2
          have HNX := Lib.hid hnx
          have HRM := Lib.hid hrm
          clear Q Q2 hnx hrm
          have HD5 := Lib.hid (HT5.out.below ((Below.refl _ _).drew))
          have ND5 := Lib.hid (show ¬ More _ w4 w5 wr.heap.size from N5.out)
          go_region_held3 (fun w' => w'.cell? ⟨wr.heap.size, 2, none⟩ = some (.int .i64 nw))
            (go_keep)
            (first
              | (go_at_call 16; (with_reducible refine (HD5.out.nextL 1 (by decide)).mono ?_); rintro e w' ⟨rfl, rfl⟩; rw [HNX.out])
              | (go_at_call 16; (with_reducible refine (HD5.out.nextR 1 (by decide)).mono ?_); rintro e w' ⟨rfl, rfl⟩)
              | (go_at_call 12; (with_reducible refine (HD5.out.mayL 1 nw (by decide)).mono ?_); rintro e w6 ⟨rfl, T6, U6, B6⟩; rw [HRM.out]; have HT6 := Lib.hid T6; have HB6 := Lib.hid B6; have v6 : w6.cell? ⟨wr.heap.size, 2, none⟩ = some (.int .i64 nw) := cell_turned (w := w5.drew) z2 U6 N5.out; clear T6 B6 U6)
              | (go_at_call 12; (with_reducible refine (HT6.out.mayR 1 nw (by decide)).mono ?_); rintro e w7 ⟨rfl, T7, U7, B7⟩; have HT7 := Lib.hid T7; have HB7 := Lib.hid (HB6.out.trans B7); have v7 : w7.cell? ⟨wr.heap.size, 2, none⟩ = some (.int .i64 nw) := cell_turned v6 U7 (fun h => h.elim N5.out (fun h => by have h5 := h.1; have h6 : wr.heap.size < w5.heap.size := World.block_lt_of_cell? w5 _ z2; have h7 : w5.drew.heap.size = w5.heap.size := rfl; omega)); clear T7 B7 U7)
              | (go_at_call 12; (with_reducible refine (HD5.out.mayR 1 nw (by decide)).mono ?_); rintro e w6 ⟨rfl, T6, U6, B6⟩; have HT6 := Lib.hid T6; have HB6 := Lib.hid B6; have v6 : w6.cell? ⟨wr.heap.size, 2, none⟩ = some (.int .i64 nw) := cell_turned (w := w5.drew) z2 U6 N5.out; clear T6 B6 U6)
              | (go_at_call 12; (with_reducible refine (HT6.out.mayL 1 nw (by decide)).mono ?_); rintro e w7 ⟨rfl, T7, U7, B7⟩; rw [HRM.out]; have HT7 := Lib.hid T7; have HB7 := Lib.hid (HB6.out.trans B7); have v7 : w7.cell? ⟨wr.heap.size, 2, none⟩ = some (.int .i64 nw) := cell_turned v6 U7 (fun h => h.elim N5.out (fun h => by have h5 := h.1; have h6 : wr.heap.size < w5.heap.size := World.block_lt_of_cell? w5 _ z2; have h7 : w5.drew.heap.size = w5.heap.size := rfl; omega)); clear T7 B7 U7))
          all_goals
            clear v6 v7
            go_wp2_with fail
            go_roundw
            case rel => exact ⟨i + 1, by omega, by go_num, Lib.hid ⟨_, _, _, HT7.out, HQ2.out⟩, Lib.hid ((((hB.out.alloc hB.out.size _).trans HB4.out).trans HB5.out).drew.trans HB7.out)⟩
            case measure => simp [intOf]; omega
        · have hcb : (c == 1) = false := beq_eq_false_iff_ne.2 hc1
          have hbs : ¬ ow wr.heap.size := fun h => Nat.lt_irrefl _ (HT.out.lt _ h)
          have HBS := Lib.hid hbs
          have HTA := Lib.hid (HT.out.below ((Below.refl _ _).alloc (Nat.le_refl _) (Obj.cells #[Value.int .i64 what, Value.int .i64 c, Value.int .i64 nw] 29)))
          clear hbs
          go_wp2_with (first
            | (go_at_call 14; refine (HTA.out.issueL c nw WC.out).mono ?_; rintro e w4 ⟨rfl, T4, U4, B4⟩; have HT4 := Lib.hid T4; have HB4 := Lib.hid B4; have y1 : w4.cell? ⟨wr.heap.size, 1, none⟩ = some (.int .i64 c) := cell_turned (by simp) U4 HBS.out; have y2 : w4.cell? ⟨wr.heap.size, 2, none⟩ = some (.int .i64 nw) := cell_turned (by simp) U4 HBS.out; have N4 := Lib.hid (show ¬ More ow (wr.alloc (Obj.cells #[Value.int .i64 what, Value.int .i64 c, Value.int .i64 nw] 29)) w4 wr.heap.size from fun h => h.elim HBS.out (fun h => by have := h.1; rw [World.size_alloc] at this; omega)); clear T4 B4 U4)
            | (go_at_call 12; refine (HT4.out.mayR c nw WC.out).mono ?_; rintro e w5 ⟨rfl, T5, U5, B5⟩; have HT5 := Lib.hid T5; have HB5 := Lib.hid B5; have z2 : w5.cell? ⟨wr.heap.size, 2, none⟩ = some (.int .i64 nw) := cell_turned y2 U5 N4.out; have N5 := Lib.hid (show ¬ More _ w4 w5 wr.heap.size from fun h => h.elim N4.out (fun h => by have h5 := h.1; have h6 : wr.heap.size < w4.heap.size := World.block_lt_of_cell? w4 _ y2; omega)); clear T5 B5 U5))
          have Q := HP.out.far (c := c) (x := nw) hc1
          have HQ := Lib.hid Q
          have hnx := Q.nexts
          have Q2 := Q.mays 1 1 nw Iff.rfl
          have hrm := Q2.room
          have HQ2 := Lib.hid Q2
          clear y1 y2
          have HNX := Lib.hid hnx
          have HRM := Lib.hid hrm
          clear Q Q2 hnx hrm
          have HD5 := Lib.hid (HT5.out.below ((Below.refl _ _).drew))
          have ND5 := Lib.hid (show ¬ More _ w4 w5 wr.heap.size from N5.out)
          go_region_held3 (fun w' => w'.cell? ⟨wr.heap.size, 2, none⟩ = some (.int .i64 nw))
            (go_keep)
            (first
              | (go_at_call 16; (with_reducible refine (HD5.out.nextL 1 (by decide)).mono ?_); rintro e w' ⟨rfl, rfl⟩; rw [HNX.out])
              | (go_at_call 16; (with_reducible refine (HD5.out.nextR 1 (by decide)).mono ?_); rintro e w' ⟨rfl, rfl⟩)
              | (go_at_call 12; (with_reducible refine (HD5.out.mayL 1 nw (by decide)).mono ?_); rintro e w6 ⟨rfl, T6, U6, B6⟩; rw [HRM.out]; have HT6 := Lib.hid T6; have HB6 := Lib.hid B6; have v6 : w6.cell? ⟨wr.heap.size, 2, none⟩ = some (.int .i64 nw) := cell_turned (w := w5.drew) z2 U6 N5.out; clear T6 B6 U6)
              | (go_at_call 12; (with_reducible refine (HT6.out.mayR 1 nw (by decide)).mono ?_); rintro e w7 ⟨rfl, T7, U7, B7⟩; have HT7 := Lib.hid T7; have HB7 := Lib.hid (HB6.out.trans B7); have v7 : w7.cell? ⟨wr.heap.size, 2, none⟩ = some (.int .i64 nw) := cell_turned v6 U7 (fun h => h.elim N5.out (fun h => by have h5 := h.1; have h6 : wr.heap.size < w5.heap.size := World.block_lt_of_cell? w5 _ z2; have h7 : w5.drew.heap.size = w5.heap.size := rfl; omega)); clear T7 B7 U7)
              | (go_at_call 12; (with_reducible refine (HD5.out.mayR 1 nw (by decide)).mono ?_); rintro e w6 ⟨rfl, T6, U6, B6⟩; have HT6 := Lib.hid T6; have HB6 := Lib.hid B6; have v6 : w6.cell? ⟨wr.heap.size, 2, none⟩ = some (.int .i64 nw) := cell_turned (w := w5.drew) z2 U6 N5.out; clear T6 B6 U6)
              | (go_at_call 12; (with_reducible refine (HT6.out.mayL 1 nw (by decide)).mono ?_); rintro e w7 ⟨rfl, T7, U7, B7⟩; rw [HRM.out]; have HT7 := Lib.hid T7; have HB7 := Lib.hid (HB6.out.trans B7); have v7 : w7.cell? ⟨wr.heap.size, 2, none⟩ = some (.int .i64 nw) := cell_turned v6 U7 (fun h => h.elim N5.out (fun h => by have h5 := h.1; have h6 : wr.heap.size < w5.heap.size := World.block_lt_of_cell? w5 _ z2; have h7 : w5.drew.heap.size = w5.heap.size := rfl; omega)); clear T7 B7 U7))
          all_goals
            clear v6 v7
            go_wp2_with fail
            go_roundw
            case rel => exact ⟨i + 1, by omega, by go_num, Lib.hid ⟨_, _, _, HT7.out, HQ2.out⟩, Lib.hid ((((hB.out.alloc hB.out.size _).trans HB4.out).trans HB5.out).drew.trans HB7.out)⟩
            case measure => simp [intOf]; omega
      · go_wp2_with fail
        go_ret
        exact ⟨rfl, hB.out⟩
end Go.Proofs.Ytbaebohhbnomoaa.G
