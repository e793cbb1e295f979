/- GuardPlays: both guards step alike: plain Lean. -/
import Derived.Test.YtbaebohhbnomoaaRefIssB
import Derived.Test.YtbaebohhbnomoaaRefIssC
namespace Go.Proofs.Ytbaebohhbnomoaa.G
open Go.RowKit
set_option linter.unusedVariables false
set_option linter.unusedSimpArgs false

theorem rissue_any (B r : Nat) (s : RSt) (own : Nat → Prop) (c now : Int) (w : World) (h : RHeld B w r s own) (ok : ROk s) :
    Calls Try.prog 15 #[.pointer (some ⟨r, 0, none⟩), .int .i64 c, .int .i64 now] w (RIssuePost B r s own c now w) := by
  by_cases hr : rroom (rtick s now) c = 0
  · exact rissue_no B r s own c now w h ok hr
  · have hin : 0 ≤ c ∧ c < (s.nx.length : Int) := Classical.byContradiction fun hn => hr (if_neg hn)
    obtain ⟨m, rfl⟩ : ∃ m : Nat, c = (m : Int) := ⟨c.toNat, by omega⟩
    by_cases hn : s.ats m = []
    · exact rissue_nil B r s own m now w h ok hr (by omega) hn
    · exact rissue_some B r s own m now w h ok hr (by omega) hn

theorem keep_later {now t life : Int} (h : now ≤ t) (xs : List Int) : keep t life (keep now life xs) = keep t life xs := by
  unfold keep
  rw [List.filter_filter]
  congr 1
  funext x
  unfold old
  by_cases h1 : life ≤ t - x
  · simp [h1]
  · have h2 : ¬ life ≤ now - x := by omega
    simp [h1, h2]
theorem keep_app (t life : Int) (xs ys : List Int) : keep t life (xs ++ ys) = keep t life xs ++ keep t life ys := by
  unfold keep
  rw [List.filter_append]

structure Sim (s : St) (q : RSt) (k : Nat) : Prop where
  bits : q.bits = s.bits
  window : q.window = s.window
  life : q.life = s.life
  now : q.now = s.now
  n : q.nx.length = s.n
  next : ∀ i, i < s.n → gi q.nx i = s.next i
  live : ∀ i, i < s.n → keep s.now s.life (s.ats i) = keep s.now s.life (q.ats i)
  fine : ∀ i, i < s.n → Fine (q.ats i)
  few : ∀ i, i < s.n → (q.ats i).length ≤ k
theorem Sim.rok {s : St} {q : RSt} {k : Nat} (h : Sim s q k) (ok : Ok s) (hk : k ≤ 1000) : ROk q :=
  ⟨h.bits ▸ ok.bits, h.window ▸ ok.w0, h.window ▸ ok.w1, h.life ▸ ok.l0, h.life ▸ ok.l1, h.now ▸ ok.n0, h.now ▸ ok.n1,
    fun i hi => by rw [h.next i (h.n ▸ hi), h.bits]; exact ok.next i (h.n ▸ hi), fun i hi => h.fine i (h.n ▸ hi), fun i hi => Nat.le_trans (h.few i (h.n ▸ hi)) hk⟩
theorem Sim.tick {s : St} {q : RSt} {k : Nat} (h : Sim s q k) (now : Int) : rtk q now = tk s now := by
  unfold rtk tk
  rw [h.now]
theorem Sim.later {s : St} {q : RSt} {k : Nat} (h : Sim s q k) {t : Int} (ht : s.now ≤ t) (i : Nat) (hi : i < s.n) : keep t s.life (s.ats i) = keep t s.life (q.ats i) := by
  rw [← keep_later ht (s.ats i), h.live i hi, keep_later ht]
theorem Sim.may {s : St} {q : RSt} {k : Nat} (h : Sim s q k) (ok : Ok s) (c now : Int) : Sim (mayS s c now) (rtick q now) k ∧ room (mayS s c now) c = rroom (rtick q now) c := by
  have ht := tk_in ok now
  have htk := h.tick now
  by_cases hc : 0 ≤ c ∧ c < s.n
  · have hi : c.toNat < s.n := by omega
    have hm : mayS s c now = cutAt s (tk s now) c.toNat := if_pos hc
    rw [hm]
    refine ⟨⟨h.bits, h.window, h.life, htk, h.n, h.next, fun i hi => ?_, h.fine, h.few⟩, ?_⟩
    · show keep (tk s now) s.life (upd s.ats c.toNat (keep (tk s now) s.life (s.ats c.toNat)) i) = keep (tk s now) s.life (q.ats i)
      by_cases e : i = c.toNat
      · subst e
        rw [upd_same, keep_later (Int.le_refl _)]
        exact h.later ht.1 _ hi
      · rw [upd_other _ _ e]
        exact h.later ht.1 _ hi
    · have e1 : room (cutAt s (tk s now) c.toNat) c = s.window - ((cutAt s (tk s now) c.toNat).ats c.toNat).length := if_pos hc
      have e2 : rroom (rtick q now) c = q.window - (((q.ats c.toNat).filter (alive (rtk q now) q.life)).length : Int) := if_pos (show 0 ≤ c ∧ c < (q.nx.length : Int) by rw [h.n]; exact hc)
      rw [e1, e2, ← keep_alive, htk, h.life, h.window]
      show s.window - ((upd s.ats c.toNat (keep (tk s now) s.life (s.ats c.toNat)) c.toNat).length : Int) = _
      rw [upd_same, h.later ht.1 _ hi]
  · have hm : mayS s c now = { s with now := tk s now } := if_neg hc
    rw [hm]
    refine ⟨⟨h.bits, h.window, h.life, htk, h.n, h.next, fun i hi => h.later ht.1 i hi, h.fine, h.few⟩, ?_⟩
    have e1 : room { s with now := tk s now } c = 0 := if_neg hc
    have e2 : rroom (rtick q now) c = 0 := if_neg (show ¬ (0 ≤ c ∧ c < (q.nx.length : Int)) by rw [h.n]; exact hc)
    rw [e1, e2]
theorem Sim.mono {s : St} {q : RSt} {k j : Nat} (h : Sim s q k) (hk : k ≤ j) : Sim s q j := ⟨h.bits, h.window, h.life, h.now, h.n, h.next, h.live, h.fine, fun i hi => Nat.le_trans (h.few i hi) hk⟩
theorem gi_set (xs : List Int) (m i : Nat) (v : Int) (hm : m < xs.length) : gi (xs.set m v) i = if i = m then v else gi xs i := by
  unfold gi
  rw [List.getD_eq_getElem?_getD, List.getElem?_set]
  by_cases h : i = m
  · subst h
    simp [hm]
  · rw [if_neg (fun e => h e.symm), if_neg h, List.getD_eq_getElem?_getD]
theorem Sim.issue {s : St} {q : RSt} {k : Nat} (h : Sim s q k) (ok : Ok s) (c now : Int) : Sim (issueS s c now) (rissueS q c now) (k + 1) ∧ issueN s c now = rissueN q c now ∧ issueB s c now = rissueB q c now := by
  obtain ⟨h1, hr⟩ := h.may ok c now
  have hb := mayS_bits s c now
  have htk := h.tick now
  by_cases h0 : room (mayS s c now) c = 0
  · have h0' : rroom (rtick q now) c = 0 := by rw [← hr]; exact h0
    have e1 : issueS s c now = mayS s c now := if_pos h0
    have e2 : rissueS q c now = rtick q now := if_pos h0'
    rw [e1, e2]
    refine ⟨h1.mono (Nat.le_succ _), ?_, ?_⟩
    · unfold issueN rissueN
      rw [if_pos h0, if_pos h0']
    · unfold issueB rissueB
      rw [hr]
  · have h0' : ¬ rroom (rtick q now) c = 0 := by rw [← hr]; exact h0
    have hin := room_in h0
    have hi : c.toNat < (mayS s c now).n := by omega
    have hi2 : c.toNat < s.n := hb.2.1 ▸ hi
    have hq : c.toNat < q.nx.length := by rw [h.n]; exact hi2
    have ok1 := ok.may c now
    refine ⟨?_, ?_, ?_⟩
    · unfold issueS rissueS
      rw [if_neg h0, if_neg h0']
      refine ⟨h1.bits, h1.window, h1.life, h1.now, ?_, fun i hi => ?_, fun i hi => ?_, fun i hi => ?_, fun i hi => ?_⟩
      · show (q.nx.set c.toNat _).length = (mayS s c now).n
        rw [List.length_set]
        exact h1.n
      · show gi (q.nx.set c.toNat (NumPlain.add q.bits (gi q.nx c.toNat) 1)) i = upd (mayS s c now).next c.toNat (NumPlain.add s.bits ((mayS s c now).next c.toNat) 1) i
        rw [gi_set _ _ _ _ hq]
        by_cases e : i = c.toNat
        · subst e
          rw [if_pos rfl, upd_same, h.bits, h.next _ hi2, hb.2.2.2.2.2]
        · rw [if_neg e, upd_other _ _ e]
          exact h1.next i hi
      · show keep (mayS s c now).now (mayS s c now).life (upd (mayS s c now).ats c.toNat ((mayS s c now).ats c.toNat ++ [(mayS s c now).now]) i) = keep (mayS s c now).now (mayS s c now).life (upd q.ats c.toNat (q.ats c.toNat ++ [rtk q now]) i)
        by_cases e : i = c.toNat
        · subst e
          rw [upd_same, upd_same, keep_app, keep_app, h1.live _ hi, htk, hb.2.2.2.2.1]
          rfl
        · rw [upd_other _ _ e, upd_other _ _ e]
          exact h1.live i hi
      · show Fine (upd q.ats c.toNat (q.ats c.toNat ++ [rtk q now]) i)
        by_cases e : i = c.toNat
        · subst e
          rw [upd_same, htk]
          have := tk_in ok now
          have := ok.n0
          exact (h.fine _ hi2).snoc (by omega) (by omega)
        · rw [upd_other _ _ e]
          exact h1.fine i hi
      · show (upd q.ats c.toNat (q.ats c.toNat ++ [rtk q now]) i).length ≤ k + 1
        by_cases e : i = c.toNat
        · subst e
          rw [upd_same]
          have := h.few _ hi2
          simp
          omega
        · rw [upd_other _ _ e]
          have := h1.few i hi
          have e2 : (rtick q now).ats i = q.ats i := rfl
          rw [e2] at this
          omega
    · unfold issueN rissueN
      rw [if_neg h0, if_neg h0', hb.2.2.2.2.2]
      exact (h.next _ hi2).symm
    · unfold issueB rissueB
      rw [hr]
theorem Sim.nexts {s : St} {q : RSt} {k : Nat} (h : Sim s q k) (c : Int) : rnextS q c = nextS s c := by
  unfold rnextS nextS
  rw [h.n]
  by_cases hc : 0 ≤ c ∧ c < (s.n : Int)
  · rw [if_pos hc, if_pos hc]
    exact h.next _ (by omega)
  · rw [if_neg hc, if_neg hc]
theorem Sim.start (bits classes window life : Int) (hc : 0 ≤ classes) : Sim (newS bits classes window life) (rnewS bits classes window life) 0 := by
  refine ⟨rfl, rfl, rfl, rfl, ?_, fun i hi => ?_, fun i hi => rfl, fun i hi j hj => absurd hj (Nat.not_lt_zero j), fun i hi => Nat.le_refl _⟩
  · show (List.replicate classes.toNat (0 : Int)).length = classes.toNat
    simp
  · show gi (List.replicate classes.toNat 0) i = 0
    unfold gi
    rw [List.getD_eq_getElem?_getD, List.getElem?_replicate]
    split <;> rfl

/-- The guard, and the document's, beside each other. -/
structure Both (B : Nat) (w : World) (g r : Nat) (s : St) (q : RSt) (ow : Nat → Prop) : Prop where
  st : ∃ o1 o2, Held B w g s o1 ∧ RHeld B w r q o2 ∧ (∀ j, o1 j → ¬ o2 j) ∧ (∀ j, o1 j → ow j) ∧ (∀ j, o2 j → ow j)
  lt : ∀ j, ow j → j < w.heap.size
def BothPost (B g r : Nat) (s : St) (q : RSt) (ow : Nat → Prop) (v : Value) (w : World) (e : Ending) (w' : World) : Prop := e = .returned v ∧ Both B w' g r s q (More ow w w') ∧ Turned ow w w' ∧ Below B w w'
theorem RHeld.under {B : Nat} {w w' : World} {r : Nat} {q : RSt} {own : Nat → Prop} (h : RHeld B w r q own) (t : Turned own w w') : Below B w w' := t.below (fun k hk ho => by have := h.lo k ho; omega) h.base
theorem Both.below {B : Nat} {w w' : World} {g r : Nat} {s : St} {q : RSt} {ow : Nat → Prop} (h : Both B w g r s q ow) (hb : Below w.heap.size w w') : Both B w' g r s q ow := by
  obtain ⟨⟨o1, o2, h1, h2, hd, u1, u2⟩, hl⟩ := h
  exact ⟨⟨o1, o2, h1.below hb, h2.below hb, hd, u1, u2⟩, fun j hj => Nat.lt_of_lt_of_le (hl j hj) hb.size⟩
theorem Both.ok {B : Nat} {w : World} {g r : Nat} {s : St} {q : RSt} {ow : Nat → Prop} (h : Both B w g r s q ow) : Ok s := by
  obtain ⟨⟨o1, o2, h1, h2, hd, u1, u2⟩, hl⟩ := h
  exact h1.ok
theorem both_left {B : Nat} {w w' : World} {g r : Nat} {s' : St} {q : RSt} {o1 o2 ow : Nat → Prop} (h2 : RHeld B w r q o2) (hd : ∀ j, o1 j → ¬ o2 j) (u1 : ∀ j, o1 j → ow j) (u2 : ∀ j, o2 j → ow j) (hl : ∀ j, ow j → j < w.heap.size) (h1 : Held B w' g s' (More o1 w w')) (ht : Turned o1 w w') : Both B w' g r s' q (More ow w w') :=
  ⟨⟨_, _, h1, h2.turned ht (fun j hj h => hd j h hj), fun j hj h => hj.elim (fun h3 => hd j h3 h) (fun h3 => by have := h2.lt j h; omega), more_up u1, fun j hj => .inl (u2 j hj)⟩, more_lt hl ht.size⟩
theorem both_right {B : Nat} {w w' : World} {g r : Nat} {s : St} {q' : RSt} {o1 o2 ow : Nat → Prop} (h1 : Held B w g s o1) (hd : ∀ j, o1 j → ¬ o2 j) (u1 : ∀ j, o1 j → ow j) (u2 : ∀ j, o2 j → ow j) (hl : ∀ j, ow j → j < w.heap.size) (h2 : RHeld B w' r q' (More o2 w w')) (ht : Turned o2 w w') : Both B w' g r s q' (More ow w w') :=
  ⟨⟨_, _, h1.turned ht (fun j hj h => hd j hj h), h2, fun j hj h => h.elim (fun h3 => hd j hj h3) (fun h3 => by have := h1.lt j hj; omega), fun j hj => .inl (u1 j hj), more_up u2⟩, more_lt hl ht.size⟩
theorem Both.issueL {B : Nat} {w : World} {g r : Nat} {s : St} {q : RSt} {ow : Nat → Prop} (h : Both B w g r s q ow) (c x : Int) (hc : (Lit.int .i64 c).wf = true) : Calls Try.prog 14 #[.pointer (some ⟨g, 0, none⟩), .int .i64 c, .int .i64 x] w (BothPost B g r (issueS s c x) q ow (.tuple #[.int .i64 (issueN s c x), .bool (issueB s c x)]) w) := by
  obtain ⟨⟨o1, o2, h1, h2, hd, u1, u2⟩, hl⟩ := h
  exact (h1.issue c x hc).mono fun e w' ⟨he, hh, ht, hb⟩ => ⟨he, both_left h2 hd u1 u2 hl hh ht, ht.mono u1, hb⟩
theorem Both.mayL {B : Nat} {w : World} {g r : Nat} {s : St} {q : RSt} {ow : Nat → Prop} (h : Both B w g r s q ow) (c x : Int) (hc : (Lit.int .i64 c).wf = true) : Calls Try.prog 12 #[.pointer (some ⟨g, 0, none⟩), .int .i64 c, .int .i64 x] w (BothPost B g r (mayS s c x) q ow (.int .i64 (room (mayS s c x) c)) w) := by
  obtain ⟨⟨o1, o2, h1, h2, hd, u1, u2⟩, hl⟩ := h
  exact (h1.may c x hc).mono fun e w' ⟨he, hh, ht, hb⟩ => ⟨he, both_left h2 hd u1 u2 hl hh ht, ht.mono u1, hb⟩
theorem Both.issueR {B : Nat} {w : World} {g r : Nat} {s : St} {q : RSt} {ow : Nat → Prop} (h : Both B w g r s q ow) (c x : Int) (ok : ROk q) : Calls Try.prog 15 #[.pointer (some ⟨r, 0, none⟩), .int .i64 c, .int .i64 x] w (BothPost B g r s (rissueS q c x) ow (.tuple #[.int .i64 (rissueN q c x), .bool (rissueB q c x)]) w) := by
  obtain ⟨⟨o1, o2, h1, h2, hd, u1, u2⟩, hl⟩ := h
  exact (rissue_any B r q o2 c x w h2 ok).mono fun e w' ⟨he, hh, ht⟩ => ⟨he, both_right h1 hd u1 u2 hl hh ht, ht.mono u2, h2.under ht⟩
theorem Both.mayR {B : Nat} {w : World} {g r : Nat} {s : St} {q : RSt} {ow : Nat → Prop} (h : Both B w g r s q ow) (c x : Int) (ok : ROk q) : Calls Try.prog 13 #[.pointer (some ⟨r, 0, none⟩), .int .i64 c, .int .i64 x] w (BothPost B g r s (rtick q x) ow (.int .i64 (rroom (rtick q x) c)) w) := by
  obtain ⟨⟨o1, o2, h1, h2, hd, u1, u2⟩, hl⟩ := h
  exact (rmay B r q o2 c x w h2 ok).mono fun e w' ⟨he, hh, ht⟩ => ⟨he, both_right h1 hd u1 u2 hl (hh.more h2.lt h2.base ht.size) ht, ht.mono u2, h2.under ht⟩
theorem Both.nextL {B : Nat} {w : World} {g r : Nat} {s : St} {q : RSt} {ow : Nat → Prop} (h : Both B w g r s q ow) (c : Int) (hc : (Lit.int .i64 c).wf = true) : Calls Try.prog 16 #[.pointer (some ⟨g, 0, none⟩), .int .i64 c] w fun e w' => e = .returned (.int .i64 (nextS s c)) ∧ w = w' := by
  obtain ⟨⟨o1, o2, h1, h2, hd, u1, u2⟩, hl⟩ := h
  exact h1.next c hc
theorem Both.nextR {B : Nat} {w : World} {g r : Nat} {s : St} {q : RSt} {ow : Nat → Prop} (h : Both B w g r s q ow) (c : Int) : Calls Try.prog 17 #[.pointer (some ⟨r, 0, none⟩), .int .i64 c] w fun e w' => e = .returned (.int .i64 (rnextS q c)) ∧ w = w' := by
  obtain ⟨⟨o1, o2, h1, h2, hd, u1, u2⟩, hl⟩ := h
  exact rnext B r q o2 c w h2
end Go.Proofs.Ytbaebohhbnomoaa.G
