/- GuardMany: of a class at most window are issued within any life ticks, and those that live are told apart by which is ahead. No condition. -/
import Derived.Test.YtbaebohhbnomoaaGLaw
import Derived.Test.YtbaebohhbnomoaaRefNum
import Derived.Deep.QuietTactic
import Derived.BigQuiet
import Derived.OwnWalk
import Derived.Deep.AppendLies
namespace Go.Proofs.Ytbaebohhbnomoaa.G
open Go.RowKit
set_option linter.unusedVariables false
set_option linter.unusedSimpArgs false

def alive (now lf t : Int) : Bool := decide (now - t < lf)
theorem keep_alive (now lf : Int) (xs : List Int) : keep now lf xs = xs.filter (alive now lf) := by
  unfold keep
  congr 1
  funext t
  unfold old alive
  by_cases h : lf ≤ now - t
  · simp [h]
  · simp [h]
    omega
/-- Times that only rise, none later than now. -/
structure Rises (xs : List Int) (now : Int) : Prop where
  up : ∀ i j, i ≤ j → j < xs.length → gi xs i ≤ gi xs j
  lo : ∀ j, j < xs.length → 0 ≤ gi xs j
  hi : ∀ j, j < xs.length → gi xs j ≤ now
theorem gi_snoc_lt {xs : List Int} {t : Int} {j : Nat} (h : j < xs.length) : gi (xs ++ [t]) j = gi xs j := by
  unfold gi
  rw [List.getD_eq_getElem?_getD, List.getElem?_append_left h, List.getD_eq_getElem?_getD]
theorem gi_snoc_eq {xs : List Int} {t : Int} : gi (xs ++ [t]) xs.length = t := by
  unfold gi
  simp
theorem Rises.later {xs : List Int} {now now' : Int} (h : Rises xs now) (hn : now ≤ now') : Rises xs now' := ⟨h.up, h.lo, fun j hj => Int.le_trans (h.hi j hj) hn⟩
theorem Rises.snoc {xs : List Int} {now : Int} (h : Rises xs now) (h0 : 0 ≤ now) : Rises (xs ++ [now]) now := by
  refine ⟨fun i j hij hj => ?_, fun j hj => ?_, fun j hj => ?_⟩
  · simp at hj
    by_cases hjl : j < xs.length
    · rw [gi_snoc_lt hjl, gi_snoc_lt (by omega)]
      exact h.up i j hij hjl
    · obtain rfl : j = xs.length := by omega
      rw [gi_snoc_eq]
      by_cases hil : i < xs.length
      · rw [gi_snoc_lt hil]
        exact h.hi i hil
      · obtain rfl : i = xs.length := by omega
        rw [gi_snoc_eq]
        exact Int.le_refl _
  · simp at hj
    by_cases hjl : j < xs.length
    · rw [gi_snoc_lt hjl]
      exact h.lo j hjl
    · obtain rfl : j = xs.length := by omega
      rw [gi_snoc_eq]
      exact h0
  · simp at hj
    by_cases hjl : j < xs.length
    · rw [gi_snoc_lt hjl]
      exact h.hi j hjl
    · obtain rfl : j = xs.length := by omega
      rw [gi_snoc_eq]
      exact Int.le_refl _
theorem filter_later {xs : List Int} {now now' lf : Int} (hn : now ≤ now') : (xs.filter (alive now lf)).filter (alive now' lf) = xs.filter (alive now' lf) := by
  rw [List.filter_filter]
  congr 1
  funext t
  unfold alive
  by_cases h : now' - t < lf
  · simp [h]
    omega
  · simp [h]
/-- Behind one that lives all live. -/
theorem Rises.suffix {xs : List Int} {now lf : Int} (h : Rises xs now) {k : Nat} (hk : k < xs.length) (ha : alive now lf (gi xs k) = true) : xs.length - k ≤ (xs.filter (alive now lf)).length := by
  have e : xs.filter (alive now lf) = (xs.take k).filter (alive now lf) ++ (xs.drop k).filter (alive now lf) := by rw [← List.filter_append, List.take_append_drop]
  have hall : (xs.drop k).filter (alive now lf) = xs.drop k := by
    rw [List.filter_eq_self]
    intro t ht
    obtain ⟨j, hj, rfl⟩ := List.mem_iff_getElem.1 ht
    have hj' : k + j < xs.length := by simp at hj; omega
    have hup := h.up k (k + j) (by omega) hj'
    have hg : gi xs (k + j) = (xs.drop k)[j] := by
      unfold gi
      rw [List.getD_eq_getElem?_getD, List.getElem?_eq_getElem hj']
      simp
    rw [← hg]
    unfold alive at *
    simp at *
    omega
  rw [e, hall]
  simp

structure MInv (s : St) (bits wd lf now : Int) (A S : List Int) : Prop where
  bits_ : s.bits = bits
  window : s.window = wd
  life : s.life = lf
  n : s.n = 1
  now_ : s.now = now
  next : s.next 0 = (A.length : Int) % NumPlain.all bits
  ats : s.ats 0 = A.filter (alive now lf)
  rises : Rises A now
  slen : S.length = A.length
  seq : ∀ k : Nat, k < A.length → gi S k = (k : Int) % NumPlain.all bits

theorem MInv.less {s : St} {bits wd lf now now' : Int} {A S : List Int} (h : MInv s bits wd lf now A S) (ok : Ok s) (hb : bits = 12 ∨ bits = 24) (hw : wd ≤ 1024) (hn : now ≤ now') {k : Nat} (hk : k < A.length) (ha : now' - gi A k < lf) :
    NumPlain.diffM (NumPlain.all bits) (gi S k) (nextS s 0) < 0 ∧ 0 ≤ gi S k ∧ gi S k < NumPlain.all bits ∧ 0 ≤ nextS s 0 ∧ nextS s 0 < NumPlain.all bits := by
  have h1 := (h.rises.later hn).suffix hk (now := now') (lf := lf) (by unfold alive; simp [ha])
  have h2 : (A.filter (alive now' lf)).length ≤ (A.filter (alive now lf)).length := by
    rw [← filter_later hn]
    exact List.length_filter_le _ _
  have h3 := ok.room 0 (by rw [h.n]; decide)
  rw [h.ats, h.window] at h3
  have h4 : nextS s 0 = (A.length : Int) % NumPlain.all bits := by
    unfold nextS
    rw [h.n, if_pos (by decide)]
    exact h.next
  rw [h.seq k hk, h4]
  unfold NumPlain.diffM
  rcases hb with rfl | rfl
  · rw [NumPlain.all_12]
    refine ⟨?_, by omega, by omega, by omega, by omega⟩
    split <;> omega
  · rw [NumPlain.all_24]
    refine ⟨?_, by omega, by omega, by omega, by omega⟩
    split <;> omega

/-- One step: the row and the numbers behind it. -/
theorem MInv.step {s : St} {bits wd lf now now' : Int} {A S : List Int} (h : MInv s bits wd lf now A S) (ok : Ok s) (hb : bits = 12 ∨ bits = 24) (hl : 1 ≤ lf) (hn : now ≤ now') (h1 : now' ≤ 1000000) :
    issueB s 0 now' = decide (((A.filter (alive now' lf)).length : Int) < wd) ∧
    (issueB s 0 now' = true → issueN s 0 now' = (A.length : Int) % NumPlain.all bits ∧ MInv (issueS s 0 now') bits wd lf now' (A ++ [now']) (S ++ [issueN s 0 now'])) ∧
    (issueB s 0 now' = false → MInv (issueS s 0 now') bits wd lf now' A S) := by
  have ht : tk s now' = now' := by
    unfold tk
    have := h.now_
    split <;> split <;> omega
  have hin : (0 : Int) ≤ 0 ∧ (0 : Int) < s.n := by rw [h.n]; decide
  have hm : mayS s 0 now' = cutAt s now' 0 := by
    unfold mayS
    rw [if_pos hin, ht]
    rfl
  have hc : (cutAt s now' 0).ats 0 = A.filter (alive now' lf) := by
    show upd s.ats 0 (keep now' s.life (s.ats 0)) 0 = _
    rw [upd_same, h.life, h.ats, keep_alive, filter_later hn]
  have hr : room (cutAt s now' 0) 0 = wd - ((A.filter (alive now' lf)).length : Int) := by
    unfold room
    rw [show (cutAt s now' 0).n = s.n from rfl, if_pos hin, show (0 : Int).toNat = 0 from rfl, hc, show (cutAt s now' 0).window = s.window from rfl, h.window]
  have hle : ((A.filter (alive now' lf)).length : Int) ≤ wd := by
    have h2 : (A.filter (alive now' lf)).length ≤ (A.filter (alive now lf)).length := by
      rw [← filter_later hn]
      exact List.length_filter_le _ _
    have h3 := ok.room 0 (by rw [h.n]; decide)
    rw [h.ats, h.window] at h3
    omega
  have h0 : 0 ≤ now := by have := ok.n0; rw [h.now_] at this; exact this
  refine ⟨?_, fun ht1 => ?_, fun hf1 => ?_⟩
  · unfold issueB
    rw [hm, hr]
    by_cases e : ((A.filter (alive now' lf)).length : Int) < wd
    · rw [decide_eq_true e, decide_eq_false (by omega)]
      rfl
    · rw [decide_eq_false e, decide_eq_true (by omega)]
      rfl
  · have hne : ¬ room (mayS s 0 now') 0 = 0 := by
      unfold issueB at ht1
      intro e
      rw [decide_eq_true e] at ht1
      cases ht1
    have hN : issueN s 0 now' = (A.length : Int) % NumPlain.all bits := by
      unfold issueN
      rw [if_neg hne, hm]
      exact h.next
    refine ⟨hN, ?_⟩
    have hnx : 0 ≤ s.next 0 ∧ s.next 0 < NumPlain.all s.bits := ok.next 0 (by rw [h.n]; decide)
    unfold issueS
    rw [if_neg hne, hm]
    refine ⟨h.bits_, h.window, h.life, h.n, rfl, ?_, ?_, (h.rises.later hn).snoc (by omega), by simp [h.slen], fun k hk => ?_⟩
    · show upd (cutAt s now' 0).next (0 : Int).toNat (NumPlain.add s.bits ((cutAt s now' 0).next (0 : Int).toNat) 1) 0 = _
      rw [show (0 : Int).toNat = 0 from rfl, upd_same]
      show NumPlain.add s.bits (s.next 0) 1 = _
      rw [(add_in (by rw [h.bits_]; exact hb) hnx.1 hnx.2).1, h.bits_, h.next]
      simp
    · show upd (cutAt s now' 0).ats 0 ((cutAt s now' 0).ats 0 ++ [(cutAt s now' 0).now]) 0 = _
      rw [upd_same, hc, show (cutAt s now' 0).now = now' from rfl, List.filter_append]
      have e : [now'].filter (alive now' lf) = [now'] := by
        rw [List.filter_eq_self]
        intro t ht
        have ht' : t = now' := by simpa using ht
        unfold alive
        rw [ht']
        exact decide_eq_true (by omega)
      rw [e]
    · simp at hk
      by_cases hkl : k < A.length
      · rw [gi_snoc_lt (by rw [h.slen]; exact hkl)]
        exact h.seq k hkl
      · obtain rfl : k = A.length := by omega
        have e : gi (S ++ [issueN s 0 now']) A.length = issueN s 0 now' := by rw [← h.slen]; exact gi_snoc_eq
        rw [e, hN]
  · have he : room (mayS s 0 now') 0 = 0 := by
      unfold issueB at hf1
      simpa using hf1
    unfold issueS
    rw [if_pos he, hm]
    exact ⟨h.bits_, h.window, h.life, h.n, rfl, h.next, hc, h.rises.later hn, h.slen, h.seq⟩

/-! ### rows of ints of the call's own -/
def RowI (w : World) (v : Value) (xs : List Int) : Prop := w.ownsRow 0 3 1 v xs.length (ints xs)
theorem RowI.kept {w w' : World} {v : Value} {xs : List Int} (h : RowI w v xs) (hk : ∀ k, v.ownBlock = some k → w'.heap[k]? = w.heap[k]?) : RowI w' v xs := by
  refine ⟨h.1, ?_⟩
  rcases h.2 with h2 | ⟨g, cap, cur, rfl, hb, hg, r⟩
  · exact .inl h2
  · exact .inr ⟨g, cap, cur, rfl, hb, (hk g rfl).trans hg, r⟩
theorem RowI.lt {w : World} {v : Value} {xs : List Int} (h : RowI w v xs) {k : Nat} (hk : v.ownBlock = some k) : k < w.heap.size := (World.ownsRow.lt h k hk).2
theorem RowI.block {w : World} {v : Value} {xs : List Int} (h : RowI w v xs) {k : Nat} (hk : v.ownBlock = some k) : ∃ cur, w.heap[k]? = some (.cells cur 3 (0, 0)) := by
  rcases h.2 with ⟨rfl, _⟩ | ⟨g, cap, cur, rfl, hb, hg, r⟩
  · simp [Value.ownBlock] at hk
  · simp [Value.ownBlock] at hk
    subst hk
    exact ⟨cur, hg⟩
theorem RowI.form {w : World} {v : Value} {xs : List Int} (h : RowI w v xs) : ∃ A c, v = .slice A xs.length c := by
  rcases h.2 with ⟨rfl, h0⟩ | ⟨g, cap, cur, rfl, _⟩
  · exact ⟨none, 0, by rw [h0]⟩
  · exact ⟨_, _, rfl⟩
theorem RowI.at_ {w : World} {A : Option Addr} {c : Nat} {xs : List Int} (h : RowI w (.slice A xs.length c) xs) (j : Nat) (hj : j < xs.length) : ∃ b, A = some ⟨b, 0, none⟩ ∧ w.cell? ⟨b, j, none⟩ = some (.int .i64 (gi xs j)) := by
  rcases h.2 with ⟨h', h0⟩ | ⟨g, cap, cur, h', hb, hg, hnc, hcm, hcs, ht⟩
  · omega
  · simp only [Value.slice.injEq] at h'
    obtain ⟨rfl, _, rfl⟩ := h'
    refine ⟨g, rfl, ?_⟩
    rw [World.ownsRow.cellAt h j (by omega)]
    unfold ints gi
    simp [List.getElem?_eq_getElem hj]
theorem Row.at_ {w : World} {A : Option Addr} {c : Nat} {xs : List Int} (h : Row w (.slice A xs.length c) xs) (j : Nat) (hj : j < xs.length) : ∃ b, A = some ⟨b, 0, none⟩ ∧ w.cell? ⟨b, j, none⟩ = some (.int .i64 (gi xs j)) := by
  rcases h.2 with ⟨h', h0⟩ | ⟨g, cap, cur, h', hb, hg, hnc, hcm, hcs, ht⟩
  · omega
  · simp only [Value.slice.injEq] at h'
    obtain ⟨rfl, _, rfl⟩ := h'
    exact ⟨g, rfl, Row.cell (n := xs.length) h j hj⟩
theorem row_at {k : IntKind} {w : World} {a : Option Addr} {len cap : Nat} {zs : List Int} (h : (a = none ∧ len = 0 ∧ cap = 0 ∧ zs = []) ∨ ∃ x, a = some x ∧ len ≤ cap ∧ cap ≤ maxLen ∧ zs.length = cap ∧ (∀ i, i < zs.length → w.cell? (x.add i) = some (.int k (zs.getD i 0))) ∧ ∀ n ∈ zs, (Lit.int k n).wf = true)
    (i : Nat) (hi : i < len) : ∃ x : Addr, a = some x ∧ w.cell? (x.add i) = some (.int k (gi zs i)) ∧ (Lit.int k (gi zs i)).wf = true := by
  rcases h with ⟨_, rfl, _⟩ | ⟨x, rfl, h1, h2, h3, h4, h5⟩
  · omega
  · refine ⟨x, rfl, h4 i (by omega), h5 _ ?_⟩
    unfold gi
    rw [List.getD_eq_getElem?_getD, List.getElem?_eq_getElem (by omega)]
    exact List.getElem_mem _

theorem quiet_left {P : Program} {f : FuncId} {args : Array Value} {w : World} {n : Nat} {v : Value}
    (h : Calls P f args (w.drewN n) fun e w' => e = .returned v ∧ w.drewN n = w') : Calls P f args (w.drewN n) fun e w'' => e = .returned v ∧ ∃ m, w'' = w.drewN m :=
  h.mono fun _ _ ⟨he, hm⟩ => ⟨he, n, hm.symm⟩

theorem info3 : (Try.prog.info? 3).map (fun i => (i.zero, i.size, i.bytes)) = some (some (.int .i64 0), 1, 8) := by kernel_rfl
/-- What stands at each step's head. -/
structure MW (B : Nat) (wr : World) (g : Nat) (bits wd lf nw : Int) (A S : List Int) (va vs : Value) : Prop where
  st : ∃ s own, Held B wr g s own ∧ MInv s bits wd lf nw A S ∧ (∀ k, va.ownBlock = some k → ¬ own k ∧ B ≤ k) ∧ (∀ k, vs.ownBlock = some k → ¬ own k ∧ B ≤ k)
  ra : Row wr va A
  rs : RowI wr vs S
theorem MW.dn {B : Nat} {wr : World} {g : Nat} {bits wd lf nw : Int} {A S : List Int} {va vs : Value} (h : MW B wr g bits wd lf nw A S va vs) (q : Nat) : MW B (wr.drewN q) g bits wd lf nw A S va vs := by
  obtain ⟨⟨s, own, h1, h2, h3, h4⟩, h5, h6⟩ := h
  exact ⟨⟨s, own, h1.below (below_dn (Below.refl _ _) q), h2, h3, h4⟩, h5, h6⟩

theorem many_valid {bits wd lf : Int} (hb : bits = 12 ∨ bits = 24) (h0 : 1 ≤ wd) (h1 : wd ≤ 1024) (h2 : 1 ≤ lf) (h3 : lf ≤ 65536) : Valid bits 1 wd lf :=
  ⟨hb, by decide, by decide, h0, by rcases hb with rfl | rfl <;> (unfold quarter; first | rw [NumPlain.all_12] | rw [NumPlain.all_24]) <;> omega, h2, by omega⟩
theorem many_start {bits wd lf : Int} : MInv (newS bits 1 wd lf) bits wd lf 0 [] [] :=
  ⟨rfl, rfl, rfl, rfl, rfl, by show (0 : Int) = (0 : Int) % _; simp, rfl, ⟨fun i j _ hj => absurd hj (Nat.not_lt_zero j), fun j hj => absurd hj (Nat.not_lt_zero j), fun j hj => absurd hj (Nat.not_lt_zero j)⟩, rfl, fun k hk => absurd hk (Nat.not_lt_zero k)⟩

theorem count_snoc {xs : List Int} {now lf : Int} {k : Nat} (h : k < xs.length) : ((xs.take (k + 1)).filter (alive now lf)).length = ((xs.take k).filter (alive now lf)).length + (if now - gi xs k < lf then 1 else 0) := by
  rw [take_one xs k h, List.filter_append, List.length_append]
  by_cases e : now - gi xs k < lf
  · have : alive now lf (gi xs k) = true := decide_eq_true e
    simp [this, e]
  · have : alive now lf (gi xs k) = false := decide_eq_false e
    simp [this, e]

theorem grown_turned {w w' : World} {row : Option Nat} {o : Obj} (h : (w.alloc o).grownBy w' row) : Turned (fun k => row = some k) w w' :=
  (Turned.alloc (own := fun k => row = some k) w o).trans (Turned.of_grown h (fun k e => e)) (fun _ _ e => e)
theorem ints_snoc (xs : List Int) (x : Int) : ints xs ++ [.int .i64 x] = ints (xs ++ [x]) := by simp [ints]
/-- Both rows have grown by one. -/
theorem MW.more {B : Nat} {w3 w4 w5 : World} {g : Nat} {bits wd lf nw x y : Int} {A S : List Int} {Aa As : Option Addr} {ca cs g4 g5 c4 c5 : Nat} {s : St} {own : Nat → Prop} {o4 o5 : Obj}
    (H : Held B w3 g s own) (hI : MInv s bits wd lf nw (A ++ [x]) (S ++ [y])) (hra : Row w3 (.slice Aa A.length ca) A) (hrs : RowI w3 (.slice As S.length cs) S)
    (na : ∀ k, (Value.slice Aa A.length ca).ownBlock = some k → ¬ own k ∧ B ≤ k) (ns : ∀ k, (Value.slice As S.length cs).ownBlock = some k → ¬ own k ∧ B ≤ k)
    (h4 : w4.ownsRow 0 2 1 (.slice (some ⟨g4, 0, none⟩) (A.length + 1) c4) (A.length + 1) (ints A ++ [.int .i64 x])) (t4 : (w3.alloc o4).grownBy w4 (Value.slice Aa A.length ca).ownBlock) (e4 : (Value.slice Aa A.length ca).ownBlock = some g4 ∨ g4 = (w3.alloc o4).heap.size)
    (h5 : w5.ownsRow 0 3 1 (.slice (some ⟨g5, 0, none⟩) (S.length + 1) c5) (S.length + 1) (ints S ++ [.int .i64 y])) (t5 : (w4.alloc o5).grownBy w5 (Value.slice As S.length cs).ownBlock) (e5 : (Value.slice As S.length cs).ownBlock = some g5 ∨ g5 = (w4.alloc o5).heap.size) :
    MW B w5 g bits wd lf nw (A ++ [x]) (S ++ [y]) (.slice (some ⟨g4, 0, none⟩) (A.length + 1) c4) (.slice (some ⟨g5, 0, none⟩) (S.length + 1) c5) ∧ Below B w3 w5 := by
  have T4 := grown_turned t4
  have T5 := grown_turned t5
  have hs4 := T4.size
  have hs5 := T5.size
  have hB := H.base
  rw [World.size_alloc] at e4 e5
  have la : (A ++ [x]).length = A.length + 1 := by simp
  have ls : (S ++ [y]).length = S.length + 1 := by simp
  have ra4 : Row w4 (.slice (some ⟨g4, 0, none⟩) (A.length + 1) c4) (A ++ [x]) := by
    unfold Row
    rw [la, ← ints_snoc]
    exact h4
  have rs5 : RowI w5 (.slice (some ⟨g5, 0, none⟩) (S.length + 1) c5) (S ++ [y]) := by
    unfold RowI
    rw [ls, ← ints_snoc]
    exact h5
  have rs4 : RowI w4 (.slice As S.length cs) S := hrs.kept (fun k e => T4.keep k (hrs.lt e) (fun e' => by
    obtain ⟨c1, h1⟩ := hrs.block e
    obtain ⟨c2, h2⟩ := hra.block e'
    exact ne_types h1 h2 (by decide) rfl))
  have hg4 : g4 < w4.heap.size := ra4.lt rfl
  have hn : ∀ k, (Value.slice As S.length cs).ownBlock = some k → k ≠ g4 := fun k e e' => by
    obtain ⟨c1, h1⟩ := rs4.block e
    obtain ⟨c2, h2⟩ := ra4.block (k := g4) rfl
    exact ne_types h1 h2 (by decide) e'
  have ra5 : Row w5 (.slice (some ⟨g4, 0, none⟩) (A.length + 1) c4) (A ++ [x]) := ra4.kept (fun k e => T5.keep k (ra4.lt e) (fun e' => by
    simp [Value.ownBlock] at e
    exact hn k e' e.symm))
  have H4 := H.turned T4 (fun k ho e => (na k e).1 ho)
  have H5 := H4.turned T5 (fun k ho e => (ns k e).1 ho)
  refine ⟨⟨⟨s, own, H5, hI, fun k e => ?_, fun k e => ?_⟩, ra5, rs5⟩, ?_⟩
  · simp [Value.ownBlock] at e
    subst e
    rcases e4 with h1 | h1
    · exact na _ h1
    · exact ⟨fun ho => by have := H.lt _ ho; omega, by omega⟩
  · simp [Value.ownBlock] at e
    subst e
    rcases e5 with h1 | h1
    · exact ns _ h1
    · exact ⟨fun ho => by have := H.lt _ ho; omega, by omega⟩
  · exact (T4.below (fun k hk e => by have := (na k e).2; omega) hB).trans (T5.below (fun k hk e => by have := (ns k e).2; omega) (by omega))

theorem less_yes (s a b : Int) (w : World) (hs : s = 12 ∨ s = 24) (h : NumPlain.diffM (NumPlain.all s) a b < 0 ∧ 0 ≤ a ∧ a < NumPlain.all s ∧ 0 ≤ b ∧ b < NumPlain.all s) :
    Calls Try.prog 18 #[.int .i64 s, .int .i64 a, .int .i64 b] w fun e w' => e = .returned (.bool true) ∧ w = w' := by
  have hh := Hand.ref_less s a b w hs h.2.1 h.2.2.1 h.2.2.2.1 h.2.2.2.2
  rw [decide_eq_true h.1] at hh
  exact hh
set_option maxRecDepth 100000 in
set_option maxHeartbeats 6400000 in
theorem many12 (a1 a2 : Int) (a3 : Option Addr) (len3 cap3 : Nat) (z3 : List Int) (w : World) (wf1 : (Lit.int .u16 a1).wf = true) (wf2 : (Lit.int .u16 a2).wf = true)
    (w3 : (a3 = none ∧ len3 = 0 ∧ cap3 = 0 ∧ z3 = []) ∨ ∃ x, a3 = some x ∧ len3 ≤ cap3 ∧ cap3 ≤ maxLen ∧ z3.length = cap3 ∧ (∀ i, i < z3.length → w.cell? (x.add i) = some (.int .u8 (z3.getD i 0))) ∧ ∀ n ∈ z3, (Lit.int .u8 n).wf = true) (hlen : len3 ≤ 9223372036854775807) :
    Calls Try.prog 4 #[.bool false, .int .u16 a1, .int .u16 a2, .slice a3 len3 cap3] w fun e w' => e = .returned (.bool true) ∧ Below w.heap.size w w' := by
  obtain ⟨i0, hi0, hz0, hz1, hz2⟩ := info_parts info2
  obtain ⟨j0, hj0, hy0, hy1, hy2⟩ := info_parts info3
  have hb : 0 ≤ a1 ∧ a1 ≤ 65535 := by simpa [Lit.wf, IntKind.min, IntKind.max, IntKind.signed, IntKind.bits] using wf1
  have hc : 0 ≤ a2 ∧ a2 ≤ 65535 := by simpa [Lit.wf, IntKind.min, IntKind.max, IntKind.signed, IntKind.bits] using wf2
  obtain ⟨hb0, hb1⟩ := hb
  obtain ⟨hc0, hc1⟩ := hc
  have W3 := Lib.hid w3
  clear wf1 wf2 w3
  by_cases hbig : 300 < len3
  · go_enter Try.func4, Try.ntmps4
    go_wp2_with (first
      | (go_at_call 9; refine (head_any _).mono ?_; rintro e w1 ⟨rfl, B1⟩)
      | (go_at_call 10; refine (new_held w.heap.size 12 1 (1 + a1 % 1024) (1 + a2) _ (many_valid (by simp) (by omega) (by omega) (by omega) (by omega)) B1.size).mono ?_; rintro e w2 ⟨g, rfl, H2, B2⟩; have HB2 := Lib.hid (B1.trans (B2.mono B1.size)); clear H2 B2 B1))
    go_ret
    exact ⟨rfl, HB2.out⟩
  · go_enter Try.func4, Try.ntmps4
    go_wp2_with (first
      | (go_at_call 9; refine (head_any _).mono ?_; rintro e w1 ⟨rfl, B1⟩)
      | (go_at_call 10; refine (new_held w.heap.size 12 1 (1 + a1 % 1024) (1 + a2) _ (many_valid (by simp) (by omega) (by omega) (by omega) (by omega)) B1.size).mono ?_; rintro e w2 ⟨g, rfl, H2, B2⟩; have HB2 := Lib.hid (B1.trans (B2.mono B1.size)); have HH2 := Lib.hid H2; clear H2 B2 B1))
    go_loopw [14, 15, 16, 17] (fun nv va vs iv wr => ∃ (i : Nat) (nw : Int) (A S : List Int) (Aa As : Option Addr) (ca cs : Nat), i ≤ len3 ∧ iv = .int .i64 i ∧ nv = .int .i64 nw ∧ va = .slice Aa A.length ca ∧ vs = .slice As S.length cs ∧ 0 ≤ nw ∧ nw ≤ 255 * i ∧ A.length ≤ i ∧ S.length ≤ i ∧ Hid (MW w.heap.size wr g 12 (1 + a1 % 1024) (1 + a2) nw A S (.slice Aa A.length ca) (.slice As S.length cs)) ∧ Hid (Below w.heap.size w wr)) (fun _ _ _ iv _ => len3 - (intOf iv).toNat)
    case atStart => exact ⟨0, 0, [], [], none, none, 0, 0, by omega, rfl, rfl, rfl, rfl, by omega, by omega, by simp, by simp, Lib.hid ⟨⟨_, _, HH2.out, many_start, fun k e => by simp [Value.ownBlock] at e, fun k e => by simp [Value.ownBlock] at e⟩, World.ownsRow_nil _ _ _ _, World.ownsRow_nil _ _ _ _⟩, HB2⟩
    case round =>
      obtain ⟨i, nw, A, S, Aa, As, ca, cs, hi, rfl, rfl, rfl, rfl, hn0, hn1, hAl, hSl, hM, hB⟩ := hrel
      by_cases hlt : i < len3
      · obtain ⟨x, ex, hcx, hwx⟩ := row_at W3.out i hlt
        subst ex
        have hcr := (hB.out.cell (p := x.add i) (World.block_lt_of_cell? w _ hcx)).trans hcx
        have hx : 0 ≤ gi z3 i ∧ gi z3 i ≤ 255 := by simpa [Lit.wf, IntKind.min, IntKind.max, IntKind.signed, IntKind.bits] using hwx
        obtain ⟨hx0, hx1⟩ := hx
        generalize gi z3 i = y at hcr hx0 hx1
        clear hcx hwx
        go_wp2_with fail
        obtain ⟨wo, rfl⟩ : ∃ wo : World, wo = wr := ⟨_, rfl⟩
        clear hcr
        go_loopw [18, 19] (fun lv kv wi => ∃ (k : Nat), k ≤ A.length ∧ kv = .int .i64 k ∧ lv = .int .i64 (((A.take k).filter (alive (nw + y) (1 + a2))).length : Nat) ∧ Hid (∃ q, wi = wo.drewN q)) (fun _ kv _ => A.length - (intOf kv).toNat)
        case atStart => exact ⟨0, Nat.zero_le _, rfl, rfl, Lib.hid ⟨0, rfl⟩⟩
        case round =>
          obtain ⟨k, hk, rfl, rfl, hq⟩ := hrel
          have hMi : MW w.heap.size wr g 12 (1 + a1 % 1024) (1 + a2) nw A S (.slice Aa A.length ca) (.slice As S.length cs) := by
            obtain ⟨q, e⟩ := hq.out
            rw [e]
            exact hM.out.dn q
          have hBi : Below w.heap.size w wr := by
            obtain ⟨q, e⟩ := hq.out
            rw [e]
            exact below_dn hB.out q
          obtain ⟨⟨s, own, H, I, na, ns⟩, ra, rs⟩ := hMi
          have HB := Lib.hid hBi
          have HH := Lib.hid H
          have HI := Lib.hid I
          clear H I hBi
          by_cases hkl : k < A.length
          · obtain ⟨ba, ea, hca⟩ := ra.at_ k hkl
            subst ea
            have g0 := HI.out.rises.lo k hkl
            have g1 := HI.out.rises.hi k hkl
            have HC := Lib.hid (count_snoc (now := nw + y) (lf := 1 + a2) hkl)
            have hcnt := List.length_filter_le (alive (nw + y) (1 + a2)) (A.take k)
            have hcnt2 : (A.take k).length ≤ k := List.length_take_le _ _
            by_cases hal : nw + y - gi A k < 1 + a2
            · have LS := Lib.hid (HI.out.less HH.out.ok (by simp) (by omega) (now' := nw + y) (by omega) hkl hal)
              obtain ⟨bs, es, hcs⟩ := rs.at_ k (by rw [HI.out.slen]; exact hkl)
              subst es
              have hks : k < S.length := by rw [HI.out.slen]; exact hkl
              generalize hga : gi A k = ga at *
              generalize hgs : gi S k = gs at *
              have HGA := Lib.hid hga
              have HGS := Lib.hid hgs
              clear ra rs na ns hga hgs
              go_wp2_with fail
              go_quiet ((first
                | (go_at_call 16; exact quiet_left ((HH.out.below (below_dn (Below.refl _ _) _)).next 0 (by decide)))
                | (go_at_call 18; exact quiet_left (less_yes _ _ _ _ (by simp) LS.out))))
              go_wp2_with fail
              go_roundw
              case rel => exact ⟨k + 1, by omega, by go_num, by rw [HC.out]; simp [hal], Lib.hid (by obtain ⟨q, e⟩ := hq.out; exact ⟨q + nq, by rw [e, World.drewN_drewN]⟩)⟩
              case measure => simp [intOf]; omega
            · generalize hga : gi A k = ga at *
              clear ra rs na ns hga
              go_wp2_with fail
              go_roundw
              case rel => exact ⟨k + 1, by omega, by go_num, by rw [HC.out]; simp [hal], hq⟩
              case measure => simp [intOf]; omega
          · obtain rfl : k = A.length := by omega
            rw [List.take_of_length_le (Nat.le_refl A.length)]
            have st := HI.out.step HH.out.ok (by simp) (by omega) (now' := nw + y) (by omega) (by omega)
            have HIS := Lib.hid (HH.out.issue 0 (nw + y) (by decide))
            have hcnt := List.length_filter_le (alive (nw + y) (1 + a2)) A
            have RA := Lib.hid ra
            have RS := Lib.hid rs
            have NA := Lib.hid na
            have NS := Lib.hid ns
            clear ra rs na ns
            by_cases hroom : ((A.filter (alive (nw + y) (1 + a2))).length : Int) < 1 + a1 % 1024
            · have hb := st.1
              rw [decide_eq_true hroom] at hb
              have HSB := Lib.hid hb
              have HST := Lib.hid (st.2.1 hb)
              generalize hyy : issueN s 0 (nw + y) = yy at HIS HST
              clear st hb hyy
              have hA1 : A.length ≤ 300 := by omega
              have hS1 : S.length ≤ 300 := by omega
              go_wp2_with (first
                | (go_at_call 14; refine HIS.out.mono ?_; rintro e w3 ⟨rfl, H3, T3, B3⟩; rw [HSB.out]; have HH3 := Lib.hid H3; have HT3 := Lib.hid T3; have HB3 := Lib.hid (HB.out.trans B3); have RA3 := Lib.hid (RA.out.kept (w' := w3) (fun k e => T3.keep k (RA.out.lt e) (fun ho => (NA.out k e).1 ho))); have RS3 := Lib.hid (RS.out.kept (w' := w3) (fun k e => T3.keep k (RS.out.lt e) (fun ho => (NS.out k e).1 ho))); clear H3 T3 B3)
                | (at_builtin; refine wpList_append_lies _ rfl (.tmp 97) (.tmp 99) 37 rfl 0 2 i0 _ 1 8 Try.underlying37 hi0 hz0 hz1 hz2 rfl (by omega) (.slice Aa A.length ca) A.length (ints A) rfl (World.ownsRow.alloc RA3.out _) ⟨w3.heap.size, 0, none⟩ 1 1 [.int .i64 (nw + y)] rfl rfl (World.news_of_block (cs := #[.int .i64 (nw + y)]) (t := 2) (fr := (0, 0)) (heap_alloc_new w3 _)) (by simp [Value.oneCell']) (by omega) (by unfold maxLen; omega) (by omega) (by omega) _ rfl ?_; intro g4 c4 w4 own4 grow4 at4 lt4; have OWN4 := Lib.hid own4; have GROW4 := Lib.hid grow4; have AT4 := Lib.hid at4; have RS4 := Lib.hid (RS3.out.kept (w' := w4) (fun k e => (grown_turned grow4).keep k (RS3.out.lt e) (fun e' => by obtain ⟨c1, h1⟩ := RS3.out.block e; obtain ⟨c2, h2⟩ := RA3.out.block e'; exact ne_types h1 h2 (by decide) rfl))); clear own4 grow4 at4 lt4)
                | (at_builtin; refine wpList_append_lies _ rfl (.tmp 101) (.tmp 103) 38 rfl 0 3 j0 _ 1 8 Try.underlying38 hj0 hy0 hy1 hy2 rfl (by omega) (.slice As S.length cs) S.length (ints S) rfl (World.ownsRow.alloc RS4.out _) ⟨w4.heap.size, 0, none⟩ 1 1 [.int .i64 yy] rfl rfl (World.news_of_block (cs := #[.int .i64 yy]) (t := 3) (fr := (0, 0)) (heap_alloc_new w4 _)) (by simp [Value.oneCell']) (by omega) (by unfold maxLen; omega) (by omega) (by omega) _ rfl ?_; intro g5 c5 w5 own5 grow5 at5 lt5; have OWN5 := Lib.hid own5; have GROW5 := Lib.hid grow5; have AT5 := Lib.hid at5; clear own5 grow5 at5 lt5))
              have fin := MW.more HH3.out HST.out.2 RA3.out RS3.out (fun k e => ⟨fun ho => ho.elim (NA.out k e).1 (fun h2 => by have := RA.out.lt e; omega), (NA.out k e).2⟩) (fun k e => ⟨fun ho => ho.elim (NS.out k e).1 (fun h2 => by have := RS.out.lt e; omega), (NS.out k e).2⟩) OWN4.out GROW4.out AT4.out OWN5.out GROW5.out AT5.out
              have FIN := Lib.hid fin
              clear fin
              go_roundw
              case rel => exact ⟨i + 1, nw + y, A ++ [nw + y], S ++ [yy], some ⟨g4, 0, none⟩, some ⟨g5, 0, none⟩, c4, c5, by omega, by go_num, rfl, by simp, by simp, by omega, by omega, by simp; omega, by simp; omega, Lib.hid (by simpa using FIN.out.1), Lib.hid (HB3.out.trans FIN.out.2)⟩
              case measure => simp [intOf]; omega
            · have hb := st.1
              rw [decide_eq_false hroom] at hb
              have HSB := Lib.hid hb
              have HST := Lib.hid (st.2.2 hb)
              clear st hb
              go_wp2_with (go_at_call 14; refine HIS.out.mono ?_; rintro e w3 ⟨rfl, H3, T3, B3⟩; rw [HSB.out]; have HH3 := Lib.hid H3; have HT3 := Lib.hid T3; have HB3 := Lib.hid (HB.out.trans B3); have RA3 := Lib.hid (RA.out.kept (w' := w3) (fun k e => T3.keep k (RA.out.lt e) (fun ho => (NA.out k e).1 ho))); have RS3 := Lib.hid (RS.out.kept (w' := w3) (fun k e => T3.keep k (RS.out.lt e) (fun ho => (NS.out k e).1 ho))); clear H3 T3 B3)
              go_roundw
              case rel => exact ⟨i + 1, nw + y, A, S, Aa, As, ca, cs, by omega, by go_num, rfl, rfl, rfl, by omega, by omega, by omega, by omega, Lib.hid ⟨⟨_, _, HH3.out, HST.out, fun k e => ⟨fun ho => ho.elim (NA.out k e).1 (fun h2 => by have := RA.out.lt e; omega), (NA.out k e).2⟩, fun k e => ⟨fun ho => ho.elim (NS.out k e).1 (fun h2 => by have := RS.out.lt e; omega), (NS.out k e).2⟩⟩, RA3.out, RS3.out⟩, HB3⟩
              case measure => simp [intOf]; omega
      · go_wp2_with fail
        go_ret
        exact ⟨rfl, hB.out⟩
set_option maxRecDepth 100000 in
set_option maxHeartbeats 6400000 in
theorem many24 (a1 a2 : Int) (a3 : Option Addr) (len3 cap3 : Nat) (z3 : List Int) (w : World) (wf1 : (Lit.int .u16 a1).wf = true) (wf2 : (Lit.int .u16 a2).wf = true)
    (w3 : (a3 = none ∧ len3 = 0 ∧ cap3 = 0 ∧ z3 = []) ∨ ∃ x, a3 = some x ∧ len3 ≤ cap3 ∧ cap3 ≤ maxLen ∧ z3.length = cap3 ∧ (∀ i, i < z3.length → w.cell? (x.add i) = some (.int .u8 (z3.getD i 0))) ∧ ∀ n ∈ z3, (Lit.int .u8 n).wf = true) (hlen : len3 ≤ 9223372036854775807) :
    Calls Try.prog 4 #[.bool true, .int .u16 a1, .int .u16 a2, .slice a3 len3 cap3] w fun e w' => e = .returned (.bool true) ∧ Below w.heap.size w w' := by
  obtain ⟨i0, hi0, hz0, hz1, hz2⟩ := info_parts info2
  obtain ⟨j0, hj0, hy0, hy1, hy2⟩ := info_parts info3
  have hb : 0 ≤ a1 ∧ a1 ≤ 65535 := by simpa [Lit.wf, IntKind.min, IntKind.max, IntKind.signed, IntKind.bits] using wf1
  have hc : 0 ≤ a2 ∧ a2 ≤ 65535 := by simpa [Lit.wf, IntKind.min, IntKind.max, IntKind.signed, IntKind.bits] using wf2
  obtain ⟨hb0, hb1⟩ := hb
  obtain ⟨hc0, hc1⟩ := hc
  have W3 := Lib.hid w3
  clear wf1 wf2 w3
  by_cases hbig : 300 < len3
  · go_enter Try.func4, Try.ntmps4
    go_wp2_with (first
      | (go_at_call 9; refine (head_any _).mono ?_; rintro e w1 ⟨rfl, B1⟩)
      | (go_at_call 10; refine (new_held w.heap.size 24 1 (1 + a1 % 1024) (1 + a2) _ (many_valid (by simp) (by omega) (by omega) (by omega) (by omega)) B1.size).mono ?_; rintro e w2 ⟨g, rfl, H2, B2⟩; have HB2 := Lib.hid (B1.trans (B2.mono B1.size)); clear H2 B2 B1))
    go_ret
    exact ⟨rfl, HB2.out⟩
  · go_enter Try.func4, Try.ntmps4
    go_wp2_with (first
      | (go_at_call 9; refine (head_any _).mono ?_; rintro e w1 ⟨rfl, B1⟩)
      | (go_at_call 10; refine (new_held w.heap.size 24 1 (1 + a1 % 1024) (1 + a2) _ (many_valid (by simp) (by omega) (by omega) (by omega) (by omega)) B1.size).mono ?_; rintro e w2 ⟨g, rfl, H2, B2⟩; have HB2 := Lib.hid (B1.trans (B2.mono B1.size)); have HH2 := Lib.hid H2; clear H2 B2 B1))
    go_loopw [14, 15, 16, 17] (fun nv va vs iv wr => ∃ (i : Nat) (nw : Int) (A S : List Int) (Aa As : Option Addr) (ca cs : Nat), i ≤ len3 ∧ iv = .int .i64 i ∧ nv = .int .i64 nw ∧ va = .slice Aa A.length ca ∧ vs = .slice As S.length cs ∧ 0 ≤ nw ∧ nw ≤ 255 * i ∧ A.length ≤ i ∧ S.length ≤ i ∧ Hid (MW w.heap.size wr g 24 (1 + a1 % 1024) (1 + a2) nw A S (.slice Aa A.length ca) (.slice As S.length cs)) ∧ Hid (Below w.heap.size w wr)) (fun _ _ _ iv _ => len3 - (intOf iv).toNat)
    case atStart => exact ⟨0, 0, [], [], none, none, 0, 0, by omega, rfl, rfl, rfl, rfl, by omega, by omega, by simp, by simp, Lib.hid ⟨⟨_, _, HH2.out, many_start, fun k e => by simp [Value.ownBlock] at e, fun k e => by simp [Value.ownBlock] at e⟩, World.ownsRow_nil _ _ _ _, World.ownsRow_nil _ _ _ _⟩, HB2⟩
    case round =>
      obtain ⟨i, nw, A, S, Aa, As, ca, cs, hi, rfl, rfl, rfl, rfl, hn0, hn1, hAl, hSl, hM, hB⟩ := hrel
      by_cases hlt : i < len3
      · obtain ⟨x, ex, hcx, hwx⟩ := row_at W3.out i hlt
        subst ex
        have hcr := (hB.out.cell (p := x.add i) (World.block_lt_of_cell? w _ hcx)).trans hcx
        have hx : 0 ≤ gi z3 i ∧ gi z3 i ≤ 255 := by simpa [Lit.wf, IntKind.min, IntKind.max, IntKind.signed, IntKind.bits] using hwx
        obtain ⟨hx0, hx1⟩ := hx
        generalize gi z3 i = y at hcr hx0 hx1
        clear hcx hwx
        go_wp2_with fail
        obtain ⟨wo, rfl⟩ : ∃ wo : World, wo = wr := ⟨_, rfl⟩
        clear hcr
        go_loopw [18, 19] (fun lv kv wi => ∃ (k : Nat), k ≤ A.length ∧ kv = .int .i64 k ∧ lv = .int .i64 (((A.take k).filter (alive (nw + y) (1 + a2))).length : Nat) ∧ Hid (∃ q, wi = wo.drewN q)) (fun _ kv _ => A.length - (intOf kv).toNat)
        case atStart => exact ⟨0, Nat.zero_le _, rfl, rfl, Lib.hid ⟨0, rfl⟩⟩
        case round =>
          obtain ⟨k, hk, rfl, rfl, hq⟩ := hrel
          have hMi : MW w.heap.size wr g 24 (1 + a1 % 1024) (1 + a2) nw A S (.slice Aa A.length ca) (.slice As S.length cs) := by
            obtain ⟨q, e⟩ := hq.out
            rw [e]
            exact hM.out.dn q
          have hBi : Below w.heap.size w wr := by
            obtain ⟨q, e⟩ := hq.out
            rw [e]
            exact below_dn hB.out q
          obtain ⟨⟨s, own, H, I, na, ns⟩, ra, rs⟩ := hMi
          have HB := Lib.hid hBi
          have HH := Lib.hid H
          have HI := Lib.hid I
          clear H I hBi
          by_cases hkl : k < A.length
          · obtain ⟨ba, ea, hca⟩ := ra.at_ k hkl
            subst ea
            have g0 := HI.out.rises.lo k hkl
            have g1 := HI.out.rises.hi k hkl
            have HC := Lib.hid (count_snoc (now := nw + y) (lf := 1 + a2) hkl)
            have hcnt := List.length_filter_le (alive (nw + y) (1 + a2)) (A.take k)
            have hcnt2 : (A.take k).length ≤ k := List.length_take_le _ _
            by_cases hal : nw + y - gi A k < 1 + a2
            · have LS := Lib.hid (HI.out.less HH.out.ok (by simp) (by omega) (now' := nw + y) (by omega) hkl hal)
              obtain ⟨bs, es, hcs⟩ := rs.at_ k (by rw [HI.out.slen]; exact hkl)
              subst es
              have hks : k < S.length := by rw [HI.out.slen]; exact hkl
              generalize hga : gi A k = ga at *
              generalize hgs : gi S k = gs at *
              have HGA := Lib.hid hga
              have HGS := Lib.hid hgs
              clear ra rs na ns hga hgs
              go_wp2_with fail
              go_quiet ((first
                | (go_at_call 16; exact quiet_left ((HH.out.below (below_dn (Below.refl _ _) _)).next 0 (by decide)))
                | (go_at_call 18; exact quiet_left (less_yes _ _ _ _ (by simp) LS.out))))
              go_wp2_with fail
              go_roundw
              case rel => exact ⟨k + 1, by omega, by go_num, by rw [HC.out]; simp [hal], Lib.hid (by obtain ⟨q, e⟩ := hq.out; exact ⟨q + nq, by rw [e, World.drewN_drewN]⟩)⟩
              case measure => simp [intOf]; omega
            · generalize hga : gi A k = ga at *
              clear ra rs na ns hga
              go_wp2_with fail
              go_roundw
              case rel => exact ⟨k + 1, by omega, by go_num, by rw [HC.out]; simp [hal], hq⟩
              case measure => simp [intOf]; omega
          · obtain rfl : k = A.length := by omega
            rw [List.take_of_length_le (Nat.le_refl A.length)]
            have st := HI.out.step HH.out.ok (by simp) (by omega) (now' := nw + y) (by omega) (by omega)
            have HIS := Lib.hid (HH.out.issue 0 (nw + y) (by decide))
            have hcnt := List.length_filter_le (alive (nw + y) (1 + a2)) A
            have RA := Lib.hid ra
            have RS := Lib.hid rs
            have NA := Lib.hid na
            have NS := Lib.hid ns
            clear ra rs na ns
            by_cases hroom : ((A.filter (alive (nw + y) (1 + a2))).length : Int) < 1 + a1 % 1024
            · have hb := st.1
              rw [decide_eq_true hroom] at hb
              have HSB := Lib.hid hb
              have HST := Lib.hid (st.2.1 hb)
              generalize hyy : issueN s 0 (nw + y) = yy at HIS HST
              clear st hb hyy
              have hA1 : A.length ≤ 300 := by omega
              have hS1 : S.length ≤ 300 := by omega
              go_wp2_with (first
                | (go_at_call 14; refine HIS.out.mono ?_; rintro e w3 ⟨rfl, H3, T3, B3⟩; rw [HSB.out]; have HH3 := Lib.hid H3; have HT3 := Lib.hid T3; have HB3 := Lib.hid (HB.out.trans B3); have RA3 := Lib.hid (RA.out.kept (w' := w3) (fun k e => T3.keep k (RA.out.lt e) (fun ho => (NA.out k e).1 ho))); have RS3 := Lib.hid (RS.out.kept (w' := w3) (fun k e => T3.keep k (RS.out.lt e) (fun ho => (NS.out k e).1 ho))); clear H3 T3 B3)
                | (at_builtin; refine wpList_append_lies _ rfl (.tmp 97) (.tmp 99) 37 rfl 0 2 i0 _ 1 8 Try.underlying37 hi0 hz0 hz1 hz2 rfl (by omega) (.slice Aa A.length ca) A.length (ints A) rfl (World.ownsRow.alloc RA3.out _) ⟨w3.heap.size, 0, none⟩ 1 1 [.int .i64 (nw + y)] rfl rfl (World.news_of_block (cs := #[.int .i64 (nw + y)]) (t := 2) (fr := (0, 0)) (heap_alloc_new w3 _)) (by simp [Value.oneCell']) (by omega) (by unfold maxLen; omega) (by omega) (by omega) _ rfl ?_; intro g4 c4 w4 own4 grow4 at4 lt4; have OWN4 := Lib.hid own4; have GROW4 := Lib.hid grow4; have AT4 := Lib.hid at4; have RS4 := Lib.hid (RS3.out.kept (w' := w4) (fun k e => (grown_turned grow4).keep k (RS3.out.lt e) (fun e' => by obtain ⟨c1, h1⟩ := RS3.out.block e; obtain ⟨c2, h2⟩ := RA3.out.block e'; exact ne_types h1 h2 (by decide) rfl))); clear own4 grow4 at4 lt4)
                | (at_builtin; refine wpList_append_lies _ rfl (.tmp 101) (.tmp 103) 38 rfl 0 3 j0 _ 1 8 Try.underlying38 hj0 hy0 hy1 hy2 rfl (by omega) (.slice As S.length cs) S.length (ints S) rfl (World.ownsRow.alloc RS4.out _) ⟨w4.heap.size, 0, none⟩ 1 1 [.int .i64 yy] rfl rfl (World.news_of_block (cs := #[.int .i64 yy]) (t := 3) (fr := (0, 0)) (heap_alloc_new w4 _)) (by simp [Value.oneCell']) (by omega) (by unfold maxLen; omega) (by omega) (by omega) _ rfl ?_; intro g5 c5 w5 own5 grow5 at5 lt5; have OWN5 := Lib.hid own5; have GROW5 := Lib.hid grow5; have AT5 := Lib.hid at5; clear own5 grow5 at5 lt5))
              have fin := MW.more HH3.out HST.out.2 RA3.out RS3.out (fun k e => ⟨fun ho => ho.elim (NA.out k e).1 (fun h2 => by have := RA.out.lt e; omega), (NA.out k e).2⟩) (fun k e => ⟨fun ho => ho.elim (NS.out k e).1 (fun h2 => by have := RS.out.lt e; omega), (NS.out k e).2⟩) OWN4.out GROW4.out AT4.out OWN5.out GROW5.out AT5.out
              have FIN := Lib.hid fin
              clear fin
              go_roundw
              case rel => exact ⟨i + 1, nw + y, A ++ [nw + y], S ++ [yy], some ⟨g4, 0, none⟩, some ⟨g5, 0, none⟩, c4, c5, by omega, by go_num, rfl, by simp, by simp, by omega, by omega, by simp; omega, by simp; omega, Lib.hid (by simpa using FIN.out.1), Lib.hid (HB3.out.trans FIN.out.2)⟩
              case measure => simp [intOf]; omega
            · have hb := st.1
              rw [decide_eq_false hroom] at hb
              have HSB := Lib.hid hb
              have HST := Lib.hid (st.2.2 hb)
              clear st hb
              go_wp2_with (go_at_call 14; refine HIS.out.mono ?_; rintro e w3 ⟨rfl, H3, T3, B3⟩; rw [HSB.out]; have HH3 := Lib.hid H3; have HT3 := Lib.hid T3; have HB3 := Lib.hid (HB.out.trans B3); have RA3 := Lib.hid (RA.out.kept (w' := w3) (fun k e => T3.keep k (RA.out.lt e) (fun ho => (NA.out k e).1 ho))); have RS3 := Lib.hid (RS.out.kept (w' := w3) (fun k e => T3.keep k (RS.out.lt e) (fun ho => (NS.out k e).1 ho))); clear H3 T3 B3)
              go_roundw
              case rel => exact ⟨i + 1, nw + y, A, S, Aa, As, ca, cs, by omega, by go_num, rfl, rfl, rfl, by omega, by omega, by omega, by omega, Lib.hid ⟨⟨_, _, HH3.out, HST.out, fun k e => ⟨fun ho => ho.elim (NA.out k e).1 (fun h2 => by have := RA.out.lt e; omega), (NA.out k e).2⟩, fun k e => ⟨fun ho => ho.elim (NS.out k e).1 (fun h2 => by have := RS.out.lt e; omega), (NS.out k e).2⟩⟩, RA3.out, RS3.out⟩, HB3⟩
              case measure => simp [intOf]; omega
      · go_wp2_with fail
        go_ret
        exact ⟨rfl, hB.out⟩

theorem many_walk (b0 : Bool) (a1 a2 : Int) (a3 : Option Addr) (len3 cap3 : Nat) (z3 : List Int) (w : World) (wf1 : (Lit.int .u16 a1).wf = true) (wf2 : (Lit.int .u16 a2).wf = true)
    (w3 : (a3 = none ∧ len3 = 0 ∧ cap3 = 0 ∧ z3 = []) ∨ ∃ x, a3 = some x ∧ len3 ≤ cap3 ∧ cap3 ≤ maxLen ∧ z3.length = cap3 ∧ (∀ i, i < z3.length → w.cell? (x.add i) = some (.int .u8 (z3.getD i 0))) ∧ ∀ n ∈ z3, (Lit.int .u8 n).wf = true) (y3 : len3 * 1 ≤ 140737488351232) :
    Calls Try.prog 4 #[.bool b0, .int .u16 a1, .int .u16 a2, .slice a3 len3 cap3] w fun e w' => e = .returned (.bool true) ∧ Below w.heap.size w w' := by
  cases b0
  · exact many12 a1 a2 a3 len3 cap3 z3 w wf1 wf2 w3 (by omega)
  · exact many24 a1 a2 a3 len3 cap3 z3 w wf1 wf2 w3 (by omega)
end Go.Proofs.Ytbaebohhbnomoaa.G
