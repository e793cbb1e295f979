/- The guard's state as plain data, and how it lies in memory: a block of five cells, a map of pointers, a block a class, a row a class. -/
import Derived.Test.YtbaebohhbnomoaaProg
import Derived.Test.YtbaebohhbnomoaaNumPlain
import Derived.WalkKit
import Derived.Lib.Hide
import Derived.Maps.Keyed
import Derived.Laws.OwnMore
namespace Go.Proofs.Ytbaebohhbnomoaa.G
open Go.RowKit
set_option linter.unusedVariables false
set_option linter.unusedSimpArgs false

def top : Int := 1099511627776
/-- The state of a guard: n classes, which number is next of each, and when those that live were issued. -/
structure St where
  bits : Int
  window : Int
  life : Int
  now : Int
  n : Nat
  next : Nat → Int
  ats : Nat → List Int
def upd {α : Type} (f : Nat → α) (i : Nat) (x : α) : Nat → α := fun j => if j = i then x else f j
theorem upd_same {α : Type} (f : Nat → α) (i : Nat) (x : α) : upd f i x i = x := by simp [upd]
theorem upd_other {α : Type} (f : Nat → α) {i j : Nat} (x : α) (h : j ≠ i) : upd f i x j = f j := by simp [upd, h]
def ints (xs : List Int) : List Value := xs.map (Value.int .i64)

/-- The map's entries: the key o leads to block 'bs o', and so on, n of them. -/
def ents (bs : Nat → Nat) : Nat → Nat → List MapEntry
  | _, 0 => []
  | o, n + 1 => ⟨.int .i64 o, .pointer (some ⟨bs o, 0, none⟩), o⟩ :: ents bs (o + 1) n
theorem ents_snoc (bs : Nat → Nat) (n : Nat) : ∀ o, ents bs o (n + 1) = ents bs o n ++ [⟨.int .i64 ((o + n : Nat) : Int), .pointer (some ⟨bs (o + n), 0, none⟩), o + n⟩] := by
  induction n with
  | zero => intro o; simp [ents]
  | succ n ih =>
    intro o
    rw [ents, ih (o + 1), ents]
    have e : o + 1 + n = o + (n + 1) := by omega
    rw [e]
    rfl
theorem ents_same {bs bs' : Nat → Nat} (n : Nat) : ∀ o, (∀ j, j < n → bs (o + j) = bs' (o + j)) → ents bs o n = ents bs' o n := by
  induction n with
  | zero => intro o h; rfl
  | succ n ih =>
    intro o h
    rw [ents, ents, ih (o + 1) (fun j hj => by have := h (j + 1) (by omega); rwa [show o + (j + 1) = o + 1 + j by omega] at this), show bs o = bs' o from h 0 (by omega)]
theorem find_ents (bs : Nat → Nat) (c : Int) (n : Nat) : ∀ (o i : Nat), Instr.findNow (.int .i64) (.int .i64 c) (ents bs o n) i =
    some (if (o : Int) ≤ c ∧ c < o + n then some (i + (c - o).toNat, .pointer (some ⟨bs c.toNat, 0, none⟩)) else none) := by
  induction n with
  | zero =>
    intro o i
    rw [ents, Instr.findNow, if_neg (by omega)]
  | succ n ih =>
    intro o i
    rw [ents, Instr.findNow]
    by_cases h : c = o
    · subst h
      have e : Instr.sameNow (.int .i64) (.int .i64 (o : Int)) (.int .i64 (o : Int)) = some true := by simp [Instr.sameNow]
      rw [e, if_pos (by omega)]
      simp
    · have e : Instr.sameNow (.int .i64) (.int .i64 c) (.int .i64 (o : Int)) = some false := by simp [Instr.sameNow, h]
      rw [e]
      show Instr.findNow (.int .i64) (.int .i64 c) (ents bs (o + 1) n) (i + 1) = _
      rw [ih (o + 1) (i + 1)]
      by_cases h2 : (o : Int) ≤ c ∧ c < o + (n + 1 : Nat)
      · rw [if_pos h2, if_pos (by omega)]
        congr 3
        omega
      · rw [if_neg h2, if_neg (by omega)]
theorem ents_length (bs : Nat → Nat) (n : Nat) : ∀ o, (ents bs o n).length = n := by
  induction n with
  | zero => intro o; rfl
  | succ n ih => intro o; rw [ents]; simp [ih]

def ptr (bs : Nat → Nat) (n : Nat) (c : Int) : Option Addr := if (0 : Int) ≤ c ∧ c < n then some ⟨bs c.toNat, 0, none⟩ else none

theorem run_look (w : World) (m : Nat) (bs : Nat → Nat) (n : Nat) (hm : w.heap[m]? = some (.map (ents bs 0 n).toArray n)) (c : Int) (hc : (Lit.int .i64 c).wf = true) :
    (Instr.lookup 47 (.map (some m)) (.int .i64 c) false).run Try.prog w = .ok (.pointer (ptr bs n c)) w := by
  have hk := (Maps.int_keyed (P := Try.prog) Try.underlying3).check w (ents bs 0 n).isEmpty (Maps.keyOf_int_mk Try.underlying3 hc)
  have hf := find_ents bs c n 0 0
  unfold ptr
  by_cases h : (0 : Int) ≤ c ∧ c < n
  · rw [if_pos (by simpa using h)] at hf
    rw [if_pos h]
    simp [Instr.lookup, run_underlying Try.underlying47, run_underlying Try.underlying3, MapKept.run_getObj_map hm, hk, Instr.findKey, hf, Result.andThen]
  · rw [if_neg (by simpa using h)] at hf
    rw [if_neg h]
    simp [Instr.lookup, run_underlying Try.underlying47, run_underlying Try.underlying3, MapKept.run_getObj_map hm, hk, Instr.findKey, hf, Result.andThen, Try.zeroValue50]

theorem run_put (w : World) (m : Nat) (bs : Nat → Nat) (n : Nat) (hm : w.heap[m]? = some (.map (ents bs 0 n).toArray n)) (b : Nat) (hc : (Lit.int .i64 n).wf = true) (hb : bs n = b) :
    (Instr.mapUpdate 47 (.map (some m)) (.int .i64 n) (.pointer (some ⟨b, 0, none⟩))).run Try.prog w = .ok () (ChangeMaps.setBlock w m (.map (ents bs 0 (n + 1)).toArray (n + 1))) := by
  have hk := (Maps.int_keyed (P := Try.prog) Try.underlying3).check w false (Maps.keyOf_int_mk Try.underlying3 hc)
  have hf := find_ents bs n n 0 0
  rw [if_neg (by omega)] at hf
  have he : (ents bs 0 n).toArray.push ⟨.int .i64 n, .pointer (some ⟨b, 0, none⟩), n⟩ = (ents bs 0 (n + 1)).toArray := by
    rw [ents_snoc, ← hb]
    simp
  have he' := fun o => MapKept.run_setObj_map (P := Try.prog) o hm
  simp [Instr.mapUpdate, run_underlying Try.underlying47, run_underlying Try.underlying3, MapKept.run_getObj_map hm, hk, Instr.findKey, hf, Result.andThen, he', ChangeMaps.setBlock]
  rw [← he]
  simp

/-- All but some blocks are as they were; nothing else has turned. -/
structure Turned (own : Nat → Prop) (w w' : World) : Prop where
  os : w'.os = w.os
  tape : w'.tape = w.tape
  output : w'.output = w.output
  size : w.heap.size ≤ w'.heap.size
  keep : ∀ k, k < w.heap.size → ¬ own k → w'.heap[k]? = w.heap[k]?
theorem Turned.refl (own : Nat → Prop) (w : World) : Turned own w w := ⟨rfl, rfl, rfl, Nat.le_refl _, fun _ _ _ => rfl⟩
theorem Turned.trans {own own' : Nat → Prop} {a b c : World} (h : Turned own a b) (k : Turned own' b c) (ho : ∀ j, j < a.heap.size → own' j → own j) : Turned own a c :=
  ⟨k.os.trans h.os, k.tape.trans h.tape, k.output.trans h.output, Nat.le_trans h.size k.size, fun i hi hn => (k.keep i (Nat.lt_of_lt_of_le hi h.size) (fun e => hn (ho i hi e))).trans (h.keep i hi hn)⟩
theorem Turned.below {own : Nat → Prop} {B : Nat} {w w' : World} (h : Turned own w w') (ho : ∀ k, k < B → ¬ own k) (hB : B ≤ w.heap.size) : Below B w w' :=
  ⟨h.os, h.tape, h.output, h.size, fun k hk => h.keep k (by omega) (ho k hk)⟩
theorem Turned.of_below {own : Nat → Prop} {w w' : World} (h : Below w.heap.size w w') : Turned own w w' := ⟨h.os, h.tape, h.output, h.size, fun k hk _ => h.block k hk⟩
theorem Turned.of_grown {own : Nat → Prop} {w w' : World} {row : Option Nat} (h : w.grownBy w' row) (ho : ∀ k, row = some k → own k) : Turned own w w' :=
  ⟨h.os, h.tape, h.output, h.size, fun k hk hn => h.block k hk (fun e => hn (ho k e.symm))⟩
theorem Turned.setCell {own : Nat → Prop} (w : World) (a : Addr) (u : Value) (ho : own a.block) : Turned own w (w.setCell a u) :=
  ⟨rfl, rfl, rfl, by simp [World.setCell], fun k hk hn => Below.heap_setCell _ _ _ _ (fun e => hn (by rw [e]; exact ho))⟩
theorem Turned.alloc {own : Nat → Prop} (w : World) (o : Obj) : Turned own w (w.alloc o) := ⟨rfl, rfl, rfl, by simp, fun k hk _ => Below.heap_alloc _ _ _ hk⟩
theorem Turned.drew {own : Nat → Prop} (w : World) : Turned own w w.drew := ⟨rfl, rfl, rfl, Nat.le_refl _, fun _ _ _ => rfl⟩
theorem Turned.mono {own own' : Nat → Prop} {w w' : World} (h : Turned own w w') (ho : ∀ k, own k → own' k) : Turned own' w w' := ⟨h.os, h.tape, h.output, h.size, fun k hk hn => h.keep k hk (fun e => hn (ho k e))⟩

/-- What is owned behind a turn: what was, and whatever is new. -/
def More (own : Nat → Prop) (w w' : World) : Nat → Prop := fun k => own k ∨ (w.heap.size ≤ k ∧ k < w'.heap.size)

abbrev Row (w : World) (v : Value) (xs : List Int) : Prop := w.ownsRow 0 2 1 v xs.length (ints xs)
theorem Row.lt {w : World} {v : Value} {xs : List Int} (h : Row w v xs) {k : Nat} (hk : v.ownBlock = some k) : k < w.heap.size := (World.ownsRow.lt h k hk).2
theorem Row.kept {w w' : World} {v : Value} {xs : List Int} (h : Row w v xs) (hk : ∀ k, v.ownBlock = some k → w'.heap[k]? = w.heap[k]?) : Row w' v xs := by
  refine ⟨h.1, ?_⟩
  rcases h.2 with h2 | ⟨g, cap, cur, rfl, hb, hg, r⟩
  · exact .inl h2
  · exact .inr ⟨g, cap, cur, rfl, hb, (hk g rfl).trans hg, r⟩
/-- The row's block. -/
theorem Row.block {w : World} {v : Value} {xs : List Int} (h : Row w v xs) {k : Nat} (hk : v.ownBlock = some k) : ∃ cur, w.heap[k]? = some (.cells cur 2 (0, 0)) := by
  rcases h.2 with ⟨rfl, _⟩ | ⟨g, cap, cur, rfl, hb, hg, r⟩
  · simp [Value.ownBlock] at hk
  · simp [Value.ownBlock] at hk
    subst hk
    exact ⟨cur, hg⟩

theorem ne_types {w : World} {a b : Nat} {cs cs' : Array Value} {t t' : TypeId} (h : w.heap[a]? = some (.cells cs t (0, 0))) (h' : w.heap[b]? = some (.cells cs' t' (0, 0))) (ht : t ≠ t') : a ≠ b := by
  intro e
  subst e
  rw [h] at h'
  simp only [Option.some.injEq, Obj.cells.injEq] at h'
  exact ht h'.2.1
theorem ne_map {w : World} {a b : Nat} {cs : Array Value} {t : TypeId} {es : Array MapEntry} {n : Nat} (h : w.heap[a]? = some (.cells cs t (0, 0))) (h' : w.heap[b]? = some (.map es n)) : a ≠ b := by
  intro e
  subst e
  rw [h] at h'
  cases h'

/-- How a guard lies: its block g, its map m, a block a class, a row a class; all of them owned. -/
structure At (w : World) (g : Nat) (s : St) (own : Nat → Prop) (m : Nat) (bs : Nat → Nat) (vs : Nat → Value) : Prop where
  head : w.heap[g]? = some (.cells #[.int .i64 s.bits, .int .i64 s.window, .int .i64 s.life, .int .i64 s.now, .map (some m)] 49 (0, 0))
  map : w.heap[m]? = some (.map (ents bs 0 s.n).toArray s.n)
  cls : ∀ i, i < s.n → w.heap[bs i]? = some (.cells #[.int .i64 (s.next i), vs i] 52 (0, 0))
  row : ∀ i, i < s.n → Row w (vs i) (s.ats i)
  nd : ∀ i j, i < s.n → j < s.n → bs i = bs j → i = j
  rd : ∀ i j, i < s.n → j < s.n → ∀ k, (vs i).ownBlock = some k → (vs j).ownBlock = some k → i = j
  og : own g
  om : own m
  ob : ∀ i, i < s.n → own (bs i)
  ov : ∀ i, i < s.n → ∀ k, (vs i).ownBlock = some k → own k
def GuardAt (w : World) (g : Nat) (s : St) (own : Nat → Prop) : Prop := (∀ k, own k → k < w.heap.size) ∧ ∃ m bs vs, At w g s own m bs vs

theorem At.kept {w w' : World} {g : Nat} {s : St} {own : Nat → Prop} {m : Nat} {bs : Nat → Nat} {vs : Nat → Value} (h : At w g s own m bs vs) (hk : ∀ k, own k → w'.heap[k]? = w.heap[k]?) : At w' g s own m bs vs :=
  ⟨(hk g h.og).trans h.head, (hk m h.om).trans h.map, fun i hi => (hk _ (h.ob i hi)).trans (h.cls i hi), fun i hi => (h.row i hi).kept (fun k e => hk k (h.ov i hi k e)), h.nd, h.rd, h.og, h.om, h.ob, h.ov⟩
theorem At.mono {w : World} {g : Nat} {s : St} {own own' : Nat → Prop} {m : Nat} {bs : Nat → Nat} {vs : Nat → Value} (h : At w g s own m bs vs) (ho : ∀ k, own k → own' k) : At w g s own' m bs vs :=
  ⟨h.head, h.map, h.cls, h.row, h.nd, h.rd, ho _ h.og, ho _ h.om, fun i hi => ho _ (h.ob i hi), fun i hi k e => ho _ (h.ov i hi k e)⟩
/-- Whatever keeps what is owned keeps the guard. -/
theorem GuardAt.kept {w w' : World} {g : Nat} {s : St} {own : Nat → Prop} (h : GuardAt w g s own) (hs : w.heap.size ≤ w'.heap.size) (hk : ∀ k, own k → w'.heap[k]? = w.heap[k]?) : GuardAt w' g s own := by
  obtain ⟨hl, m, bs, vs, h⟩ := h
  exact ⟨fun k hk' => Nat.lt_of_lt_of_le (hl k hk') hs, m, bs, vs, h.kept hk⟩
theorem GuardAt.below {w w' : World} {g : Nat} {s : St} {own : Nat → Prop} (h : GuardAt w g s own) (hb : Below w.heap.size w w') : GuardAt w' g s own := h.kept hb.size (fun k hk => hb.block k (h.1 k hk))
theorem GuardAt.turned {w w' : World} {g : Nat} {s : St} {own o2 : Nat → Prop} (h : GuardAt w g s own) (hb : Turned o2 w w') (hd : ∀ k, own k → ¬ o2 k) : GuardAt w' g s own := h.kept hb.size (fun k hk => hb.keep k (h.1 k hk) (hd k hk))
theorem GuardAt.mono {w : World} {g : Nat} {s : St} {own own' : Nat → Prop} (h : GuardAt w g s own) (ho : ∀ k, own k → own' k) (hl : ∀ k, own' k → k < w.heap.size) : GuardAt w g s own' := by
  obtain ⟨_, m, bs, vs, h⟩ := h
  exact ⟨hl, m, bs, vs, h.mono ho⟩

theorem blk_set {w : World} {g : Nat} {cs : Array Value} {t : TypeId} (h : w.heap[g]? = some (.cells cs t (0, 0))) (j : Nat) (u : Value) : (w.setCell ⟨g, j, none⟩ u).heap[g]? = some (.cells (cs.setIfInBounds j u) t (0, 0)) := by
  simp [World.setCell, Array.getElem?_modify, h]
theorem blk_at {w : World} {g : Nat} {cs : Array Value} {t : TypeId} (h : w.heap[g]? = some (.cells cs t (0, 0))) (j : Nat) : w.cell? ⟨g, j, none⟩ = cs[j]? := cell_of_row w g j cs t (0, 0) h
theorem blk_free {w : World} {g : Nat} {cs : Array Value} {t : TypeId} (h : w.heap[g]? = some (.cells cs t (0, 0))) (j : Nat) : w.frozen? ⟨g, j, none⟩ = false := frozen_of_row w g j cs t h

/-- The clock is set. -/
theorem At.tick {w : World} {g : Nat} {s : St} {own : Nat → Prop} {m : Nat} {bs : Nat → Nat} {vs : Nat → Value} (h : At w g s own m bs vs) (t : Int) :
    At (w.setCell ⟨g, 3, none⟩ (.int .i64 t)) g { s with now := t } own m bs vs := by
  have ho : ∀ k, k ≠ g → (w.setCell ⟨g, 3, none⟩ (.int .i64 t)).heap[k]? = w.heap[k]? := fun k hk => Below.heap_setCell _ _ _ _ hk
  refine ⟨(blk_set h.head 3 (.int .i64 t)).trans rfl, ?_, fun i hi => ?_, fun i hi => (h.row i hi).kept (fun k e => ?_), h.nd, h.rd, h.og, h.om, h.ob, h.ov⟩
  · rw [ho m (fun e => ne_map h.head h.map e.symm)]
    exact h.map
  · rw [ho _ (ne_types (h.cls i hi) h.head (by decide))]
    exact h.cls i hi
  · obtain ⟨cur, hc⟩ := (h.row i hi).block e
    exact ho k (ne_types hc h.head (by decide))

/-- A class is written. -/
theorem At.put {w w' : World} {g : Nat} {s : St} {own : Nat → Prop} {m : Nat} {bs : Nat → Nat} {vs : Nat → Value} (h : At w g s own m bs vs) (hl : ∀ k, own k → k < w.heap.size) (i : Nat) (hi : i < s.n) (q : Int) (v : Value) (xs : List Int)
    (hk : ∀ k, own k → k ≠ bs i → (vs i).ownBlock ≠ some k → w'.heap[k]? = w.heap[k]?) (hc : w'.heap[bs i]? = some (.cells #[.int .i64 q, v] 52 (0, 0))) (hr : Row w' v xs)
    (hv : ∀ k, v.ownBlock = some k → (vs i).ownBlock = some k ∨ w.heap.size ≤ k) (own' : Nat → Prop) (ho : ∀ k, own k → own' k) (hv' : ∀ k, v.ownBlock = some k → own' k) :
    At w' g { s with next := upd s.next i q, ats := upd s.ats i xs } own' m bs (upd vs i v) := by
  have hnr : ∀ k, (vs i).ownBlock = some k → ∃ cur, w.heap[k]? = some (.cells cur 2 (0, 0)) := fun k e => (h.row i hi).block e
  refine ⟨?_, ?_, fun j hj => ?_, fun j hj => ?_, h.nd, fun a b ha hb k => ?_, ho _ h.og, ho _ h.om, fun j hj => ho _ (h.ob j hj), fun j hj k => ?_⟩
  · rw [hk g h.og (ne_types h.head (h.cls i hi) (by decide)) (fun e => by obtain ⟨cur, hc⟩ := hnr g e; exact ne_types hc h.head (by decide) rfl)]
    exact h.head
  · rw [hk m h.om (fun e => ne_map (h.cls i hi) h.map e.symm) (fun e => by obtain ⟨cur, hc⟩ := hnr m e; exact ne_map hc h.map rfl)]
    exact h.map
  · by_cases e : j = i
    · subst e
      show w'.heap[bs j]? = some (.cells #[.int .i64 (upd s.next j q j), upd vs j v j] 52 (0, 0))
      rw [upd_same, upd_same]
      exact hc
    · show w'.heap[bs j]? = some (.cells #[.int .i64 (upd s.next i q j), upd vs i v j] 52 (0, 0))
      rw [upd_other _ _ e, upd_other _ _ e, hk _ (h.ob j hj) (fun e' => e (h.nd j i hj hi e')) (fun e' => by obtain ⟨cur, hc⟩ := hnr _ e'; exact ne_types hc (h.cls j hj) (by decide) rfl)]
      exact h.cls j hj
  · by_cases e : j = i
    · subst e
      show Row w' (upd vs j v j) (upd s.ats j xs j)
      rw [upd_same, upd_same]
      exact hr
    · show Row w' (upd vs i v j) (upd s.ats i xs j)
      rw [upd_other _ _ e, upd_other _ _ e]
      refine (h.row j hj).kept (fun k ek => hk k (h.ov j hj k ek) (fun e' => ?_) (fun e' => e (h.rd j i hj hi k ek e')))
      obtain ⟨cur, hc⟩ := (h.row j hj).block ek
      exact ne_types hc (h.cls i hi) (by decide) e'
  · show (upd vs i v a).ownBlock = some k → (upd vs i v b).ownBlock = some k → a = b
    have hfar : ∀ j, j < s.n → j ≠ i → (vs j).ownBlock = some k → v.ownBlock ≠ some k := fun j hj e ek ev => by
      rcases hv k ev with h1 | h1
      · exact e (h.rd j i hj hi k ek h1)
      · have := hl k (h.ov j hj k ek)
        omega
    by_cases ea : a = i
    · by_cases eb : b = i
      · intro _ _
        rw [ea, eb]
      · rw [ea, upd_same, upd_other _ _ eb]
        intro e1 e2
        exact absurd e1 (hfar b hb eb e2)
    · by_cases eb : b = i
      · rw [eb, upd_same, upd_other _ _ ea]
        intro e1 e2
        exact absurd e2 (hfar a ha ea e1)
      · rw [upd_other _ _ ea, upd_other _ _ eb]
        exact h.rd a b ha hb k
  · show (upd vs i v j).ownBlock = some k → own' k
    by_cases e : j = i
    · subst e
      rw [upd_same]
      exact hv' k
    · rw [upd_other _ _ e]
      exact fun ek => ho k (h.ov j hj k ek)
end Go.Proofs.Ytbaebohhbnomoaa.G
