/- guard.New. -/
import Derived.Test.YtbaebohhbnomoaaLives
import Derived.Maps.Own
namespace Go.Proofs.Ytbaebohhbnomoaa.G
open Go.RowKit
set_option linter.unusedVariables false
set_option linter.unusedSimpArgs false

/-- What New makes. -/
def newS (bits classes window life : Int) : St := { bits := bits, window := window, life := life, now := 0, n := classes.toNat, next := fun _ => 0, ats := fun _ => [] }
def quarter (bits : Int) : Int := NumPlain.all bits / 4
structure Valid (bits classes window life : Int) : Prop where
  b : bits = 12 ∨ bits = 24
  c0 : 1 ≤ classes
  c1 : classes ≤ 16
  w0 : 1 ≤ window
  w1 : window ≤ quarter bits
  l0 : 1 ≤ life
  l1 : life ≤ 1099511627776
theorem Valid.ok {bits classes window life : Int} (h : Valid bits classes window life) : Ok (newS bits classes window life) := by
  have hq : quarter bits ≤ 4194304 ∧ 4096 ≤ NumPlain.all bits := by
    rcases h.b with rfl | rfl <;> decide
  have := h.w1
  have := h.w0
  have := h.c0
  have := h.c1
  exact ⟨h.b, h.w0, by show window ≤ _; omega, h.l0, h.l1, by show (0 : Int) ≤ 0; omega, by show (0 : Int) ≤ _; omega, by show 1 ≤ classes.toNat; omega, by show classes.toNat ≤ 16; omega, fun i _ => ⟨Int.le_refl 0, by show (0 : Int) < NumPlain.all bits; omega⟩, fun i _ j hj => absurd hj (by show ¬ j < 0; omega), fun i _ => by show ((0 : Nat) : Int) ≤ window; omega⟩

def made (bits window life : Int) (k : Nat) : St := { bits := bits, window := window, life := life, now := 0, n := k, next := fun _ => 0, ats := fun _ => [] }

theorem At.grow {wr : World} {g m k : Nat} {bits window life : Int} {own : Nat → Prop} {bs : Nat → Nat} (h : At wr g (made bits window life k) own m bs (fun _ => .slice none 0 0)) (hl : ∀ j, own j → j < wr.heap.size) :
    At (ChangeMaps.setBlock (wr.alloc (.cells #[.int .i64 0, .slice none 0 0] 52)) m (.map (ents (upd bs k wr.heap.size) 0 (k + 1)).toArray (k + 1))) g (made bits window life (k + 1)) (fun j => own j ∨ j = wr.heap.size) m (upd bs k wr.heap.size) (fun _ => .slice none 0 0) := by
  have hm : (wr.alloc (.cells #[.int .i64 0, .slice none 0 0] 52)).heap[m]? = some (.map (ents bs 0 k).toArray k) := (Below.heap_alloc _ _ _ (hl m h.om)).trans h.map
  have ho : ∀ j, j ≠ m → (ChangeMaps.setBlock (wr.alloc (.cells #[.int .i64 0, .slice none 0 0] 52)) m (.map (ents (upd bs k wr.heap.size) 0 (k + 1)).toArray (k + 1))).heap[j]? = (wr.alloc (.cells #[.int .i64 0, .slice none 0 0] 52)).heap[j]? := fun j hj => ChangeMaps.heap_setBlock_other hm _ hj
  have hbs : ∀ i, i < k → bs i < wr.heap.size := fun i hi => hl _ (h.ob i hi)
  refine ⟨?_, ChangeMaps.heap_setBlock_same hm _, fun i hi => ?_, fun i hi => World.ownsRow_nil _ _ _ _, fun i j hi hj e => ?_, fun i j hi hj q e => by simp [Value.ownBlock] at e, .inl h.og, .inl h.om, fun i hi => ?_, fun i hi q e => by simp [Value.ownBlock] at e⟩
  · rw [ho g (ne_map h.head h.map), Below.heap_alloc _ _ _ (hl g h.og)]
    exact h.head
  · have hi' : i < k + 1 := hi
    by_cases e : i = k
    · subst e
      rw [upd_same, ho _ (by have := hl m h.om; omega)]
      exact heap_alloc_new _ _
    · have hik : i < k := by omega
      rw [upd_other _ _ e, ho _ (ne_map (h.cls i hik) h.map), Below.heap_alloc _ _ _ (hbs i hik)]
      exact h.cls i hik
  · have hi' : i < k + 1 := hi
    have hj' : j < k + 1 := hj
    by_cases ei : i = k
    · by_cases ej : j = k
      · omega
      · have := hbs j (by omega)
        rw [ei, upd_same, upd_other _ _ ej] at e
        omega
    · by_cases ej : j = k
      · have := hbs i (by omega)
        rw [ej, upd_same, upd_other _ _ ei] at e
        omega
      · rw [upd_other _ _ ei, upd_other _ _ ej] at e
        exact h.nd i j (by show i < k; omega) (by show j < k; omega) e
  · have hi' : i < k + 1 := hi
    by_cases e : i = k
    · rw [e, upd_same]
      exact .inr rfl
    · rw [upd_other _ _ e]
      exact .inl (h.ob i (by show i < k; omega))

/-- What the call owns: all that is new since block B. -/
def Since (B : Nat) (w : World) : Nat → Prop := fun j => B ≤ j ∧ j < w.heap.size

theorem since_grow {B : Nat} {wr : World} {o : Obj} {m : Nat} {o2 : Obj} (hB : B ≤ wr.heap.size) (j : Nat) (hj : Since B wr j ∨ j = wr.heap.size) : Since B (ChangeMaps.setBlock (wr.alloc o) m o2) j := by
  have hs : (ChangeMaps.setBlock (wr.alloc o) m o2).heap.size = wr.heap.size + 1 := by simp [ChangeMaps.setBlock]
  unfold Since at *
  rw [hs]
  omega
theorem below_put {B : Nat} {wr : World} (hB : B ≤ wr.heap.size) (o : Obj) (es : Array MapEntry) (n : Nat) : Below B wr (ChangeMaps.setBlock (wr.alloc o) B (.map es n)) :=
  ⟨rfl, rfl, rfl, by simp [ChangeMaps.setBlock], fun k hk => by
    show ((wr.alloc o).heap.setIfInBounds B (.map es n))[k]? = _
    rw [Array.getElem?_setIfInBounds_ne (by omega), Below.heap_alloc _ _ _ (by omega)]⟩

def NewPost (s : St) (w : World) (e : Ending) (w' : World) : Prop := ∃ g, e = .returned (.pointer (some ⟨g, 0, none⟩)) ∧ GuardAt w' g s (Since w.heap.size w') ∧ Below w.heap.size w w'

set_option maxHeartbeats 3200000 in
theorem new12 (classes window life : Int) (w : World) (v : Valid 12 classes window life) :
    Calls Try.prog 10 #[.int .i64 12, .int .i64 classes, .int .i64 window, .int .i64 life] w (NewPost (newS 12 classes window life) w) := by
  obtain ⟨_, c0, c1, w0, w1', l0, l1⟩ := v
  have w1 : window ≤ 1024 := w1'
  have hmm := @run_makeMap Try.prog
  have d1 : decide (classes < 1) = false := by simpa using c0
  have d2 : decide (16 < classes) = false := by simpa using c1
  have d3 : decide (window < 1) = false := by simpa using w0
  have d4 : decide (1024 < window) = false := by simpa using w1
  have d5 : decide (life < 1) = false := by simpa using l0
  have d6 : decide (1099511627776 < life) = false := by simpa using l1
  go_enter Try.func10, Try.ntmps10
  go_wp2_with (go_at_call 20; refine (Hand.right_any _ _ _).mono ?_; rintro e w' ⟨rfl, rfl⟩; rw [show NumPlain.right 12 0 = true from rfl])
  generalize hW : (w.alloc (Obj.map #[] 0)).alloc (Obj.cells #[Value.int IntKind.i64 12, Value.int IntKind.i64 window, Value.int IntKind.i64 life, Value.int IntKind.i64 0, Value.map (some w.heap.size)] 49) = W
  have hS : W.heap.size = w.heap.size + 2 := by
    subst hW
    simp
  have hBel : Below w.heap.size w W := by
    subst hW
    exact ((Below.refl _ _).alloc (Nat.le_refl _) _).alloc (by simp) _
  have hAt : At W (w.heap.size + 1) (made 12 window life 0) (Since w.heap.size W) w.heap.size (fun _ => 0) (fun _ => .slice none 0 0) := by
    subst hW
    refine ⟨?_, ?_, fun i hi => absurd hi (by show ¬ i < 0; omega), fun i hi => absurd hi (by show ¬ i < 0; omega), fun i j hi => absurd hi (by show ¬ i < 0; omega), fun i j hi => absurd hi (by show ¬ i < 0; omega), ⟨by omega, by simp⟩, ⟨by omega, by simp; omega⟩, fun i hi => absurd hi (by show ¬ i < 0; omega), fun i hi => absurd hi (by show ¬ i < 0; omega)⟩
    · have h1 := heap_alloc_new (w.alloc (Obj.map #[] 0)) (Obj.cells #[Value.int IntKind.i64 12, Value.int IntKind.i64 window, Value.int IntKind.i64 life, Value.int IntKind.i64 0, Value.map (some w.heap.size)] 49)
      rw [World.size_alloc] at h1
      exact h1
    · rw [Below.heap_alloc _ _ _ (by simp)]
      exact heap_alloc_new w (Obj.map #[] 0)
  have HAt := Lib.hid hAt
  have HBel := Lib.hid hBel
  have HS := Lib.hid hS
  clear hW hAt hBel hS
  go_loopw [48] (fun i wr => ∃ k : Nat, (k : Int) ≤ classes ∧ i = .int .i64 k ∧ Hid (∃ bs, At wr (w.heap.size + 1) (made 12 window life k) (Since w.heap.size wr) w.heap.size bs (fun _ => .slice none 0 0)) ∧ Hid (Below w.heap.size w wr)) (fun i _ => (classes - intOf i).toNat)
  case atStart => exact ⟨0, by omega, rfl, Lib.hid ⟨_, HAt.out⟩, HBel⟩
  case round =>
    obtain ⟨k, hk, rfl, hA, hB⟩ := hrel
    by_cases hlt : (k : Int) < classes
    · obtain ⟨bs, ha⟩ := hA.out
      have c4 : wr.cell? ⟨w.heap.size + 1, 4, none⟩ = some (.map (some w.heap.size)) := (blk_at ha.head 4).trans rfl
      have c4b : ∀ o : Obj, (wr.alloc o).cell? ⟨w.heap.size + 1, 4, none⟩ = some (.map (some w.heap.size)) := fun o => (World.cell?_of_block (Below.heap_alloc wr o _ (ha.og).2)).trans c4
      have hm : (wr.alloc (.cells #[.int .i64 0, .slice none 0 0] 52)).heap[w.heap.size]? = some (.map (ents (upd bs k wr.heap.size) 0 k).toArray k) := by
        rw [Below.heap_alloc _ _ _ ha.om.2, ← ents_same (bs := bs) k 0 (fun j hj => by rw [upd_other _ _ (by omega)])]
        exact ha.map
      have hput := run_put _ w.heap.size (upd bs k wr.heap.size) k hm wr.heap.size (by simp [Lit.wf, IntKind.min, IntKind.max, IntKind.signed, IntKind.bits]; omega) (upd_same _ _ _)
      have hsz : w.heap.size ≤ wr.heap.size := hB.out.size
      have HA := Lib.hid (ha.grow (fun j hj => hj.2))
      clear ha hm
      go_wp2_with fail
      go_roundw
      case rel => exact ⟨k + 1, by omega, by go_num, Lib.hid ⟨_, HA.out.mono (since_grow hsz)⟩, Lib.hid (hB.out.trans (below_put hsz _ _ _))⟩
      case measure => simp [intOf]; omega
    · go_wp2_with fail
      go_ret
      obtain ⟨bs, ha⟩ := hA.out
      obtain rfl : k = classes.toNat := by omega
      exact ⟨w.heap.size + 1, rfl, ⟨fun j hj => hj.2, _, bs, _, ha⟩, hB.out⟩
set_option maxHeartbeats 3200000 in
theorem new24 (classes window life : Int) (w : World) (v : Valid 24 classes window life) :
    Calls Try.prog 10 #[.int .i64 24, .int .i64 classes, .int .i64 window, .int .i64 life] w (NewPost (newS 24 classes window life) w) := by
  obtain ⟨_, c0, c1, w0, w1', l0, l1⟩ := v
  have w1 : window ≤ 4194304 := w1'
  have hmm := @run_makeMap Try.prog
  have d1 : decide (classes < 1) = false := by simpa using c0
  have d2 : decide (16 < classes) = false := by simpa using c1
  have d3 : decide (window < 1) = false := by simpa using w0
  have d4 : decide (4194304 < window) = false := by simpa using w1
  have d5 : decide (life < 1) = false := by simpa using l0
  have d6 : decide (1099511627776 < life) = false := by simpa using l1
  go_enter Try.func10, Try.ntmps10
  go_wp2_with (go_at_call 20; refine (Hand.right_any _ _ _).mono ?_; rintro e w' ⟨rfl, rfl⟩; rw [show NumPlain.right 24 0 = true from rfl])
  generalize hW : (w.alloc (Obj.map #[] 0)).alloc (Obj.cells #[Value.int IntKind.i64 24, Value.int IntKind.i64 window, Value.int IntKind.i64 life, Value.int IntKind.i64 0, Value.map (some w.heap.size)] 49) = W
  have hS : W.heap.size = w.heap.size + 2 := by
    subst hW
    simp
  have hBel : Below w.heap.size w W := by
    subst hW
    exact ((Below.refl _ _).alloc (Nat.le_refl _) _).alloc (by simp) _
  have hAt : At W (w.heap.size + 1) (made 24 window life 0) (Since w.heap.size W) w.heap.size (fun _ => 0) (fun _ => .slice none 0 0) := by
    subst hW
    refine ⟨?_, ?_, fun i hi => absurd hi (by show ¬ i < 0; omega), fun i hi => absurd hi (by show ¬ i < 0; omega), fun i j hi => absurd hi (by show ¬ i < 0; omega), fun i j hi => absurd hi (by show ¬ i < 0; omega), ⟨by omega, by simp⟩, ⟨by omega, by simp; omega⟩, fun i hi => absurd hi (by show ¬ i < 0; omega), fun i hi => absurd hi (by show ¬ i < 0; omega)⟩
    · have h1 := heap_alloc_new (w.alloc (Obj.map #[] 0)) (Obj.cells #[Value.int IntKind.i64 24, Value.int IntKind.i64 window, Value.int IntKind.i64 life, Value.int IntKind.i64 0, Value.map (some w.heap.size)] 49)
      rw [World.size_alloc] at h1
      exact h1
    · rw [Below.heap_alloc _ _ _ (by simp)]
      exact heap_alloc_new w (Obj.map #[] 0)
  have HAt := Lib.hid hAt
  have HBel := Lib.hid hBel
  have HS := Lib.hid hS
  clear hW hAt hBel hS
  go_loopw [48] (fun i wr => ∃ k : Nat, (k : Int) ≤ classes ∧ i = .int .i64 k ∧ Hid (∃ bs, At wr (w.heap.size + 1) (made 24 window life k) (Since w.heap.size wr) w.heap.size bs (fun _ => .slice none 0 0)) ∧ Hid (Below w.heap.size w wr)) (fun i _ => (classes - intOf i).toNat)
  case atStart => exact ⟨0, by omega, rfl, Lib.hid ⟨_, HAt.out⟩, HBel⟩
  case round =>
    obtain ⟨k, hk, rfl, hA, hB⟩ := hrel
    by_cases hlt : (k : Int) < classes
    · obtain ⟨bs, ha⟩ := hA.out
      have c4 : wr.cell? ⟨w.heap.size + 1, 4, none⟩ = some (.map (some w.heap.size)) := (blk_at ha.head 4).trans rfl
      have c4b : ∀ o : Obj, (wr.alloc o).cell? ⟨w.heap.size + 1, 4, none⟩ = some (.map (some w.heap.size)) := fun o => (World.cell?_of_block (Below.heap_alloc wr o _ (ha.og).2)).trans c4
      have hm : (wr.alloc (.cells #[.int .i64 0, .slice none 0 0] 52)).heap[w.heap.size]? = some (.map (ents (upd bs k wr.heap.size) 0 k).toArray k) := by
        rw [Below.heap_alloc _ _ _ ha.om.2, ← ents_same (bs := bs) k 0 (fun j hj => by rw [upd_other _ _ (by omega)])]
        exact ha.map
      have hput := run_put _ w.heap.size (upd bs k wr.heap.size) k hm wr.heap.size (by simp [Lit.wf, IntKind.min, IntKind.max, IntKind.signed, IntKind.bits]; omega) (upd_same _ _ _)
      have hsz : w.heap.size ≤ wr.heap.size := hB.out.size
      have HA := Lib.hid (ha.grow (fun j hj => hj.2))
      clear ha hm
      go_wp2_with fail
      go_roundw
      case rel => exact ⟨k + 1, by omega, by go_num, Lib.hid ⟨_, HA.out.mono (since_grow hsz)⟩, Lib.hid (hB.out.trans (below_put hsz _ _ _))⟩
      case measure => simp [intOf]; omega
    · go_wp2_with fail
      go_ret
      obtain ⟨bs, ha⟩ := hA.out
      obtain rfl : k = classes.toNat := by omega
      exact ⟨w.heap.size + 1, rfl, ⟨fun j hj => hj.2, _, bs, _, ha⟩, hB.out⟩

/-- May a guard be so? -/
def valid (bits classes window life : Int) : Bool := NumPlain.right bits 0 && decide (1 ≤ classes) && decide (classes ≤ 16) && decide (1 ≤ window) && decide (window ≤ quarter bits) && decide (1 ≤ life) && decide (life ≤ 1099511627776)
theorem valid_iff {bits classes window life : Int} : valid bits classes window life = true ↔ Valid bits classes window life := by
  unfold valid
  simp only [Bool.and_eq_true, decide_eq_true_eq]
  constructor
  · rintro ⟨⟨⟨⟨⟨⟨h, h1⟩, h2⟩, h3⟩, h4⟩, h5⟩, h6⟩
    exact ⟨NumPlain.all_pos _ _ h, h1, h2, h3, h4, h5, h6⟩
  · rintro ⟨hb, h1, h2, h3, h4, h5, h6⟩
    refine ⟨⟨⟨⟨⟨⟨?_, h1⟩, h2⟩, h3⟩, h4⟩, h5⟩, h6⟩
    rcases hb with rfl | rfl <;> rfl

def NilPost (w : World) (e : Ending) (w' : World) : Prop := e = .returned (.pointer none) ∧ Below w.heap.size w w'

set_option maxHeartbeats 1600000 in
theorem new_bits (bits classes window life : Int) (w : World) (h : NumPlain.right bits 0 = false) : Calls Try.prog 10 #[.int .i64 bits, .int .i64 classes, .int .i64 window, .int .i64 life] w (NilPost w) := by
  have H := Lib.hid h
  clear h
  go_enter Try.func10, Try.ntmps10
  go_wp2_with (go_at_call 20; refine (Hand.right_any _ _ _).mono ?_; rintro e w' ⟨rfl, rfl⟩; rw [H.out])
  go_ret
  exact ⟨rfl, Below.refl _ _⟩

set_option maxHeartbeats 3200000 in
theorem new_bad12 (classes window life : Int) (w : World) (h : ¬ Valid 12 classes window life) : Calls Try.prog 10 #[.int .i64 12, .int .i64 classes, .int .i64 window, .int .i64 life] w (NilPost w) := by
  have hv : classes < 1 ∨ 16 < classes ∨ window < 1 ∨ 1024 < window ∨ life < 1 ∨ 1099511627776 < life := by
    have hq : quarter 12 = 1024 := rfl
    refine Classical.byContradiction fun hn => h ⟨by omega, by omega, by omega, by omega, by omega, by omega, by omega⟩
  clear h
  by_cases h1 : classes < 1
  · have d1 : decide (classes < 1) = true := decide_eq_true h1
    go_enter Try.func10, Try.ntmps10
    go_wp2_with (go_at_call 20; refine (Hand.right_any _ _ _).mono ?_; rintro e w' ⟨rfl, rfl⟩; rw [show NumPlain.right 12 0 = true from rfl])
    go_ret
    exact ⟨rfl, Below.refl _ _⟩
  have d1 : decide (classes < 1) = false := decide_eq_false h1
  by_cases h2 : 16 < classes
  · have d2 : decide (16 < classes) = true := decide_eq_true h2
    go_enter Try.func10, Try.ntmps10
    go_wp2_with (go_at_call 20; refine (Hand.right_any _ _ _).mono ?_; rintro e w' ⟨rfl, rfl⟩; rw [show NumPlain.right 12 0 = true from rfl])
    go_ret
    exact ⟨rfl, Below.refl _ _⟩
  have d2 : decide (16 < classes) = false := decide_eq_false h2
  by_cases h3 : window < 1
  · have d3 : decide (window < 1) = true := decide_eq_true h3
    go_enter Try.func10, Try.ntmps10
    go_wp2_with (go_at_call 20; refine (Hand.right_any _ _ _).mono ?_; rintro e w' ⟨rfl, rfl⟩; rw [show NumPlain.right 12 0 = true from rfl])
    go_ret
    exact ⟨rfl, Below.refl _ _⟩
  have d3 : decide (window < 1) = false := decide_eq_false h3
  by_cases h4 : 1024 < window
  · have d4 : decide (1024 < window) = true := decide_eq_true h4
    go_enter Try.func10, Try.ntmps10
    go_wp2_with (go_at_call 20; refine (Hand.right_any _ _ _).mono ?_; rintro e w' ⟨rfl, rfl⟩; rw [show NumPlain.right 12 0 = true from rfl])
    go_ret
    exact ⟨rfl, Below.refl _ _⟩
  have d4 : decide (1024 < window) = false := decide_eq_false h4
  by_cases h5 : life < 1
  · have d5 : decide (life < 1) = true := decide_eq_true h5
    go_enter Try.func10, Try.ntmps10
    go_wp2_with (go_at_call 20; refine (Hand.right_any _ _ _).mono ?_; rintro e w' ⟨rfl, rfl⟩; rw [show NumPlain.right 12 0 = true from rfl])
    go_ret
    exact ⟨rfl, Below.refl _ _⟩
  have d5 : decide (life < 1) = false := decide_eq_false h5
  have d6 : decide (1099511627776 < life) = true := decide_eq_true (by omega)
  go_enter Try.func10, Try.ntmps10
  go_wp2_with (go_at_call 20; refine (Hand.right_any _ _ _).mono ?_; rintro e w' ⟨rfl, rfl⟩; rw [show NumPlain.right 12 0 = true from rfl])
  go_ret
  exact ⟨rfl, Below.refl _ _⟩

set_option maxHeartbeats 3200000 in
theorem new_bad24 (classes window life : Int) (w : World) (h : ¬ Valid 24 classes window life) : Calls Try.prog 10 #[.int .i64 24, .int .i64 classes, .int .i64 window, .int .i64 life] w (NilPost w) := by
  have hv : classes < 1 ∨ 16 < classes ∨ window < 1 ∨ 4194304 < window ∨ life < 1 ∨ 1099511627776 < life := by
    have hq : quarter 24 = 4194304 := rfl
    refine Classical.byContradiction fun hn => h ⟨by omega, by omega, by omega, by omega, by omega, by omega, by omega⟩
  clear h
  by_cases h1 : classes < 1
  · have d1 : decide (classes < 1) = true := decide_eq_true h1
    go_enter Try.func10, Try.ntmps10
    go_wp2_with (go_at_call 20; refine (Hand.right_any _ _ _).mono ?_; rintro e w' ⟨rfl, rfl⟩; rw [show NumPlain.right 24 0 = true from rfl])
    go_ret
    exact ⟨rfl, Below.refl _ _⟩
  have d1 : decide (classes < 1) = false := decide_eq_false h1
  by_cases h2 : 16 < classes
  · have d2 : decide (16 < classes) = true := decide_eq_true h2
    go_enter Try.func10, Try.ntmps10
    go_wp2_with (go_at_call 20; refine (Hand.right_any _ _ _).mono ?_; rintro e w' ⟨rfl, rfl⟩; rw [show NumPlain.right 24 0 = true from rfl])
    go_ret
    exact ⟨rfl, Below.refl _ _⟩
  have d2 : decide (16 < classes) = false := decide_eq_false h2
  by_cases h3 : window < 1
  · have d3 : decide (window < 1) = true := decide_eq_true h3
    go_enter Try.func10, Try.ntmps10
    go_wp2_with (go_at_call 20; refine (Hand.right_any _ _ _).mono ?_; rintro e w' ⟨rfl, rfl⟩; rw [show NumPlain.right 24 0 = true from rfl])
    go_ret
    exact ⟨rfl, Below.refl _ _⟩
  have d3 : decide (window < 1) = false := decide_eq_false h3
  by_cases h4 : 4194304 < window
  · have d4 : decide (4194304 < window) = true := decide_eq_true h4
    go_enter Try.func10, Try.ntmps10
    go_wp2_with (go_at_call 20; refine (Hand.right_any _ _ _).mono ?_; rintro e w' ⟨rfl, rfl⟩; rw [show NumPlain.right 24 0 = true from rfl])
    go_ret
    exact ⟨rfl, Below.refl _ _⟩
  have d4 : decide (4194304 < window) = false := decide_eq_false h4
  by_cases h5 : life < 1
  · have d5 : decide (life < 1) = true := decide_eq_true h5
    go_enter Try.func10, Try.ntmps10
    go_wp2_with (go_at_call 20; refine (Hand.right_any _ _ _).mono ?_; rintro e w' ⟨rfl, rfl⟩; rw [show NumPlain.right 24 0 = true from rfl])
    go_ret
    exact ⟨rfl, Below.refl _ _⟩
  have d5 : decide (life < 1) = false := decide_eq_false h5
  have d6 : decide (1099511627776 < life) = true := decide_eq_true (by omega)
  go_enter Try.func10, Try.ntmps10
  go_wp2_with (go_at_call 20; refine (Hand.right_any _ _ _).mono ?_; rintro e w' ⟨rfl, rfl⟩; rw [show NumPlain.right 24 0 = true from rfl])
  go_ret
  exact ⟨rfl, Below.refl _ _⟩

theorem new_yes (bits classes window life : Int) (w : World) (v : Valid bits classes window life) : Calls Try.prog 10 #[.int .i64 bits, .int .i64 classes, .int .i64 window, .int .i64 life] w (NewPost (newS bits classes window life) w) := by
  rcases v.b with rfl | rfl
  · exact new12 classes window life w v
  · exact new24 classes window life w v
theorem new_no (bits classes window life : Int) (w : World) (v : ¬ Valid bits classes window life) : Calls Try.prog 10 #[.int .i64 bits, .int .i64 classes, .int .i64 window, .int .i64 life] w (NilPost w) := by
  by_cases hb : NumPlain.right bits 0 = true
  · rcases NumPlain.all_pos _ _ hb with rfl | rfl
    · exact new_bad12 classes window life w v
    · exact new_bad24 classes window life w v
  · exact new_bits bits classes window life w (by simpa using hb)
end Go.Proofs.Ytbaebohhbnomoaa.G
