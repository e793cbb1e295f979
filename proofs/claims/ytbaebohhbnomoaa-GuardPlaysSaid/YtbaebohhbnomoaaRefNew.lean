/- The document's own guard: New. -/
import Derived.Test.YtbaebohhbnomoaaRef
import Derived.Test.YtbaebohhbnomoaaNew
import Derived.OwnWalk
namespace Go.Proofs.Ytbaebohhbnomoaa.G
open Go.RowKit
set_option linter.unusedVariables false
set_option linter.unusedSimpArgs false

theorem info37 : (Try.prog.info? 37).map (fun i => (i.zero, i.size, i.bytes)) = some (some (.slice none 0 0), 1, 24) := by kernel_rfl
def rnewS (bits classes window life : Int) : RSt := { bits := bits, window := window, life := life, nx := List.replicate classes.toNat 0, ats := fun _ => [], now := 0 }
theorem rnew_end {B N gn ga r : Nat} {bits window life : Int} {w X : World} (hB : B ≤ w.heap.size) (hb : Below w.heap.size w X) (h1 : X.heap[gn]? = some (.cells (madeCells #[.int .i64 0] N) 3 (0, 0))) (h2 : X.heap[ga]? = some (.cells (madeCells #[.slice none 0 0] N) 37 (0, 0)))
    (h3 : X.heap[r]? = some (.cells #[.int .i64 bits, .int .i64 window, .int .i64 life, .slice (some ⟨gn, 0, none⟩) N N, .slice (some ⟨ga, 0, none⟩) N N, .int .i64 0] 55 (0, 0))) (p1 : w.heap.size ≤ gn) (p2 : w.heap.size ≤ ga) (p3 : w.heap.size ≤ r) (hN0 : 1 ≤ N) (hN1 : N ≤ 16) :
    RHeld B X r (rnewS bits N window life) (Since w.heap.size X) := by
  have lt : ∀ {g : Nat} {o : Obj}, X.heap[g]? = some o → g < X.heap.size := fun h => (Array.getElem?_eq_some_iff.1 h).1
  have el : (rnewS bits N window life).nx.length = N := by show (List.replicate ((N : Int).toNat) (0 : Int)).length = N; simp
  refine ⟨⟨gn, N, ga, N, List.replicate N (.slice none 0 0), ?_⟩, fun k hk => hk.2, fun k hk => Nat.le_trans hB hk.1, Nat.le_trans hB hb.size⟩
  refine ⟨?_, ?_, by rw [el]; simp, ?_, fun i hi => ?_, by rw [el]; exact hN1, by rw [el]; exact hN0, ⟨p3, lt h3⟩, ⟨p1, lt h1⟩, ⟨p2, lt h2⟩, fun i hi k e => ?_, fun i hi _ => ?_⟩
  · rw [el]
    exact h3
  · unfold RowI
    rw [el]
    refine ⟨by simp [ints, rnewS], .inr ⟨gn, N, _, rfl, Nat.zero_le _, h1, Nat.le_refl _, by unfold maxLen; omega, by simp [madeCells], ?_⟩⟩
    rw [toList_madeCells_one]
    simp [ints, rnewS]
  · unfold RowV
    rw [List.length_replicate]
    refine ⟨by simp, .inr ⟨ga, N, _, rfl, Nat.zero_le _, h2, Nat.le_refl _, by unfold maxLen; omega, by simp [madeCells], ?_⟩⟩
    rw [toList_madeCells_one]
    simp
  · rw [el] at hi
    rw [List.getD_eq_getElem?_getD, List.getElem?_replicate, if_pos hi]
    exact World.ownsRow_nil _ _ _ _
  · rw [el] at hi
    rw [List.getD_eq_getElem?_getD, List.getElem?_replicate, if_pos hi] at e
    simp [Value.ownBlock] at e
  · rw [el] at hi
    rw [List.getD_eq_getElem?_getD, List.getElem?_replicate, if_pos hi]
    rfl
def RMadePost (B : Nat) (s : RSt) (w : World) (e : Ending) (w' : World) : Prop := ∃ r, e = .returned (.pointer (some ⟨r, 0, none⟩)) ∧ RHeld B w' r s (Since w.heap.size w') ∧ Below w.heap.size w w'

set_option maxHeartbeats 3200000 in
theorem rnew12 (B : Nat) (classes window life : Int) (w : World) (v : Valid 12 classes window life) (hB : B ≤ w.heap.size) :
    Calls Try.prog 11 #[.int .i64 12, .int .i64 classes, .int .i64 window, .int .i64 life] w (RMadePost B (rnewS 12 classes window life) w) := by
  obtain ⟨i0, hi0, hz0, hz1, hz2⟩ := info_parts info3
  obtain ⟨j0, hj0, hy0, hy1, hy2⟩ := info_parts info37
  obtain ⟨_, c0, c1, w0, w1', l0, l1⟩ := v
  have w1 : window ≤ 1024 := w1'
  obtain ⟨N, rfl⟩ : ∃ N : Nat, classes = (N : Int) := ⟨classes.toNat, by omega⟩
  have hmake1 : ∀ W : World, (Instr.makeSlice 38 (.int .i64 (N : Int)) (.int .i64 (N : Int))).run Try.prog W = .ok (.slice (some ⟨W.heap.size, 0, none⟩) N N) (W.alloc (.cells (madeCells #[.int .i64 0] N) 3)) := fun W => by
    have h := run_make (P := Try.prog) W 38 3 i0 _ Try.underlying38 hi0 hz0 .i64 .i64 N N (by omega) (Int.le_refl _) (by rw [hz2]; omega) (by omega)
    rw [hz1, show (Value.int IntKind.i64 0).cells = #[.int .i64 0] from rfl] at h
    simpa using h
  have hmake2 : ∀ W : World, (Instr.makeSlice 53 (.int .i64 (N : Int)) (.int .i64 (N : Int))).run Try.prog W = .ok (.slice (some ⟨W.heap.size, 0, none⟩) N N) (W.alloc (.cells (madeCells #[.slice none 0 0] N) 37)) := fun W => by
    have h := run_make (P := Try.prog) W 53 37 j0 _ Try.underlying53 hj0 hy0 .i64 .i64 N N (by omega) (Int.le_refl _) (by rw [hy2]; omega) (by omega)
    rw [hy1, show (Value.slice none 0 0).cells = #[.slice none 0 0] from rfl] at h
    simpa using h
  have d1 : decide ((N : Int) < 1) = false := by simpa using c0
  have d2 : decide (16 < (N : Int)) = false := by simpa using c1
  have d3 : decide (window < 1) = false := by simpa using w0
  have d4 : decide (1024 < window) = false := by simpa using w1
  have d5 : decide (life < 1) = false := by simpa using l0
  have d6 : decide (1099511627776 < life) = false := by simpa using l1
  go_enter Try.func11, Try.ntmps11
  go_wp2_with fail
  go_region
  · go_wp2_with fail
    refine bodyPost_ret (results_tmp rfl _ _ _) rfl ?_
    have X1 := heap_alloc_new w (Obj.cells (madeCells #[Value.int IntKind.i64 0] N) 3)
    have X2 := heap_alloc_new (w.alloc (Obj.cells (madeCells #[Value.int IntKind.i64 0] N) 3)) (Obj.cells (madeCells #[Value.slice none 0 0] N) 37)
    have X3 := heap_alloc_new ((w.alloc (Obj.cells (madeCells #[Value.int IntKind.i64 0] N) 3)).alloc (Obj.cells (madeCells #[Value.slice none 0 0] N) 37)) (Obj.cells #[Value.int IntKind.i64 12, Value.int IntKind.i64 window, Value.int IntKind.i64 life, Value.slice (some ⟨w.heap.size, 0, none⟩) N N, Value.slice (some ⟨w.heap.size + 1, 0, none⟩) N N, Value.int IntKind.i64 0] 55)
    have hb := (((Below.refl w.heap.size w).alloc (Nat.le_refl _) (Obj.cells (madeCells #[Value.int IntKind.i64 0] N) 3)).alloc (by simp) (Obj.cells (madeCells #[Value.slice none 0 0] N) 37)).alloc (by simp; omega) (Obj.cells #[Value.int IntKind.i64 12, Value.int IntKind.i64 window, Value.int IntKind.i64 life, Value.slice (some ⟨w.heap.size, 0, none⟩) N N, Value.slice (some ⟨w.heap.size + 1, 0, none⟩) N N, Value.int IntKind.i64 0] 55)
    simp only [World.size_alloc] at X2 X3
    exact ⟨_, rfl, rnew_end hB hb.drew ((Below.heap_alloc _ _ _ (by simp; omega)).trans ((Below.heap_alloc _ _ _ (by simp)).trans X1)) ((Below.heap_alloc _ _ _ (by simp)).trans X2) X3 (Nat.le_refl _) (by omega) (by omega) (by omega) (by omega), hb.drew⟩
  · go_wp2_with fail
    refine bodyPost_ret (results_tmp rfl _ _ _) rfl ?_
    have X1 := heap_alloc_new w (Obj.cells (madeCells #[Value.slice none 0 0] N) 37)
    have X2 := heap_alloc_new (w.alloc (Obj.cells (madeCells #[Value.slice none 0 0] N) 37)) (Obj.cells (madeCells #[Value.int IntKind.i64 0] N) 3)
    have X3 := heap_alloc_new ((w.alloc (Obj.cells (madeCells #[Value.slice none 0 0] N) 37)).alloc (Obj.cells (madeCells #[Value.int IntKind.i64 0] N) 3)) (Obj.cells #[Value.int IntKind.i64 12, Value.int IntKind.i64 window, Value.int IntKind.i64 life, Value.slice (some ⟨w.heap.size + 1, 0, none⟩) N N, Value.slice (some ⟨w.heap.size, 0, none⟩) N N, Value.int IntKind.i64 0] 55)
    have hb := (((Below.refl w.heap.size w).alloc (Nat.le_refl _) (Obj.cells (madeCells #[Value.slice none 0 0] N) 37)).alloc (by simp) (Obj.cells (madeCells #[Value.int IntKind.i64 0] N) 3)).alloc (by simp; omega) (Obj.cells #[Value.int IntKind.i64 12, Value.int IntKind.i64 window, Value.int IntKind.i64 life, Value.slice (some ⟨w.heap.size + 1, 0, none⟩) N N, Value.slice (some ⟨w.heap.size, 0, none⟩) N N, Value.int IntKind.i64 0] 55)
    simp only [World.size_alloc] at X2 X3
    exact ⟨_, rfl, rnew_end hB hb.drew ((Below.heap_alloc _ _ _ (by simp)).trans X2) ((Below.heap_alloc _ _ _ (by simp; omega)).trans ((Below.heap_alloc _ _ _ (by simp)).trans X1)) X3 (by omega) (Nat.le_refl _) (by omega) (by omega) (by omega), hb.drew⟩
set_option maxHeartbeats 3200000 in
theorem rnew24 (B : Nat) (classes window life : Int) (w : World) (v : Valid 24 classes window life) (hB : B ≤ w.heap.size) :
    Calls Try.prog 11 #[.int .i64 24, .int .i64 classes, .int .i64 window, .int .i64 life] w (RMadePost B (rnewS 24 classes window life) w) := by
  obtain ⟨i0, hi0, hz0, hz1, hz2⟩ := info_parts info3
  obtain ⟨j0, hj0, hy0, hy1, hy2⟩ := info_parts info37
  obtain ⟨_, c0, c1, w0, w1', l0, l1⟩ := v
  have w1 : window ≤ 4194304 := w1'
  obtain ⟨N, rfl⟩ : ∃ N : Nat, classes = (N : Int) := ⟨classes.toNat, by omega⟩
  have hmake1 : ∀ W : World, (Instr.makeSlice 38 (.int .i64 (N : Int)) (.int .i64 (N : Int))).run Try.prog W = .ok (.slice (some ⟨W.heap.size, 0, none⟩) N N) (W.alloc (.cells (madeCells #[.int .i64 0] N) 3)) := fun W => by
    have h := run_make (P := Try.prog) W 38 3 i0 _ Try.underlying38 hi0 hz0 .i64 .i64 N N (by omega) (Int.le_refl _) (by rw [hz2]; omega) (by omega)
    rw [hz1, show (Value.int IntKind.i64 0).cells = #[.int .i64 0] from rfl] at h
    simpa using h
  have hmake2 : ∀ W : World, (Instr.makeSlice 53 (.int .i64 (N : Int)) (.int .i64 (N : Int))).run Try.prog W = .ok (.slice (some ⟨W.heap.size, 0, none⟩) N N) (W.alloc (.cells (madeCells #[.slice none 0 0] N) 37)) := fun W => by
    have h := run_make (P := Try.prog) W 53 37 j0 _ Try.underlying53 hj0 hy0 .i64 .i64 N N (by omega) (Int.le_refl _) (by rw [hy2]; omega) (by omega)
    rw [hy1, show (Value.slice none 0 0).cells = #[.slice none 0 0] from rfl] at h
    simpa using h
  have d1 : decide ((N : Int) < 1) = false := by simpa using c0
  have d2 : decide (16 < (N : Int)) = false := by simpa using c1
  have d3 : decide (window < 1) = false := by simpa using w0
  have d4 : decide (4194304 < window) = false := by simpa using w1
  have d5 : decide (life < 1) = false := by simpa using l0
  have d6 : decide (1099511627776 < life) = false := by simpa using l1
  go_enter Try.func11, Try.ntmps11
  go_wp2_with fail
  go_region
  · go_wp2_with fail
    refine bodyPost_ret (results_tmp rfl _ _ _) rfl ?_
    have X1 := heap_alloc_new w (Obj.cells (madeCells #[Value.int IntKind.i64 0] N) 3)
    have X2 := heap_alloc_new (w.alloc (Obj.cells (madeCells #[Value.int IntKind.i64 0] N) 3)) (Obj.cells (madeCells #[Value.slice none 0 0] N) 37)
    have X3 := heap_alloc_new ((w.alloc (Obj.cells (madeCells #[Value.int IntKind.i64 0] N) 3)).alloc (Obj.cells (madeCells #[Value.slice none 0 0] N) 37)) (Obj.cells #[Value.int IntKind.i64 24, Value.int IntKind.i64 window, Value.int IntKind.i64 life, Value.slice (some ⟨w.heap.size, 0, none⟩) N N, Value.slice (some ⟨w.heap.size + 1, 0, none⟩) N N, Value.int IntKind.i64 0] 55)
    have hb := (((Below.refl w.heap.size w).alloc (Nat.le_refl _) (Obj.cells (madeCells #[Value.int IntKind.i64 0] N) 3)).alloc (by simp) (Obj.cells (madeCells #[Value.slice none 0 0] N) 37)).alloc (by simp; omega) (Obj.cells #[Value.int IntKind.i64 24, Value.int IntKind.i64 window, Value.int IntKind.i64 life, Value.slice (some ⟨w.heap.size, 0, none⟩) N N, Value.slice (some ⟨w.heap.size + 1, 0, none⟩) N N, Value.int IntKind.i64 0] 55)
    simp only [World.size_alloc] at X2 X3
    exact ⟨_, rfl, rnew_end hB hb.drew ((Below.heap_alloc _ _ _ (by simp; omega)).trans ((Below.heap_alloc _ _ _ (by simp)).trans X1)) ((Below.heap_alloc _ _ _ (by simp)).trans X2) X3 (Nat.le_refl _) (by omega) (by omega) (by omega) (by omega), hb.drew⟩
  · go_wp2_with fail
    refine bodyPost_ret (results_tmp rfl _ _ _) rfl ?_
    have X1 := heap_alloc_new w (Obj.cells (madeCells #[Value.slice none 0 0] N) 37)
    have X2 := heap_alloc_new (w.alloc (Obj.cells (madeCells #[Value.slice none 0 0] N) 37)) (Obj.cells (madeCells #[Value.int IntKind.i64 0] N) 3)
    have X3 := heap_alloc_new ((w.alloc (Obj.cells (madeCells #[Value.slice none 0 0] N) 37)).alloc (Obj.cells (madeCells #[Value.int IntKind.i64 0] N) 3)) (Obj.cells #[Value.int IntKind.i64 24, Value.int IntKind.i64 window, Value.int IntKind.i64 life, Value.slice (some ⟨w.heap.size + 1, 0, none⟩) N N, Value.slice (some ⟨w.heap.size, 0, none⟩) N N, Value.int IntKind.i64 0] 55)
    have hb := (((Below.refl w.heap.size w).alloc (Nat.le_refl _) (Obj.cells (madeCells #[Value.slice none 0 0] N) 37)).alloc (by simp) (Obj.cells (madeCells #[Value.int IntKind.i64 0] N) 3)).alloc (by simp; omega) (Obj.cells #[Value.int IntKind.i64 24, Value.int IntKind.i64 window, Value.int IntKind.i64 life, Value.slice (some ⟨w.heap.size + 1, 0, none⟩) N N, Value.slice (some ⟨w.heap.size, 0, none⟩) N N, Value.int IntKind.i64 0] 55)
    simp only [World.size_alloc] at X2 X3
    exact ⟨_, rfl, rnew_end hB hb.drew ((Below.heap_alloc _ _ _ (by simp)).trans X2) ((Below.heap_alloc _ _ _ (by simp; omega)).trans ((Below.heap_alloc _ _ _ (by simp)).trans X1)) X3 (by omega) (Nat.le_refl _) (by omega) (by omega) (by omega), hb.drew⟩

set_option maxHeartbeats 3200000 in
theorem rnew_bad12 (classes window life : Int) (w : World) (h : ¬ Valid 12 classes window life) : Calls Try.prog 11 #[.int .i64 12, .int .i64 classes, .int .i64 window, .int .i64 life] w (NilPost w) := by
  have hv : classes < 1 ∨ 16 < classes ∨ window < 1 ∨ 1024 < window ∨ life < 1 ∨ 1099511627776 < life := by
    have hq : quarter 12 = 1024 := rfl
    refine Classical.byContradiction fun hn => h ⟨by omega, by omega, by omega, by omega, by omega, by omega, by omega⟩
  clear h
  by_cases h1 : classes < 1
  · have d1 : decide (classes < 1) = true := decide_eq_true h1
    go_enter Try.func11, Try.ntmps11
    go_wp2_with fail
    go_ret
    exact ⟨rfl, Below.refl _ _⟩
  have d1 : decide (classes < 1) = false := decide_eq_false h1
  by_cases h2 : 16 < classes
  · have d2 : decide (16 < classes) = true := decide_eq_true h2
    go_enter Try.func11, Try.ntmps11
    go_wp2_with fail
    go_ret
    exact ⟨rfl, Below.refl _ _⟩
  have d2 : decide (16 < classes) = false := decide_eq_false h2
  by_cases h3 : window < 1
  · have d3 : decide (window < 1) = true := decide_eq_true h3
    go_enter Try.func11, Try.ntmps11
    go_wp2_with fail
    go_ret
    exact ⟨rfl, Below.refl _ _⟩
  have d3 : decide (window < 1) = false := decide_eq_false h3
  by_cases h4 : 1024 < window
  · have d4 : decide (1024 < window) = true := decide_eq_true h4
    go_enter Try.func11, Try.ntmps11
    go_wp2_with fail
    go_ret
    exact ⟨rfl, Below.refl _ _⟩
  have d4 : decide (1024 < window) = false := decide_eq_false h4
  by_cases h5 : life < 1
  · have d5 : decide (life < 1) = true := decide_eq_true h5
    go_enter Try.func11, Try.ntmps11
    go_wp2_with fail
    go_ret
    exact ⟨rfl, Below.refl _ _⟩
  have d5 : decide (life < 1) = false := decide_eq_false h5
  have d6 : decide (1099511627776 < life) = true := decide_eq_true (by omega)
  go_enter Try.func11, Try.ntmps11
  go_wp2_with fail
  go_ret
  exact ⟨rfl, Below.refl _ _⟩

set_option maxHeartbeats 3200000 in
theorem rnew_bad24 (classes window life : Int) (w : World) (h : ¬ Valid 24 classes window life) : Calls Try.prog 11 #[.int .i64 24, .int .i64 classes, .int .i64 window, .int .i64 life] w (NilPost w) := by
  have hv : classes < 1 ∨ 16 < classes ∨ window < 1 ∨ 4194304 < window ∨ life < 1 ∨ 1099511627776 < life := by
    have hq : quarter 24 = 4194304 := rfl
    refine Classical.byContradiction fun hn => h ⟨by omega, by omega, by omega, by omega, by omega, by omega, by omega⟩
  clear h
  by_cases h1 : classes < 1
  · have d1 : decide (classes < 1) = true := decide_eq_true h1
    go_enter Try.func11, Try.ntmps11
    go_wp2_with fail
    go_ret
    exact ⟨rfl, Below.refl _ _⟩
  have d1 : decide (classes < 1) = false := decide_eq_false h1
  by_cases h2 : 16 < classes
  · have d2 : decide (16 < classes) = true := decide_eq_true h2
    go_enter Try.func11, Try.ntmps11
    go_wp2_with fail
    go_ret
    exact ⟨rfl, Below.refl _ _⟩
  have d2 : decide (16 < classes) = false := decide_eq_false h2
  by_cases h3 : window < 1
  · have d3 : decide (window < 1) = true := decide_eq_true h3
    go_enter Try.func11, Try.ntmps11
    go_wp2_with fail
    go_ret
    exact ⟨rfl, Below.refl _ _⟩
  have d3 : decide (window < 1) = false := decide_eq_false h3
  by_cases h4 : 4194304 < window
  · have d4 : decide (4194304 < window) = true := decide_eq_true h4
    go_enter Try.func11, Try.ntmps11
    go_wp2_with fail
    go_ret
    exact ⟨rfl, Below.refl _ _⟩
  have d4 : decide (4194304 < window) = false := decide_eq_false h4
  by_cases h5 : life < 1
  · have d5 : decide (life < 1) = true := decide_eq_true h5
    go_enter Try.func11, Try.ntmps11
    go_wp2_with fail
    go_ret
    exact ⟨rfl, Below.refl _ _⟩
  have d5 : decide (life < 1) = false := decide_eq_false h5
  have d6 : decide (1099511627776 < life) = true := decide_eq_true (by omega)
  go_enter Try.func11, Try.ntmps11
  go_wp2_with fail
  go_ret
  exact ⟨rfl, Below.refl _ _⟩

set_option maxHeartbeats 1600000 in
theorem rnew_bits (bits classes window life : Int) (w : World) (h1 : bits ≠ 12) (h2 : bits ≠ 24) : Calls Try.prog 11 #[.int .i64 bits, .int .i64 classes, .int .i64 window, .int .i64 life] w (NilPost w) := by
  have e1 : (bits == 24) = false := beq_eq_false_iff_ne.2 h2
  have e2 : (bits != 12) = true := by simpa using h1
  have e3 : (bits != 24) = true := by simpa using h2
  go_enter Try.func11, Try.ntmps11
  go_wp2_with fail
  go_ret
  exact ⟨rfl, Below.refl _ _⟩
theorem rnew_bad (bits classes window life : Int) (w : World) (v : ¬ Valid bits classes window life) : Calls Try.prog 11 #[.int .i64 bits, .int .i64 classes, .int .i64 window, .int .i64 life] w (NilPost w) := by
  by_cases h1 : bits = 12
  · subst h1
    exact rnew_bad12 classes window life w v
  · by_cases h2 : bits = 24
    · subst h2
      exact rnew_bad24 classes window life w v
    · exact rnew_bits bits classes window life w h1 h2
theorem rnew_yes (B : Nat) (bits classes window life : Int) (w : World) (v : Valid bits classes window life) (hB : B ≤ w.heap.size) :
    Calls Try.prog 11 #[.int .i64 bits, .int .i64 classes, .int .i64 window, .int .i64 life] w (RMadePost B (rnewS bits classes window life) w) := by
  rcases v.b with rfl | rfl
  · exact rnew12 B classes window life w v hB
  · exact rnew24 B classes window life w v hB
end Go.Proofs.Ytbaebohhbnomoaa.G
