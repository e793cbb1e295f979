/- MarkerBatch: a batch has a marker for each link, that differ in their links alone. No condition. -/
import Derived.Test.YtelpnlpbjenmkaaPMarkerBatchx7
namespace Go.Proofs.Ytelpnlpbjenmkaa.PureBatch
set_option linter.unusedVariables false
open Go.RowKit Go.Proofs.Ytelpnlpbjenmkaa.PMarkerBatch Go.Proofs.YtelpnlpbjenmkaaW.PrintWords Go.Proofs.YtelpnlpbjenmkaaW.PrintLast

theorem same_l (e b l a : Int) (xs : List Int) (hx : xs.length ≤ 900) (d : Nat) : ∀ (k i : Nat), i ≤ xs.length → xs.length - i = d → d < k →
    bowlineref17_Same.l0 k i e b l a xs e b l a xs = some true := by
  induction d with
  | zero =>
    intro k i hi hd hk
    obtain ⟨k, rfl⟩ : ∃ m, k = m + 1 := ⟨k - 1, by omega⟩
    simp only [bowlineref17_Same.l0]
    rw [if_neg (by omega)]
  | succ d ih =>
    intro k i hi hd hk
    obtain ⟨k, rfl⟩ : ∃ m, k = m + 1 := ⟨k - 1, by omega⟩
    simp only [bowlineref17_Same.l0]
    have e4 : wrap64 ((i : Int) + 1) = ((i + 1 : Nat) : Int) := by unfold wrap64; omega
    rw [e4]
    clear e4
    rw [if_pos (by omega), if_pos (by omega), if_pos (by omega), if_pos trivial]
    exact ih k (i + 1) (by omega) (by omega) (by omega)
theorem same_f (e b l a : Int) (xs : List Int) (k : Nat) (hx : xs.length ≤ 900) (hk : xs.length + 2 ≤ k) : bowlineref17_Same.f k e b l a xs e b l a xs = some true := by
  obtain ⟨k, rfl⟩ : ∃ m, k = m + 1 := ⟨k - 1, by omega⟩
  unfold bowlineref17_Same.f
  rw [if_pos rfl, if_pos rfl, if_pos rfl, if_pos rfl]
  simp only [bowlineref17_Same.j0]
  rw [if_neg (by simp)]
  exact same_l e b l a xs hx xs.length k 0 (by omega) (by omega) (by omega)

theorem right_link {e b a : Int} {xs : List Int} (h : Hand.right e b 0 a xs = true) (i : Nat) (hi : i < xs.length) : Hand.right e b i a xs = true := by
  unfold Hand.right at h ⊢
  simp only [Bool.and_eq_true, decide_eq_true_eq] at h ⊢
  obtain ⟨⟨⟨⟨⟨h1, h2⟩, h3⟩, h4⟩, h5⟩, h6⟩ := h
  exact ⟨⟨⟨⟨⟨h1, h2⟩, h3⟩, h4⟩, by omega, by omega⟩, h6⟩
theorem right_few {e b a : Int} {xs : List Int} (h : Hand.right e b 0 a xs = true) : 1 ≤ xs.length ∧ xs.length ≤ 8 := by
  unfold Hand.right at h
  simp only [Bool.and_eq_true, decide_eq_true_eq] at h
  obtain ⟨⟨⟨⟨⟨h1, h2⟩, h3⟩, h4⟩, h5⟩, h6⟩ := h
  omega

def rows (e b a : Int) (xs : List Int) (n : Nat) : List S24 := (List.range n).map fun i : Nat => (⟨e, b, i, a, xs⟩ : S24)
theorem rows_length (e b a : Int) (xs : List Int) (n : Nat) : (rows e b a xs n).length = n := by simp [rows]
theorem rows_succ (e b a : Int) (xs : List Int) (n : Nat) : rows e b a xs (n + 1) = rows e b a xs n ++ [(⟨e, b, n, a, xs⟩ : S24)] := by simp [rows, List.range_succ]
theorem rows_rd (e b a : Int) (xs : List Int) (n i : Nat) (h : i < n) : rd_T24 (rows e b a xs n) i = ⟨e, b, i, a, xs⟩ := by
  simp [rd_T24, rows, h]

theorem batch_l (e b a : Int) (xs : List Int) (h : Hand.right e b 0 a xs = true) (d : Nat) : ∀ (k i : Nat), i ≤ xs.length → xs.length - i = d → d < k →
    marker_Batch.l0 k e (rows e b a xs i) xs.length i a b xs = some (rows e b a xs xs.length) := by
  obtain ⟨_, h8⟩ := right_few h
  induction d with
  | zero =>
    intro k i hi hd hk
    obtain ⟨k, rfl⟩ : ∃ m, k = m + 1 := ⟨k - 1, by omega⟩
    simp only [marker_Batch.l0]
    rw [if_neg (by omega), show i = xs.length by omega]
  | succ d ih =>
    intro k i hi hd hk
    obtain ⟨k, rfl⟩ : ∃ m, k = m + 1 := ⟨k - 1, by omega⟩
    have hi' : i < xs.length := by omega
    simp only [marker_Batch.l0]
    have e4 : wrap64 ((i : Int) + 1) = ((i + 1 : Nat) : Int) := by unfold wrap64; omega
    rw [e4]
    clear e4
    unfold slices_Clone_int64_int64.f marker_Right.f
    rw [if_pos (by omega), if_pos (by omega)]
    simp only [Option.bind_some]
    rw [if_pos (right_link h i hi'), if_pos (Nat.lt_of_le_of_lt (show (rows e b a xs i).length ≤ 8 by rw [rows_length]; omega) (by decide)), ← rows_succ]
    exact ih k (i + 1) (by omega) (by omega) (by omega)
theorem batch_f (e b a : Int) (xs : List Int) (hx : xs.length ≤ 900) (k : Nat) (hk : 20 ≤ k) :
    marker_Batch.f k e a b xs = some (if Hand.right e b 0 a xs = true then rows e b a xs xs.length else []) := by
  unfold marker_Batch.f
  by_cases h : Hand.right e b 0 a xs = true
  · obtain ⟨_, h8⟩ := right_few h
    rw [if_pos h, show mn (xs.length : Int) 9 = xs.length from by unfold mn; split <;> omega]
    exact batch_l e b a xs h xs.length k 0 (by omega) (by omega) (by omega)
  · rw [if_neg h]
    obtain ⟨k, rfl⟩ : ∃ m, k = m + 1 := ⟨k - 1, by omega⟩
    simp only [marker_Batch.l0]
    by_cases h0 : 0 < mn (xs.length : Int) 9
    · rw [if_pos h0]
      unfold slices_Clone_int64_int64.f marker_Right.f
      rw [if_pos (by omega)]
      simp only [Option.bind_some]
      rw [if_neg h]
    · rw [if_neg h0]

theorem law_l (x0 b a : Int) (xs : List Int) (h : Hand.right (wrap64 x0) b 0 a xs = true) (d : Nat) : ∀ (k i : Nat), i ≤ xs.length → xs.length - i = d → d + 20 < k →
    bowlinelaw17_MarkerBatch.l0 k x0 true (rows (wrap64 x0) b a xs xs.length) i a b xs = some true := by
  obtain ⟨_, h8⟩ := right_few h
  have hl := rows_length (wrap64 x0) b a xs xs.length
  induction d with
  | zero =>
    intro k i hi hd hk
    obtain ⟨k, rfl⟩ : ∃ m, k = m + 1 := ⟨k - 1, by omega⟩
    simp only [bowlinelaw17_MarkerBatch.l0]
    rw [hl, if_neg (by omega), if_pos trivial]
    simp
  | succ d ih =>
    intro k i hi hd hk
    obtain ⟨k, rfl⟩ : ∃ m, k = m + 1 := ⟨k - 1, by omega⟩
    have hi' : i < xs.length := by omega
    simp only [bowlinelaw17_MarkerBatch.l0]
    have e4 : wrap64 ((i : Int) + 1) = ((i + 1 : Nat) : Int) := by unfold wrap64; omega
    rw [e4]
    clear e4
    rw [hl, if_pos (by omega), if_pos (by omega), rows_rd _ _ _ _ _ _ hi']
    unfold marker_Right.f
    simp only
    rw [same_f _ _ _ _ _ k (by omega) (by omega)]
    simp only [Option.bind_some]
    rw [if_pos trivial, if_pos (right_link h i hi')]
    exact ih k (i + 1) (by omega) (by omega) (by omega)

theorem MarkerBatch (x0 a b : Int) (xs : List Int) : ∃ k, bowlinelaw17_MarkerBatch.f k x0 a b xs = some true := by
  refine ⟨200, ?_⟩
  unfold bowlinelaw17_MarkerBatch.f bowlinelaw17_head.f
  simp only [Option.bind_some]
  by_cases h9 : (xs.length : Int) > 900
  · rw [if_pos h9]
  · rw [if_neg h9, batch_f _ _ _ _ (by omega) 200 (by omega)]
    simp only [Option.bind_some]
    by_cases h : Hand.right (wrap64 x0) b 0 a xs = true
    · obtain ⟨h1, h8⟩ := right_few h
      rw [if_pos h, rows_length, if_neg (by omega)]
      exact law_l x0 b a xs h xs.length 200 0 (by omega) (by omega) (by omega)
    · rw [if_neg h, if_pos (by simp), if_pos trivial]
      unfold marker_Right.f
      simp only [Option.bind_some]
      rw [Bool.eq_false_iff.mpr h]
      rfl

end Go.Proofs.Ytelpnlpbjenmkaa.PureBatch
namespace Go.Proofs.Ytelpnlpbjenmkaa.Pure
open Go.RowKit Go.Proofs.Ytelpnlpbjenmkaa.PMarkerBatch Go.Proofs.YtelpnlpbjenmkaaW.PrintWords Go.Proofs.YtelpnlpbjenmkaaW.PrintLast
set_option linter.unusedVariables false in
theorem marker_batch_walk (a0 a1_0 a1_1 : Int) (a1_2 : Option Addr) (len1_2 cap1_2 : Nat) (z1_2 : List Int) (w : World)
    (w0 : (Lit.int .u16 a0).wf = true) (w1_0 : (Lit.int .i64 a1_0).wf = true) (w1_1 : (Lit.int .i64 a1_1).wf = true)
    (w1_2 : (a1_2 = none ∧ len1_2 = 0 ∧ cap1_2 = 0 ∧ z1_2 = []) ∨ ∃ x, a1_2 = some x ∧ len1_2 ≤ cap1_2 ∧ cap1_2 ≤ maxLen ∧ z1_2.length = cap1_2 ∧ (∀ i, i < z1_2.length → w.cell? (x.add i) = some (.int .i64 (z1_2.getD i 0))) ∧ ∀ n ∈ z1_2, (Lit.int .i64 n).wf = true) :
    Calls Try.prog 5 #[.int .u16 a0, .agg #[.int .i64 a1_0, .int .i64 a1_1, .slice a1_2 len1_2 cap1_2]] w fun e w' => e = .returned (.bool true) ∧ Below w.heap.size w w' := by
  obtain ⟨l0, rfl, hr0, hm0, hw0, hc0⟩ := ReadsInt.ofRowC w1_2
  obtain ⟨k, h⟩ := PureBatch.MarkerBatch a0 a1_0 a1_1 l0
  refine (bowlinelaw17_MarkerBatch.calls k a0 a1_0 a1_1 _ _ l0 true w (Kd.C_of_reads (d := (0 : Int)) (h1 := fun _ => rfl) hr0) hc0 h).mono ?_
  rintro e w' ⟨rfl, hd⟩
  exact ⟨rfl, hd⟩
end Go.Proofs.Ytelpnlpbjenmkaa.Pure
