/- What the batches come to. -/
import Derived.Test.YtelpnlpbjenmkaaPMarkerTellsx6
import Derived.Test.YtelpnlpbjenmkaaPMarkerTellsx9
import Derived.Test.YtelpnlpbjenmkaaTellsB
import Derived.Test.YtelpnlpbjenmkaaTellsC
namespace Go.Proofs.Ytelpnlpbjenmkaa.Tells
set_option linter.unusedVariables false
open Go.RowKit Go.Proofs.Ytelpnlpbjenmkaa.PMarkerTells Go.Proofs.YtelpnlpbjenmkaaW.PrintWords Go.Proofs.YtelpnlpbjenmkaaW.PrintLast

theorem same_l (e b l a : Int) (xs : List Int) (hx : xs.length ≤ 900) (d : Nat) : ∀ (k i : Nat), i ≤ xs.length → xs.length - i = d → d < k →
    bowlineref17_Same.l0 k i e b l a xs e b l a xs = some true := by
  induction d with
  | zero =>
    intro k i hi hd hk
    obtain ⟨k, rfl⟩ : ∃ m, k = m + 1 := ⟨k - 1, by omega⟩
    simp only [bowlineref17_Same.l0]
    rw [if_neg (by omega)]
  | succ d ih =>
    intro k i hi hd hk
    obtain ⟨k, rfl⟩ : ∃ m, k = m + 1 := ⟨k - 1, by omega⟩
    simp only [bowlineref17_Same.l0]
    have e4 : wrap64 ((i : Int) + 1) = ((i + 1 : Nat) : Int) := by unfold wrap64; omega
    rw [e4]
    clear e4
    rw [if_pos (by omega), if_pos (by omega), if_pos (by omega), if_pos trivial]
    exact ih k (i + 1) (by omega) (by omega) (by omega)
theorem same_f (e b l a : Int) (xs : List Int) (k : Nat) (hx : xs.length ≤ 900) (hk : xs.length + 2 ≤ k) : bowlineref17_Same.f k e b l a xs e b l a xs = some true := by
  obtain ⟨k, rfl⟩ : ∃ m, k = m + 1 := ⟨k - 1, by omega⟩
  unfold bowlineref17_Same.f
  rw [if_pos rfl, if_pos rfl, if_pos rfl, if_pos rfl]
  simp only [bowlineref17_Same.j0]
  rw [if_neg (by simp)]
  exact same_l e b l a xs hx xs.length k 0 (by omega) (by omega) (by omega)

theorem right_link {e b a : Int} {xs : List Int} (h : Hand.right e b 0 a xs = true) (i : Nat) (hi : i < xs.length) : Hand.right e b i a xs = true := by
  unfold Hand.right at h ⊢
  simp only [Bool.and_eq_true, decide_eq_true_eq] at h ⊢
  obtain ⟨⟨⟨⟨⟨h1, h2⟩, h3⟩, h4⟩, h5⟩, h6⟩ := h
  exact ⟨⟨⟨⟨⟨h1, h2⟩, h3⟩, h4⟩, by omega, by omega⟩, h6⟩
theorem right_few {e b a : Int} {xs : List Int} (h : Hand.right e b 0 a xs = true) : 1 ≤ xs.length ∧ xs.length ≤ 8 := by
  unfold Hand.right at h
  simp only [Bool.and_eq_true, decide_eq_true_eq] at h
  obtain ⟨⟨⟨⟨⟨h1, h2⟩, h3⟩, h4⟩, h5⟩, h6⟩ := h
  omega

def rows (e b a : Int) (xs : List Int) (n : Nat) : List S24 := (List.range n).map fun i : Nat => (⟨e, b, i, a, xs⟩ : S24)
theorem rows_length (e b a : Int) (xs : List Int) (n : Nat) : (rows e b a xs n).length = n := by simp [rows]
theorem rows_succ (e b a : Int) (xs : List Int) (n : Nat) : rows e b a xs (n + 1) = rows e b a xs n ++ [(⟨e, b, n, a, xs⟩ : S24)] := by simp [rows, List.range_succ]
theorem rows_rd (e b a : Int) (xs : List Int) (n i : Nat) (h : i < n) : rd_T24 (rows e b a xs n) i = ⟨e, b, i, a, xs⟩ := by
  simp [rd_T24, rows, h]

theorem batch_l (e b a : Int) (xs : List Int) (h : Hand.right e b 0 a xs = true) (d : Nat) : ∀ (k i : Nat), i ≤ xs.length → xs.length - i = d → d < k →
    marker_Batch.l0 k e (rows e b a xs i) xs.length i a b xs = some (rows e b a xs xs.length) := by
  obtain ⟨_, h8⟩ := right_few h
  induction d with
  | zero =>
    intro k i hi hd hk
    obtain ⟨k, rfl⟩ : ∃ m, k = m + 1 := ⟨k - 1, by omega⟩
    simp only [marker_Batch.l0]
    rw [if_neg (by omega), show i = xs.length by omega]
  | succ d ih =>
    intro k i hi hd hk
    obtain ⟨k, rfl⟩ : ∃ m, k = m + 1 := ⟨k - 1, by omega⟩
    have hi' : i < xs.length := by omega
    simp only [marker_Batch.l0]
    have e4 : wrap64 ((i : Int) + 1) = ((i + 1 : Nat) : Int) := by unfold wrap64; omega
    rw [e4]
    clear e4
    unfold slices_Clone_int64_int64.f marker_Right.f
    rw [if_pos (by omega), if_pos (by omega)]
    simp only [Option.bind_some]
    rw [if_pos (right_link h i hi'), if_pos (Nat.lt_of_le_of_lt (show (rows e b a xs i).length ≤ 8 by rw [rows_length]; omega) (by decide)), ← rows_succ]
    exact ih k (i + 1) (by omega) (by omega) (by omega)
theorem batch_f (e b a : Int) (xs : List Int) (hx : xs.length ≤ 900) (k : Nat) (hk : 20 ≤ k) :
    marker_Batch.f k e a b xs = some (if Hand.right e b 0 a xs = true then rows e b a xs xs.length else []) := by
  unfold marker_Batch.f
  by_cases h : Hand.right e b 0 a xs = true
  · obtain ⟨_, h8⟩ := right_few h
    rw [if_pos h, show mn (xs.length : Int) 9 = xs.length from by unfold mn; split <;> omega]
    exact batch_l e b a xs h xs.length k 0 (by omega) (by omega) (by omega)
  · rw [if_neg h]
    obtain ⟨k, rfl⟩ : ∃ m, k = m + 1 := ⟨k - 1, by omega⟩
    simp only [marker_Batch.l0]
    by_cases h0 : 0 < mn (xs.length : Int) 9
    · rw [if_pos h0]
      unfold slices_Clone_int64_int64.f marker_Right.f
      rw [if_pos (by omega)]
      simp only [Option.bind_some]
      rw [if_neg h]
    · rw [if_neg h0]


theorem ref_batch_l (e b a : Int) (xs : List Int) (h : Hand.right e b 0 a xs = true) (d : Nat) : ∀ (k i : Nat), i ≤ xs.length → xs.length - i = d → d + 20 < k →
    bowlineref17_Batch.l0 k e (rows e b a xs i) i a b xs = some (rows e b a xs xs.length) := by
  obtain ⟨_, h8⟩ := right_few h
  induction d with
  | zero =>
    intro k i hi hd hk
    obtain ⟨k, rfl⟩ : ∃ m, k = m + 1 := ⟨k - 1, by omega⟩
    simp only [bowlineref17_Batch.l0]
    rw [if_neg (by omega), show i = xs.length by omega]
  | succ d ih =>
    intro k i hi hd hk
    obtain ⟨k, rfl⟩ : ∃ m, k = m + 1 := ⟨k - 1, by omega⟩
    have hi' : i < xs.length := by omega
    simp only [bowlineref17_Batch.l0]
    have e4 : wrap64 ((i : Int) + 1) = ((i + 1 : Nat) : Int) := by unfold wrap64; omega
    rw [e4]
    clear e4
    simp only [Option.bind_some, List.nil_append, List.length_nil, Nat.zero_add]
    rw [if_pos (by omega), if_pos (Nat.lt_of_le_of_lt h8 (by decide)), right_f e b i a xs (by omega) k (by omega)]
    simp only [Option.bind_some]
    rw [if_pos (right_link h i hi'), if_pos (Nat.lt_of_le_of_lt (show (rows e b a xs i).length ≤ 8 by rw [rows_length]; omega) (by decide)), ← rows_succ]
    exact ih k (i + 1) (by omega) (by omega) (by omega)
theorem ref_batch_f (e b a : Int) (xs : List Int) (k : Nat) (hk : 40 ≤ k) :
    bowlineref17_Batch.f k e a b xs = some (if Hand.right e b 0 a xs = true then rows e b a xs xs.length else []) := by
  unfold bowlineref17_Batch.f
  by_cases h : Hand.right e b 0 a xs = true
  · obtain ⟨_, h8⟩ := right_few h
    rw [if_pos h, if_neg (by omega)]
    exact ref_batch_l e b a xs h xs.length k 0 (by omega) (by omega) (by omega)
  · rw [if_neg h]
    by_cases h8 : (xs.length : Int) > 8
    · rw [if_pos h8]
    · rw [if_neg h8]
      obtain ⟨k, rfl⟩ : ∃ m, k = m + 1 := ⟨k - 1, by omega⟩
      simp only [bowlineref17_Batch.l0]
      by_cases h0 : (0 : Int) < xs.length
      · rw [if_pos h0]
        simp only [Option.bind_some, List.nil_append, List.length_nil, Nat.zero_add]
        rw [if_pos (Nat.lt_of_le_of_lt (show xs.length ≤ 8 by omega) (by decide)), right_f e b 0 a xs (by omega) k (by omega)]
        simp only [Option.bind_some]
        rw [if_neg h]
      · rw [if_neg h0]
theorem sameall_l (rs : List S24) (hx : ∀ i : Nat, (rd_T24 rs i).f4.length ≤ 900) (hl : rs.length ≤ 100) (d : Nat) : ∀ (k i : Nat), i ≤ rs.length → rs.length - i = d → d + 910 < k →
    bowlineref17_SameAll.l0 k rs rs i = some true := by
  induction d with
  | zero =>
    intro k i hi hd hk
    obtain ⟨k, rfl⟩ : ∃ m, k = m + 1 := ⟨k - 1, by omega⟩
    simp only [bowlineref17_SameAll.l0]
    rw [if_neg (by omega)]
  | succ d ih =>
    intro k i hi hd hk
    obtain ⟨k, rfl⟩ : ∃ m, k = m + 1 := ⟨k - 1, by omega⟩
    simp only [bowlineref17_SameAll.l0]
    have e4 : wrap64 ((i : Int) + 1) = ((i + 1 : Nat) : Int) := by unfold wrap64; omega
    rw [e4]
    clear e4
    rw [if_pos (by omega), if_pos (by omega), if_pos (by omega), same_f _ _ _ _ _ k (hx i) (by have := hx i; omega)]
    simp only [Option.bind_some]
    rw [if_pos trivial]
    exact ih k (i + 1) (by omega) (by omega) (by omega)
theorem sameall_f (e b a : Int) (xs : List Int) (k : Nat) (hk : 1100 ≤ k) (rs : List S24) (hr : rs = if Hand.right e b 0 a xs = true then rows e b a xs xs.length else []) : bowlineref17_SameAll.f k rs rs = some true := by
  unfold bowlineref17_SameAll.f
  rw [if_pos rfl]
  by_cases h : Hand.right e b 0 a xs = true
  · obtain ⟨_, h8⟩ := right_few h
    rw [if_pos h] at hr
    subst hr
    have hl := rows_length e b a xs xs.length
    refine sameall_l _ (fun i => ?_) (by omega) (rows e b a xs xs.length).length k 0 (by omega) (by omega) (by omega)
    by_cases hi : i < xs.length
    · rw [rows_rd _ _ _ _ _ _ hi]
      show xs.length ≤ 900
      omega
    · simp [rd_T24, rows, hi, z24]
  · rw [if_neg h] at hr
    subst hr
    exact sameall_l [] (fun i => by simp [rd_T24, z24]) (by simp) 0 k 0 (by simp) rfl (by omega)
end Go.Proofs.Ytelpnlpbjenmkaa.Tells
