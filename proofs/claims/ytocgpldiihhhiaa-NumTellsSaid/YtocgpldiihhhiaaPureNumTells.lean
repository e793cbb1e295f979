/- NumTells: whether any numbers are some, their sums and distances, and which is less, are the document's, of any bits. No condition. -/
import Derived.Test.YtocgpldiihhhiaaPNumTellsx1
namespace Go.Proofs.Ytocgpldiihhhiaa.Pure
open Go.RowKit Go.Proofs.Ytocgpldiihhhiaa.PNumTells Go.Proofs.YtocgpldiihhhiaaW.PrintWords Go.Proofs.YtocgpldiihhhiaaW.PrintLast

theorem all_f (s : Int) : bowlineref01_all.f s = some (NumPlain.all s) := by
  unfold bowlineref01_all.f NumPlain.all
  split
  · rfl
  · split <;> rfl

theorem right_f (s a : Int) : bowlineref01_Right.f s a = some (NumPlain.right s a) := by
  unfold bowlineref01_Right.f NumPlain.right
  rw [all_f]
  by_cases h : 0 ≤ a <;> simp [h]

theorem wf_i64_bounds {n : Int} (h : (Lit.int .i64 n).wf = true) : -9223372036854775808 ≤ n ∧ n ≤ 9223372036854775807 := by
  simpa [Lit.wf, IntKind.min, IntKind.max, IntKind.signed, IntKind.bits] using h

theorem tmod_bounds (n m : Int) (hm : 0 < m) : -m < n.tmod m ∧ n.tmod m < m ∧ (n - n.tmod m) % m = 0 := by
  refine ⟨?_, Int.tmod_lt_of_pos n hm, ?_⟩
  · have h := Int.tmod_lt_of_pos (-n) hm
    rw [Int.neg_tmod] at h
    omega
  · have h := Int.mul_tdiv_add_tmod n m
    have : n - n.tmod m = m * (n.tdiv m) := by omega
    rw [this, Int.mul_emod_right]

theorem add_f (s a n : Int) : bowlineref01_Add.f s a n = some (NumPlain.add s a n) := by
  unfold bowlineref01_Add.f NumPlain.add
  rw [right_f, all_f]
  simp only [Option.bind_some]
  by_cases h : NumPlain.right s a = true
  · obtain ⟨h0, h1⟩ := Hand.in_range h
    rw [if_pos h, if_pos h]
    rcases NumPlain.all_pos s a h with rfl | rfl
    · rw [NumPlain.all_12] at *
      obtain ⟨t0, t1, t2⟩ := tmod_bounds n 4096 (by omega)
      generalize n.tmod 4096 = t at *
      rw [if_neg (by omega)]
      have e1 : wrap64 (a + t) = a + t := by unfold wrap64; omega
      rw [e1]
      have e2 : wrap64 (a + t + 4096) = a + t + 4096 := by unfold wrap64; omega
      rw [e2, Int.tmod_eq_emod_of_nonneg (by omega)]
      congr 1
      omega
    · rw [NumPlain.all_24] at *
      obtain ⟨t0, t1, t2⟩ := tmod_bounds n 16777216 (by omega)
      generalize n.tmod 16777216 = t at *
      rw [if_neg (by omega)]
      have e1 : wrap64 (a + t) = a + t := by unfold wrap64; omega
      rw [e1]
      have e2 : wrap64 (a + t + 16777216) = a + t + 16777216 := by unfold wrap64; omega
      rw [e2, Int.tmod_eq_emod_of_nonneg (by omega)]
      congr 1
      omega
  · rw [if_neg h, if_neg h]

theorem diffM_f (m a b : Int) (h0 : 0 ≤ a) (h1 : a < m) (h2 : 0 ≤ b) (h3 : b < m) (hm : m = 4096 ∨ m = 16777216) :
    (if m = 0 then none else (if (Int.tmod (wrap64 ((wrap64 (a - b)) + m)) m) > (wrap64 (Int.tdiv m 2)) then (some (wrap64 ((Int.tmod (wrap64 ((wrap64 (a - b)) + m)) m) - m))) else (some (Int.tmod (wrap64 ((wrap64 (a - b)) + m)) m)))) = some (NumPlain.diffM m a b) := by
  have e1 : wrap64 (a - b) = a - b := by unfold wrap64; omega
  have e2 : wrap64 (a - b + m) = a - b + m := by unfold wrap64; omega
  have e3 : wrap64 (m.tdiv 2) = m / 2 := by rw [Int.tdiv_eq_ediv_of_nonneg (by omega)]; unfold wrap64; omega
  have e4 : (a - b + m).tmod m = (a - b) % m := by rw [Int.tmod_eq_emod_of_nonneg (by omega), Int.add_emod_right]
  rw [if_neg (by omega), e1, e2, e3, e4]
  unfold NumPlain.diffM
  have g0 : 0 ≤ (a - b) % m := Int.emod_nonneg _ (by omega)
  have g1 : (a - b) % m < m := Int.emod_lt_of_pos _ (by omega)
  generalize (a - b) % m = d at *
  by_cases h : m / 2 < d
  · rw [if_pos h, if_pos h]
    have : wrap64 (d - m) = d - m := by unfold wrap64; omega
    rw [this]
  · rw [if_neg h, if_neg h]

theorem diff_f (k : Nat) (s a b : Int) : bowlineref01_Diff.f (k + 1) s a b = some (NumPlain.diff s a b) := by
  unfold bowlineref01_Diff.f
  rw [right_f, right_f]
  simp only [Option.bind_some, bowlineref01_Diff.j0]
  by_cases ha : NumPlain.right s a = true
  · by_cases hb : NumPlain.right s b = true
    · rw [Hand.diff_right ha hb]
      obtain ⟨a0, a1⟩ := Hand.in_range ha
      obtain ⟨b0, b1⟩ := Hand.in_range hb
      rw [ha, hb, all_f]
      simp only [Option.bind_some, if_true, Bool.not_true, Bool.false_eq_true, if_false]
      exact diffM_f _ a b a0 a1 b0 b1 (by rcases NumPlain.all_pos s a ha with rfl | rfl <;> simp [NumPlain.all])
    · rw [Hand.diff_wrong (fun h => hb h.2)]
      simp [ha, hb]
  · rw [Hand.diff_wrong (fun h => ha h.1)]
    simp [ha]

theorem head_f : bowlinelaw01_head.f = some true := by decide +kernel

theorem NumTells : bowlinelaw01_NumTells.Pure := by
  intro a0 a1 a2 a3 _ _ _ _
  refine ⟨1, ?_⟩
  unfold bowlinelaw01_NumTells.f bowlineref01_Less.f num_Less.f num_Right.f num_Add.f num_Diff.f
  rw [head_f, right_f, add_f, diff_f 0]
  simp

end Go.Proofs.Ytocgpldiihhhiaa.Pure
