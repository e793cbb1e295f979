/- The other way: bytes that are right are what Put makes of what they say. -/
import Derived.Test.YtelpnlpbjenmkaaMkPlain
namespace Go.Proofs.Ytelpnlpbjenmkaa.Mk
open Go.RowKit Go.Proofs.YtelpnlpbjenmkaaW.PrintWords
open Hand (num lefts)

theorem byte_of {l : List Int} (h : Hand.bytesB l = true) {x : Int} (hx : x ∈ l) : 0 ≤ x ∧ x ≤ 255 := by
  unfold Hand.bytesB at h
  rw [List.all_eq_true] at h
  simpa using h x hx
theorem be2_num (x y : Int) (hx : 0 ≤ x ∧ x ≤ 255) (hy : 0 ≤ y ∧ y ≤ 255) : be2 (num [x, y]) = [x, y] := by
  simp [num, be2]; omega
theorem be4_num (x y z t : Int) (hx : 0 ≤ x ∧ x ≤ 255) (hy : 0 ≤ y ∧ y ≤ 255) (hz : 0 ≤ z ∧ z ≤ 255) (ht : 0 ≤ t ∧ t ≤ 255) : be4 (wrap32 (num [x, y, z, t])) = [x, y, z, t] := by
  simp [num, be4]; unfold wrap32; omega
theorem be6_num (x y z t u v : Int) (hx : 0 ≤ x ∧ x ≤ 255) (hy : 0 ≤ y ∧ y ≤ 255) (hz : 0 ≤ z ∧ z ≤ 255) (ht : 0 ≤ t ∧ t ≤ 255) (hu : 0 ≤ u ∧ u ≤ 255) (hv : 0 ≤ v ∧ v ≤ 255) : be6 (num [x, y, z, t, u, v]) = [x, y, z, t, u, v] := by
  simp [num, be6]; omega
theorem take4 (l : List Int) (h : 4 ≤ l.length) : ∃ x y z t, l.take 4 = [x, y, z, t] := by
  match l, h with
  | x :: y :: z :: t :: r, _ => exact ⟨x, y, z, t, by simp⟩
theorem lefts_back (l : List Int) (hb : Hand.bytesB l = true) (k : Nat) (hk : 11 + 4 * k ≤ l.length) : (lefts l k).flatMap be4 = (l.drop 11).take (4 * k) := by
  induction k with
  | zero => simp [lefts]
  | succ k ih =>
    have hi := ih (by omega)
    obtain ⟨x, y, z, t, ht⟩ := take4 (l.drop (11 + 4 * k)) (by rw [List.length_drop]; omega)
    have hm : ∀ v ∈ [x, y, z, t], 0 ≤ v ∧ v ≤ 255 := fun v hv => byte_of hb (List.mem_of_mem_drop (List.mem_of_mem_take (ht ▸ hv)))
    unfold lefts
    rw [List.flatMap_append, hi, ht]
    simp only [List.flatMap_cons, List.flatMap_nil, List.append_nil]
    rw [be4_num x y z t (hm x (by simp)) (hm y (by simp)) (hm z (by simp)) (hm t (by simp)), ← ht, show 4 * (k + 1) = 4 * k + 4 by omega, List.take_add, List.drop_drop, Nat.add_comm 11]
/-- What Get finds right is put again as it stood. -/
theorem put_get (l : List Int) (hb : Hand.bytesB l = true) (h : (Hand.get l).2.2.2.2.2 = true) :
    Hand.right (Hand.get l).1 (Hand.get l).2.1 (Hand.get l).2.2.1 (Hand.get l).2.2.2.1 (Hand.get l).2.2.2.2.1 = true ∧ put (Hand.get l).1 (Hand.get l).2.1 (Hand.get l).2.2.1 (Hand.get l).2.2.2.1 (Hand.get l).2.2.2.2.1 = l := by
  unfold Hand.get at h ⊢
  by_cases h11 : (l.length : Int) < 11
  · rw [if_pos h11] at h
    cases h
  · by_cases hn : (l.length : Int) = 11 + 4 * rd l 10
    · by_cases hr : Hand.right (Hand.said l).1 (Hand.said l).2.1 (Hand.said l).2.2.1 (Hand.said l).2.2.2.1 (Hand.said l).2.2.2.2 = true
      · rw [if_neg h11, if_pos hn, if_pos hr]
        refine ⟨hr, ?_⟩
        clear h hr
        simp only [Hand.said]
        match l, h11, hn, hb with
        | x0 :: x1 :: x2 :: x3 :: x4 :: x5 :: x6 :: x7 :: x8 :: x9 :: x10 :: r, h11, hn, hb =>
          have e10 : rd (x0 :: x1 :: x2 :: x3 :: x4 :: x5 :: x6 :: x7 :: x8 :: x9 :: x10 :: r) 10 = x10 := rfl
          rw [e10] at hn ⊢
          have hm : ∀ v ∈ [x0, x1, x2, x3, x4, x5, x6, x7, x8, x9, x10], 0 ≤ v ∧ v ≤ 255 := fun v hv => byte_of hb (by
            have : v ∈ [x0, x1, x2, x3, x4, x5, x6, x7, x8, x9, x10] ++ r := List.mem_append_left _ hv
            exact this)
          have m0 := hm x0 (by simp)
          have m1 := hm x1 (by simp)
          have m2 := hm x2 (by simp)
          have m3 := hm x3 (by simp)
          have m4 := hm x4 (by simp)
          have m5 := hm x5 (by simp)
          have m6 := hm x6 (by simp)
          have m7 := hm x7 (by simp)
          have m8 := hm x8 (by simp)
          have m9 := hm x9 (by simp)
          have m10 := hm x10 (by simp)
          have hlen : ((x0 :: x1 :: x2 :: x3 :: x4 :: x5 :: x6 :: x7 :: x8 :: x9 :: x10 :: r).length : Int) = 11 + r.length := by simp; omega
          have hr4 : r.length = 4 * x10.toNat := by omega
          have hl := lefts_back _ hb x10.toNat (by simp; omega)
          unfold put
          rw [hl]
          simp only [List.drop_succ_cons, List.drop_zero, List.take_succ_cons, List.take_zero]
          rw [be2_num x0 x1 m0 m1, be6_num x2 x3 x4 x5 x6 x7 m2 m3 m4 m5 m6 m7, List.take_of_length_le (by omega), Hand.lefts_length, Int.toNat_of_nonneg m10.1]
          have e8 : num [x8] = x8 := by simp [num]
          have e9 : num [x9] = x9 := by simp [num]
          rw [e8, e9, Int.emod_eq_of_lt m8.1 (by omega), Int.emod_eq_of_lt m9.1 (by omega), Int.emod_eq_of_lt m10.1 (by omega)]
          rfl
        | [], h11, _, _ | [_], h11, _, _ | [_, _], h11, _, _ | [_, _, _], h11, _, _ | [_, _, _, _], h11, _, _ | [_, _, _, _, _], h11, _, _ | [_, _, _, _, _, _], h11, _, _ | [_, _, _, _, _, _, _], h11, _, _ | [_, _, _, _, _, _, _, _], h11, _, _ | [_, _, _, _, _, _, _, _, _], h11, _, _ | [_, _, _, _, _, _, _, _, _, _], h11, _, _ => exact absurd (by simp) h11
      · rw [if_neg h11, if_pos hn, if_neg hr] at h
        cases h
    · rw [if_neg h11, if_neg hn] at h
      cases h
/-- What Get finds wrong is nothing. -/
theorem get_wrong (l : List Int) (h : (Hand.get l).2.2.2.2.2 = false) : Hand.get l = (0, 0, 0, 0, [], false) := by
  unfold Hand.get at h ⊢
  repeat' split at h
  all_goals first | (cases h; done) | skip
  · rw [if_pos ‹_›]
  · rw [if_neg ‹_›, if_pos ‹_›, if_neg ‹_›]
  · rw [if_neg ‹_›, if_neg ‹_›]
end Go.Proofs.Ytelpnlpbjenmkaa.Mk
