/- What the document's Right comes to. -/
import Derived.Test.YtelpnlpbjenmkaaPMarkerTellsx1
import Derived.Test.YtelpnlpbjenmkaaMkBack
namespace Go.Proofs.Ytelpnlpbjenmkaa.Tells
open Go.RowKit Go.Proofs.Ytelpnlpbjenmkaa.PMarkerTells Go.Proofs.YtelpnlpbjenmkaaW.PrintWords

theorem right_l (e b l a : Int) (xs : List Int) (hx : xs.length ≤ 9000) (d : Nat) : ∀ (k i : Nat), i ≤ xs.length → xs.length - i = d → d < k → ((xs.take i).any Hand.bad = false) →
    bowlineref17_Right.l0 k i e b l a xs = some (Hand.right e b l a xs) := by
  induction d with
  | zero =>
    intro k i hi hd hk hb
    obtain ⟨k, rfl⟩ : ∃ m, k = m + 1 := ⟨k - 1, by omega⟩
    rw [List.take_of_length_le (by omega)] at hb
    simp only [bowlineref17_Right.l0]
    rw [if_neg (by omega)]
    unfold Hand.right
    rw [hb]
    repeat' split
    all_goals (congr 1; apply Bool.eq_iff_iff.2; simp; omega)
  | succ d ih =>
    intro k i hi hd hk hb
    obtain ⟨k, rfl⟩ : ∃ m, k = m + 1 := ⟨k - 1, by omega⟩
    have hi' : i < xs.length := by omega
    have hbad : xs.any Hand.bad = true → Hand.right e b l a xs = false := by
      intro h
      unfold Hand.right
      rw [h]
      rfl
    have hmem : rd xs (i : Int) ∈ xs := by
      simp [rd, List.getElem?_eq_getElem hi']
    have hany : Hand.bad (rd xs (i : Int)) = true → Hand.right e b l a xs = false := fun h => hbad (List.any_eq_true.2 ⟨_, hmem, h⟩)
    simp only [bowlineref17_Right.l0]
    have e4 : wrap64 ((i : Int) + 1) = ((i + 1 : Nat) : Int) := by unfold wrap64; omega
    rw [e4]
    clear e4
    rw [if_pos (by omega), if_pos (by omega)]
    by_cases h1 : rd xs (i : Int) < -2047
    · rw [if_pos h1, hany (by unfold Hand.bad; simp; omega)]
    · by_cases h2 : rd xs (i : Int) > 65536000
      · rw [if_neg h1, if_pos h2, hany (by unfold Hand.bad; simp; omega)]
      · rw [if_neg h1, if_neg h2]
        refine ih k (i + 1) (by omega) (by omega) (by omega) ?_
        rw [List.take_add_one, List.any_append, hb, List.getElem?_eq_getElem hi']
        have hr : rd xs (i : Int) = xs[i] := by simp [rd, List.getElem?_eq_getElem hi']
        rw [hr] at h1 h2
        simp [Hand.bad]
        omega
theorem right_f (e b l a : Int) (xs : List Int) (hx : xs.length ≤ 9000) (k : Nat) (hk : xs.length < k) : bowlineref17_Right.f k e b l a xs = some (Hand.right e b l a xs) :=
  right_l e b l a xs hx xs.length k 0 (by omega) (by omega) hk (by simp)
end Go.Proofs.Ytelpnlpbjenmkaa.Tells
