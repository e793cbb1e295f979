/- What the document's Put comes to. -/
import Derived.Test.YtelpnlpbjenmkaaPMarkerTellsx8
import Derived.Test.YtelpnlpbjenmkaaTellsA
namespace Go.Proofs.Ytelpnlpbjenmkaa.Tells
open Go.RowKit Go.Proofs.Ytelpnlpbjenmkaa.PMarkerTells Go.Proofs.YtelpnlpbjenmkaaW.PrintWords

theorem num_step (k : Nat) (x0 : List Int) (n j : Int) (h0 : 0 ≤ j) (h1 : j ≤ 7) (hx : x0.length ≤ 100) :
    bowlineref17_num.l0 (k + 1) x0 n j = bowlineref17_num.l0 k (x0 ++ [n / 2 ^ (8 * j).toNat % 256]) n (j - 1) := by
  simp only [bowlineref17_num.l0]
  have e1 : wrap64 (8 * j) = 8 * j := by unfold wrap64; omega
  have e2 : wrap64 (j - 1) = j - 1 := by unfold wrap64; omega
  rw [e1, e2]
  clear e1 e2
  rw [if_pos h0, if_pos (by omega), if_pos (Nat.lt_of_le_of_lt hx (by decide))]
  unfold shr
  rw [show min (8 * j).toNat IntKind.i64.bits = (8 * j).toNat from by have : IntKind.i64.bits = 64 := rfl; omega]
theorem num_end (k : Nat) (x0 : List Int) (n : Int) : bowlineref17_num.l0 (k + 1) x0 n (-1) = some x0 := by
  simp only [bowlineref17_num.l0]
  rw [if_neg (by omega)]
theorem num_be2 (k : Nat) (x0 : List Int) (n : Int) (hx : x0.length ≤ 90) : bowlineref17_num.f (k + 3) x0 n 2 = some (x0 ++ Mk.be2 n) := by
  unfold bowlineref17_num.f
  rw [show wrap64 (2 - 1) = 1 from by unfold wrap64; omega, show k + 3 = (k + 2) + 1 from rfl, num_step _ _ _ 1 (by omega) (by omega) (by omega), show (1 : Int) - 1 = 0 from rfl,
    show k + 2 = (k + 1) + 1 from rfl, num_step _ _ _ 0 (by omega) (by omega) (by simp; omega), show (0 : Int) - 1 = -1 from rfl, num_end]
  simp [Mk.be2]
theorem num_be4 (k : Nat) (x0 : List Int) (n : Int) (hx : x0.length ≤ 90) : bowlineref17_num.f (k + 5) x0 n 4 = some (x0 ++ Mk.be4 n) := by
  unfold bowlineref17_num.f
  rw [show wrap64 (4 - 1) = 3 from by unfold wrap64; omega, show k + 5 = (k + 4) + 1 from rfl, num_step _ _ _ 3 (by omega) (by omega) (by omega), show (3 : Int) - 1 = 2 from rfl,
    show k + 4 = (k + 3) + 1 from rfl, num_step _ _ _ 2 (by omega) (by omega) (by simp; omega), show (2 : Int) - 1 = 1 from rfl,
    show k + 3 = (k + 2) + 1 from rfl, num_step _ _ _ 1 (by omega) (by omega) (by simp; omega), show (1 : Int) - 1 = 0 from rfl,
    show k + 2 = (k + 1) + 1 from rfl, num_step _ _ _ 0 (by omega) (by omega) (by simp; omega), show (0 : Int) - 1 = -1 from rfl, num_end]
  simp [Mk.be4]
theorem num_be6 (k : Nat) (x0 : List Int) (n : Int) (hx : x0.length ≤ 90) : bowlineref17_num.f (k + 7) x0 n 6 = some (x0 ++ Mk.be6 n) := by
  unfold bowlineref17_num.f
  rw [show wrap64 (6 - 1) = 5 from by unfold wrap64; omega, show k + 7 = (k + 6) + 1 from rfl, num_step _ _ _ 5 (by omega) (by omega) (by omega), show (5 : Int) - 1 = 4 from rfl,
    show k + 6 = (k + 5) + 1 from rfl, num_step _ _ _ 4 (by omega) (by omega) (by simp; omega), show (4 : Int) - 1 = 3 from rfl,
    show k + 5 = (k + 4) + 1 from rfl, num_step _ _ _ 3 (by omega) (by omega) (by simp; omega), show (3 : Int) - 1 = 2 from rfl,
    show k + 4 = (k + 3) + 1 from rfl, num_step _ _ _ 2 (by omega) (by omega) (by simp; omega), show (2 : Int) - 1 = 1 from rfl,
    show k + 3 = (k + 2) + 1 from rfl, num_step _ _ _ 1 (by omega) (by omega) (by simp; omega), show (1 : Int) - 1 = 0 from rfl,
    show k + 2 = (k + 1) + 1 from rfl, num_step _ _ _ 0 (by omega) (by omega) (by simp; omega), show (0 : Int) - 1 = -1 from rfl, num_end]
  simp [Mk.be6]
theorem put_l (e b l a : Int) (xs : List Int) (hx : xs.length ≤ 8) (d : Nat) : ∀ (k i : Nat) (x3 : List Int), i ≤ xs.length → xs.length - i = d → x3.length + 4 * d ≤ 80 → d + 10 < k →
    bowlineref17_Put.l0 k x3 i e b l a xs = some (x3 ++ (xs.drop i).flatMap Mk.be4) := by
  induction d with
  | zero =>
    intro k i x3 hi hd hl hk
    obtain ⟨k, rfl⟩ : ∃ m, k = m + 1 := ⟨k - 1, by omega⟩
    simp only [bowlineref17_Put.l0]
    rw [if_neg (by omega), List.drop_of_length_le (by omega)]
    simp
  | succ d ih =>
    intro k i x3 hi hd hl hk
    obtain ⟨k, rfl⟩ : ∃ m, k = m + 1 := ⟨k - 1, by omega⟩
    have hi' : i < xs.length := by omega
    simp only [bowlineref17_Put.l0]
    have e4 : wrap64 ((i : Int) + 1) = ((i + 1 : Nat) : Int) := by unfold wrap64; omega
    rw [e4]
    clear e4
    obtain ⟨k, rfl⟩ : ∃ m, k = m + 5 := ⟨k - 5, by omega⟩
    rw [if_pos (by omega), if_pos (by omega), num_be4 _ _ _ (by omega)]
    simp only [Option.bind_some]
    have hr : rd xs (i : Int) = xs[i] := by simp [rd, List.getElem?_eq_getElem hi']
    rw [ih (k + 5) (i + 1) (x3 ++ Mk.be4 (rd xs i)) (by omega) (by omega) (by rw [List.length_append]; simp [Mk.be4]; omega) (by omega), List.drop_eq_getElem_cons hi', List.flatMap_cons, List.append_assoc, hr]
theorem ref_put_f (e b l a : Int) (xs : List Int) (hx : xs.length ≤ 9000) (k : Nat) (hk : xs.length + 60 < k) : bowlineref17_Put.f k e b l a xs = some (if Hand.right e b l a xs = true then Mk.put e b l a xs else []) := by
  unfold bowlineref17_Put.f
  rw [right_f e b l a xs hx k (by omega)]
  simp only [Option.bind_some]
  by_cases h : Hand.right e b l a xs = true
  · obtain ⟨_, _, h8, _⟩ := Mk.right_parts h
    obtain ⟨k, rfl⟩ : ∃ m, k = m + 7 := ⟨k - 7, by omega⟩
    rw [if_pos h, if_pos h, show k + 7 = (k + 4) + 3 from rfl, num_be2 _ _ _ (by simp)]
    simp only [Option.bind_some]
    rw [show k + 4 + 3 = k + 7 from rfl, num_be6 _ _ _ (by simp [Mk.be2])]
    simp only [Option.bind_some]
    rw [if_pos (Nat.lt_of_le_of_lt (show _ ≤ 11 by simp [Mk.be2, Mk.be6]) (by decide))]
    have hp := put_l e b l a xs h8 xs.length (k + 7) 0 ([] ++ Mk.be2 e ++ Mk.be6 b ++ [l % 256, a % 256, (xs.length : Int) % 256]) (by omega) (by omega) (by simp [Mk.be2, Mk.be6]; omega) (by omega)
    exact hp
  · rw [if_neg h, if_neg h]
end Go.Proofs.Ytelpnlpbjenmkaa.Tells
