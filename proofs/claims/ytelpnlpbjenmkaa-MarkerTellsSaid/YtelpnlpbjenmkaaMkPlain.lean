/- Markers' bytes, as plain functions on lists of whole numbers. -/
import Derived.Test.YtelpnlpbjenmkaaHandH
namespace Go.Proofs.Ytelpnlpbjenmkaa.Mk
open Go.RowKit Go.Proofs.YtelpnlpbjenmkaaW.PrintWords
open Hand (num lefts)

def be2 (n : Int) : List Int := [n / 256 % 256, n % 256]
def be4 (n : Int) : List Int := [n / 16777216 % 256, n / 65536 % 256, n / 256 % 256, n % 256]
def be6 (n : Int) : List Int := [n / 1099511627776 % 256, n / 4294967296 % 256, n / 16777216 % 256, n / 65536 % 256, n / 256 % 256, n % 256]
/-- A right marker's bytes. -/
def put (e b l a : Int) (left : List Int) : List Int := be2 e ++ be6 b ++ [l % 256, a % 256, (left.length : Int) % 256] ++ left.flatMap be4

theorem four_length (left : List Int) : (left.flatMap be4).length = 4 * left.length := by
  induction left with
  | nil => rfl
  | cons x xs ih => simp [be4, ih]; omega
theorem put_length (e b l a : Int) (left : List Int) : (put e b l a left).length = 11 + 4 * left.length := by
  unfold put
  rw [List.length_append, four_length]
  simp [be2, be6]
theorem num_be2 (n : Int) (h0 : 0 ≤ n) (h1 : n ≤ 65535) : num (be2 n) = n := by
  simp [num, be2]; omega
theorem num_be6 (n : Int) (h0 : 0 ≤ n) (h1 : n ≤ 1099511627776) : num (be6 n) = n := by
  simp [num, be6]; omega
theorem num_be4 (n : Int) (h0 : -2147483648 ≤ n) (h1 : n ≤ 2147483647) : wrap32 (num (be4 n)) = n := by
  simp [num, be4]; unfold wrap32; omega
theorem four_at (left : List Int) (k : Nat) (hk : k < left.length) : ((left.flatMap be4).drop (4 * k)).take 4 = be4 (rd left k) := by
  induction left generalizing k with
  | nil => simp at hk
  | cons x xs ih =>
    cases k with
    | zero => simp [be4, rd]
    | succ k =>
      have e : 4 * (k + 1) = 4 * k + 4 := by omega
      have h := ih k (by simpa using hk)
      simp only [List.flatMap_cons, e]
      rw [show (be4 x ++ List.flatMap be4 xs).drop (4 * k + 4) = (List.flatMap be4 xs).drop (4 * k) from by rw [List.drop_append]; simp [be4]]
      rw [h]
      simp [rd]
theorem lefts_put (e b l a : Int) (left : List Int) (hl : ∀ x ∈ left, -2147483648 ≤ x ∧ x ≤ 2147483647) (k : Nat) (hk : k ≤ left.length) : lefts (put e b l a left) k = left.take k := by
  induction k with
  | zero => rfl
  | succ k ih =>
    have hkl : k < left.length := by omega
    have hd : (put e b l a left).drop (11 + 4 * k) = (left.flatMap be4).drop (4 * k) := by
      unfold put
      rw [List.drop_append]
      simp [be2, be6]
    have hm := hl _ (List.getElem_mem hkl)
    unfold lefts
    rw [ih (by omega), hd, four_at left k hkl, num_be4 _ (by simpa [rd, List.getElem?_eq_getElem hkl] using hm.1) (by simpa [rd, List.getElem?_eq_getElem hkl] using hm.2), List.take_add_one]
    simp [rd, List.getElem?_eq_getElem hkl]

/-- What a right marker is. -/
theorem right_parts {e b l a : Int} {left : List Int} (h : Hand.right e b l a left = true) : (∀ x ∈ left, -2047 ≤ x ∧ x ≤ 65536000) ∧ 1 ≤ left.length ∧ left.length ≤ 8 ∧ 0 ≤ e ∧ e ≤ 65535 ∧ 0 ≤ b ∧ b ≤ 1099511627776 ∧ 0 ≤ l ∧ l < left.length ∧ 0 ≤ a ∧ a < left.length := by
  unfold Hand.right at h
  simp only [Bool.and_eq_true, decide_eq_true_eq, Bool.not_eq_true', List.any_eq_false] at h
  obtain ⟨⟨⟨⟨⟨h1, h2⟩, h3⟩, h4⟩, h5⟩, h6⟩ := h
  refine ⟨fun x hx => ?_, by omega, by omega, h3.1, h3.2, h4.1, h4.2, h5.1, by omega, h6.1, by omega⟩
  have := h1 x hx
  unfold Hand.bad at this
  simpa using this

theorem get_put (e b l a : Int) (left : List Int) (h : Hand.right e b l a left = true) : Hand.get (put e b l a left) = (e, b, l, a, left, true) := by
  obtain ⟨h1, h2, h3, e0, e1, b0, b1, l0, l1, a0, a1⟩ := right_parts h
  have hlen := put_length e b l a left
  have r10 : rd (put e b l a left) 10 = left.length := by
    simp [put, be2, be6, rd]
    omega
  have n0 : num (((put e b l a left).drop 0).take 2) = e := by
    have : ((put e b l a left).drop 0).take 2 = be2 e := by simp [put, be2, be6]
    rw [this, num_be2 e e0 e1]
  have n2 : num (((put e b l a left).drop 2).take 6) = b := by
    have : ((put e b l a left).drop 2).take 6 = be6 b := by simp [put, be2, be6]
    rw [this, num_be6 b b0 b1]
  have n8 : num (((put e b l a left).drop 8).take 1) = l := by
    have : ((put e b l a left).drop 8).take 1 = [l % 256] := by simp [put, be2, be6]
    rw [this]
    simp [num]
    omega
  have n9 : num (((put e b l a left).drop 9).take 1) = a := by
    have : ((put e b l a left).drop 9).take 1 = [a % 256] := by simp [put, be2, be6]
    rw [this]
    simp [num]
    omega
  have nl : lefts (put e b l a left) left.length = left := by
    rw [lefts_put e b l a left (fun x hx => by have := h1 x hx; omega) _ (Nat.le_refl _), List.take_length]
  have hs : Hand.said (put e b l a left) = (e, b, l, a, left) := by
    unfold Hand.said
    rw [n0, n2, n8, n9, r10, Int.toNat_natCast, nl]
  unfold Hand.get
  rw [if_neg (by omega), if_pos (by rw [r10]; omega), hs, if_pos h]

theorem mod_byte (x : Int) : 0 ≤ x % 256 ∧ x % 256 ≤ 255 := by omega
theorem put_bytes (e b l a : Int) (left : List Int) : Hand.bytesB (put e b l a left) = true := by
  unfold Hand.bytesB put
  have h4 : (left.flatMap be4).all (fun x => decide (0 ≤ x) && decide (x ≤ 255)) = true := by
    induction left with
    | nil => rfl
    | cons x xs ih =>
      simp only [List.flatMap_cons, List.all_append, ih, Bool.and_true]
      simp [be4]
      omega
  rw [List.all_append, h4]
  simp [be2, be6]
  omega
end Go.Proofs.Ytelpnlpbjenmkaa.Mk
