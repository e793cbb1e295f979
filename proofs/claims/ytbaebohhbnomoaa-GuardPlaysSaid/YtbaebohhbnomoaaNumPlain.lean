/- Numbers that go round, as plain functions on whole numbers; what '&' with a mask comes to. -/
import Derived.Laws.BitsLemmas
import Derived.RowKit
namespace Go.Proofs.Ytbaebohhbnomoaa.NumPlain
open Go.RowKit

/-- How many numbers of so many bits there are. -/
def all (bits : Int) : Int := if bits = 12 then 4096 else if bits = 24 then 16777216 else 0
def right (bits a : Int) : Bool := decide (0 ≤ a) && decide (a < all bits)
def add (bits a n : Int) : Int := if right bits a = true then (a + n) % all bits else 0
def diffM (m a b : Int) : Int := if m / 2 < (a - b) % m then (a - b) % m - m else (a - b) % m
def diff (bits a b : Int) : Int := if right bits a = true ∧ right bits b = true then diffM (all bits) a b else 0
def less (bits a b : Int) : Bool := decide (diff bits a b < 0)

theorem and12 (n : Int) : bits .and .i64 n 4095 = n % 4096 := by
  have hm : (BitVec.ofInt 64 4095).toNat = 2 ^ 12 - 1 := by decide
  have key : (BitVec.ofInt 64 n &&& BitVec.ofInt 64 4095).toNat = (n % ((2 ^ 64 : Nat) : Int)).toNat % 2 ^ 12 := by
    rw [BitVec.toNat_and, BitVec.toNat_ofInt, hm, Nat.and_two_pow_sub_one_eq_mod]
  show IntKind.i64.wrap ((BitVec.ofInt 64 n &&& BitVec.ofInt 64 4095).toNat : Nat) = n % 4096
  rw [key, IntKind.wrap_i64]
  omega

theorem and24 (n : Int) : bits .and .i64 n 16777215 = n % 16777216 := by
  have hm : (BitVec.ofInt 64 16777215).toNat = 2 ^ 24 - 1 := by decide
  have key : (BitVec.ofInt 64 n &&& BitVec.ofInt 64 16777215).toNat = (n % ((2 ^ 64 : Nat) : Int)).toNat % 2 ^ 24 := by
    rw [BitVec.toNat_and, BitVec.toNat_ofInt, hm, Nat.and_two_pow_sub_one_eq_mod]
  show IntKind.i64.wrap ((BitVec.ofInt 64 n &&& BitVec.ofInt 64 16777215).toNat : Nat) = n % 16777216
  rw [key, IntKind.wrap_i64]
  omega

theorem all_12 : all 12 = 4096 := rfl
theorem all_24 : all 24 = 16777216 := rfl
theorem all_pos (bits a : Int) (h : right bits a = true) : bits = 12 ∨ bits = 24 := by
  unfold right all at h
  by_cases h12 : bits = 12
  · exact .inl h12
  · by_cases h24 : bits = 24
    · exact .inr h24
    · simp [h12, h24] at h
      omega
end Go.Proofs.Ytbaebohhbnomoaa.NumPlain
