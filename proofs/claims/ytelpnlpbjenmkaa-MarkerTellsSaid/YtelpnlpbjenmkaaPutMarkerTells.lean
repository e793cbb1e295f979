/- What Put comes to: a right marker's bytes, or nothing. -/
import Derived.Test.YtelpnlpbjenmkaaPMarkerTellsx4
import Derived.Test.YtelpnlpbjenmkaaMkPlain
namespace Go.Proofs.Ytelpnlpbjenmkaa.PMarkerTells
open Go.RowKit Go.Proofs.YtelpnlpbjenmkaaW.PrintWords Go.Proofs.YtelpnlpbjenmkaaW.PrintLast Go.Proofs.YtelpnlpbjenmkaaW.PrintMore
set_option linter.unusedVariables false
set_option linter.unusedSimpArgs false


theorem marker_put_int64_step (k : Nat) (x0 xs : List Int) (n len j size i : Int) (h0 : 0 ≤ i) (h1 : i < size) (h2 : size ≤ 8) (hx : x0.length ≤ 100) :
    marker_put_int64.l1 (k + 1) x0 size n xs len j size i = marker_put_int64.l1 k (x0 ++ [n / 2 ^ (8 * (size - 1 - i)).toNat % 256]) size n xs len j size (i + 1) := by
  simp only [marker_put_int64.l1]
  have e1 : wrap64 (size - 1) = size - 1 := by unfold wrap64; omega
  have e2 : wrap64 (size - 1 - i) = size - 1 - i := by unfold wrap64; omega
  have e3 : wrap64 (8 * (size - 1 - i)) = 8 * (size - 1 - i) := by unfold wrap64; omega
  have e4 : wrap64 (i + 1) = i + 1 := by unfold wrap64; omega
  rw [e1, e2, e3, e4]
  clear e1 e2 e3 e4
  rw [if_pos h1, if_pos (by omega), if_pos (Nat.lt_of_le_of_lt hx (by decide))]
  unfold shr
  rw [show min (8 * (size - 1 - i)).toNat IntKind.i64.bits = (8 * (size - 1 - i)).toNat from by have : IntKind.i64.bits = 64 := rfl; omega]
theorem marker_put_int64_end (k : Nat) (x0 xs : List Int) (n len j size : Int) (h0 : 0 ≤ j) (h1 : j ≤ 100) : marker_put_int64.l1 (k + 1) x0 size n xs len j size size = marker_put_int64.l0 k x0 size xs len (j + 1) := by
  simp only [marker_put_int64.l1]
  have e4 : wrap64 (j + 1) = j + 1 := by unfold wrap64; omega
  rw [e4, if_neg (by omega)]
theorem marker_put_int64_all (size : Int) (be : Int → List Int) (r b : Nat) (hb : ∀ n, (be n).length = b)
    (hbe : ∀ (k : Nat) (x0 xs : List Int) (n len j : Int), 0 ≤ j → j ≤ 20 → x0.length ≤ 80 → marker_put_int64.l1 (k + r) x0 size n xs len j size 0 = marker_put_int64.l0 k (x0 ++ be n) size xs len (j + 1)) (d : Nat) :
    ∀ (k : Nat) (x0 xs : List Int) (j : Nat), j ≤ xs.length → xs.length - j = d → xs.length ≤ 20 → x0.length + d * b ≤ 80 → d * (r + 1) < k → marker_put_int64.l0 k x0 size xs xs.length j = some (x0 ++ (xs.drop j).flatMap be) := by
  induction d with
  | zero =>
    intro k x0 xs j hj hd hx hl hk
    obtain ⟨k, rfl⟩ : ∃ m, k = m + 1 := ⟨k - 1, by omega⟩
    simp only [marker_put_int64.l0]
    rw [if_neg (by omega), List.drop_of_length_le (by omega)]
    simp
  | succ d ih =>
    intro k x0 xs j hj hd hx hl hk
    have hm1 : (d + 1) * (r + 1) = d * (r + 1) + (r + 1) := by rw [Nat.add_mul, Nat.one_mul]
    have hm2 : (d + 1) * b = d * b + b := by rw [Nat.add_mul, Nat.one_mul]
    obtain ⟨k, rfl⟩ : ∃ m, k = (m + r) + 1 := ⟨k - r - 1, by omega⟩
    simp only [marker_put_int64.l0]
    rw [if_pos (by omega), if_pos (by omega), if_pos (by omega), hbe k x0 xs _ _ _ (by omega) (by omega) (by omega)]
    have h := ih k (x0 ++ be (rd xs j)) xs (j + 1) (by omega) (by omega) hx (by rw [List.length_append, hb]; omega) (by omega)
    have e : ((j + 1 : Nat) : Int) = (j : Int) + 1 := by omega
    rw [e] at h
    have er : rd xs (j : Int) = xs[j]'(by omega) := by simp [rd, List.getElem?_eq_getElem (show j < xs.length by omega)]
    rw [h, List.drop_eq_getElem_cons (show j < xs.length by omega), List.flatMap_cons, List.append_assoc, er]

theorem marker_put_int64_be6 (k : Nat) (x0 xs : List Int) (n len j : Int) (h0 : 0 ≤ j) (h1 : j ≤ 20) (hx : x0.length ≤ 80) : marker_put_int64.l1 (k + 7) x0 6 n xs len j 6 0 = marker_put_int64.l0 k (x0 ++ Mk.be6 n) 6 xs len (j + 1) := by
  rw [show k + 7 = (k + 6) + 1 from rfl, marker_put_int64_step (k + 6) x0 xs n len j 6 0 (by omega) (by omega) (by omega) (by omega)]
  rw [show (0 : Int) + 1 = 1 from rfl] 
  rw [show k + 6 = (k + 5) + 1 from rfl, marker_put_int64_step (k + 5) _ xs n len j 6 1 (by omega) (by omega) (by omega) (by simp; omega)]
  rw [show (1 : Int) + 1 = 2 from rfl]
  rw [show k + 5 = (k + 4) + 1 from rfl, marker_put_int64_step (k + 4) _ xs n len j 6 2 (by omega) (by omega) (by omega) (by simp; omega)]
  rw [show (2 : Int) + 1 = 3 from rfl]
  rw [show k + 4 = (k + 3) + 1 from rfl, marker_put_int64_step (k + 3) _ xs n len j 6 3 (by omega) (by omega) (by omega) (by simp; omega)]
  rw [show (3 : Int) + 1 = 4 from rfl]
  rw [show k + 3 = (k + 2) + 1 from rfl, marker_put_int64_step (k + 2) _ xs n len j 6 4 (by omega) (by omega) (by omega) (by simp; omega)]
  rw [show (4 : Int) + 1 = 5 from rfl]
  rw [show k + 2 = (k + 1) + 1 from rfl, marker_put_int64_step (k + 1) _ xs n len j 6 5 (by omega) (by omega) (by omega) (by simp; omega)]
  rw [show (5 : Int) + 1 = 6 from rfl, marker_put_int64_end k _ xs n len j 6 h0 (by omega)]
  simp [Mk.be6]
theorem marker_put_int64_be4 (k : Nat) (x0 xs : List Int) (n len j : Int) (h0 : 0 ≤ j) (h1 : j ≤ 20) (hx : x0.length ≤ 80) : marker_put_int64.l1 (k + 5) x0 4 n xs len j 4 0 = marker_put_int64.l0 k (x0 ++ Mk.be4 n) 4 xs len (j + 1) := by
  rw [show k + 5 = (k + 4) + 1 from rfl, marker_put_int64_step (k + 4) x0 xs n len j 4 0 (by omega) (by omega) (by omega) (by omega)]
  rw [show (0 : Int) + 1 = 1 from rfl] 
  rw [show k + 4 = (k + 3) + 1 from rfl, marker_put_int64_step (k + 3) _ xs n len j 4 1 (by omega) (by omega) (by omega) (by simp; omega)]
  rw [show (1 : Int) + 1 = 2 from rfl]
  rw [show k + 3 = (k + 2) + 1 from rfl, marker_put_int64_step (k + 2) _ xs n len j 4 2 (by omega) (by omega) (by omega) (by simp; omega)]
  rw [show (2 : Int) + 1 = 3 from rfl]
  rw [show k + 2 = (k + 1) + 1 from rfl, marker_put_int64_step (k + 1) _ xs n len j 4 3 (by omega) (by omega) (by omega) (by simp; omega)]
  rw [show (3 : Int) + 1 = 4 from rfl, marker_put_int64_end k _ xs n len j 4 h0 (by omega)]
  simp [Mk.be4]

theorem marker_put_int_step (k : Nat) (x0 xs : List Int) (n len j size i : Int) (h0 : 0 ≤ i) (h1 : i < size) (h2 : size ≤ 8) (hx : x0.length ≤ 100) :
    marker_put_int.l1 (k + 1) x0 size n xs len j size i = marker_put_int.l1 k (x0 ++ [n / 2 ^ (8 * (size - 1 - i)).toNat % 256]) size n xs len j size (i + 1) := by
  simp only [marker_put_int.l1]
  have e1 : wrap64 (size - 1) = size - 1 := by unfold wrap64; omega
  have e2 : wrap64 (size - 1 - i) = size - 1 - i := by unfold wrap64; omega
  have e3 : wrap64 (8 * (size - 1 - i)) = 8 * (size - 1 - i) := by unfold wrap64; omega
  have e4 : wrap64 (i + 1) = i + 1 := by unfold wrap64; omega
  rw [e1, e2, e3, e4]
  clear e1 e2 e3 e4
  rw [if_pos h1, if_pos (by omega), if_pos (Nat.lt_of_le_of_lt hx (by decide))]
  unfold shr
  rw [show min (8 * (size - 1 - i)).toNat IntKind.i64.bits = (8 * (size - 1 - i)).toNat from by have : IntKind.i64.bits = 64 := rfl; omega]
theorem marker_put_int_end (k : Nat) (x0 xs : List Int) (n len j size : Int) (h0 : 0 ≤ j) (h1 : j ≤ 100) : marker_put_int.l1 (k + 1) x0 size n xs len j size size = marker_put_int.l0 k x0 size xs len (j + 1) := by
  simp only [marker_put_int.l1]
  have e4 : wrap64 (j + 1) = j + 1 := by unfold wrap64; omega
  rw [e4, if_neg (by omega)]
theorem marker_put_int_all (size : Int) (be : Int → List Int) (r b : Nat) (hb : ∀ n, (be n).length = b)
    (hbe : ∀ (k : Nat) (x0 xs : List Int) (n len j : Int), 0 ≤ j → j ≤ 20 → x0.length ≤ 80 → marker_put_int.l1 (k + r) x0 size n xs len j size 0 = marker_put_int.l0 k (x0 ++ be n) size xs len (j + 1)) (d : Nat) :
    ∀ (k : Nat) (x0 xs : List Int) (j : Nat), j ≤ xs.length → xs.length - j = d → xs.length ≤ 20 → x0.length + d * b ≤ 80 → d * (r + 1) < k → marker_put_int.l0 k x0 size xs xs.length j = some (x0 ++ (xs.drop j).flatMap be) := by
  induction d with
  | zero =>
    intro k x0 xs j hj hd hx hl hk
    obtain ⟨k, rfl⟩ : ∃ m, k = m + 1 := ⟨k - 1, by omega⟩
    simp only [marker_put_int.l0]
    rw [if_neg (by omega), List.drop_of_length_le (by omega)]
    simp
  | succ d ih =>
    intro k x0 xs j hj hd hx hl hk
    have hm1 : (d + 1) * (r + 1) = d * (r + 1) + (r + 1) := by rw [Nat.add_mul, Nat.one_mul]
    have hm2 : (d + 1) * b = d * b + b := by rw [Nat.add_mul, Nat.one_mul]
    obtain ⟨k, rfl⟩ : ∃ m, k = (m + r) + 1 := ⟨k - r - 1, by omega⟩
    simp only [marker_put_int.l0]
    rw [if_pos (by omega), if_pos (by omega), if_pos (by omega), hbe k x0 xs _ _ _ (by omega) (by omega) (by omega)]
    have h := ih k (x0 ++ be (rd xs j)) xs (j + 1) (by omega) (by omega) hx (by rw [List.length_append, hb]; omega) (by omega)
    have e : ((j + 1 : Nat) : Int) = (j : Int) + 1 := by omega
    rw [e] at h
    have er : rd xs (j : Int) = xs[j]'(by omega) := by simp [rd, List.getElem?_eq_getElem (show j < xs.length by omega)]
    rw [h, List.drop_eq_getElem_cons (show j < xs.length by omega), List.flatMap_cons, List.append_assoc, er]

theorem marker_put_int_be2 (k : Nat) (x0 xs : List Int) (n len j : Int) (h0 : 0 ≤ j) (h1 : j ≤ 20) (hx : x0.length ≤ 80) : marker_put_int.l1 (k + 3) x0 2 n xs len j 2 0 = marker_put_int.l0 k (x0 ++ Mk.be2 n) 2 xs len (j + 1) := by
  rw [show k + 3 = (k + 2) + 1 from rfl, marker_put_int_step (k + 2) x0 xs n len j 2 0 (by omega) (by omega) (by omega) (by omega)]
  rw [show (0 : Int) + 1 = 1 from rfl] 
  rw [show k + 2 = (k + 1) + 1 from rfl, marker_put_int_step (k + 1) _ xs n len j 2 1 (by omega) (by omega) (by omega) (by simp; omega)]
  rw [show (1 : Int) + 1 = 2 from rfl, marker_put_int_end k _ xs n len j 2 h0 (by omega)]
  simp [Mk.be2]
theorem marker_put_int_be1 (k : Nat) (x0 xs : List Int) (n len j : Int) (h0 : 0 ≤ j) (h1 : j ≤ 20) (hx : x0.length ≤ 80) : marker_put_int.l1 (k + 2) x0 1 n xs len j 1 0 = marker_put_int.l0 k (x0 ++ (fun n => [n % 256]) n) 1 xs len (j + 1) := by
  rw [show k + 2 = (k + 1) + 1 from rfl, marker_put_int_step (k + 1) x0 xs n len j 1 0 (by omega) (by omega) (by omega) (by omega)]
  rw [show (0 : Int) + 1 = 1 from rfl, marker_put_int_end k _ xs n len j 1 h0 (by omega)]
  simp

theorem put_f (k : Nat) (hk : 60 ≤ k) (e b l a : Int) (left : List Int) : marker_Put.f k e b l a left = some (if Hand.right e b l a left = true then Mk.put e b l a left else []) := by
  unfold marker_Put.f marker_Right.f
  simp only [Option.bind_some]
  by_cases h : Hand.right e b l a left = true
  · rw [if_pos h, if_pos h]
    obtain ⟨h1, h2, h3, _⟩ := Mk.right_parts h
    have f1 : marker_put_int.f k [] 2 [e] = some (Mk.be2 e) := by
      have := marker_put_int_all 2 Mk.be2 3 2 (fun _ => rfl) marker_put_int_be2 1 k [] [e] 0 (by simp) rfl (by simp) (by simp) (by omega)
      simpa [marker_put_int.f] using this
    have f2 : marker_put_int64.f k (Mk.be2 e) 6 [b] = some (Mk.be2 e ++ Mk.be6 b) := by
      have := marker_put_int64_all 6 Mk.be6 7 6 (fun _ => rfl) marker_put_int64_be6 1 k (Mk.be2 e) [b] 0 (by simp) rfl (by simp) (by simp [Mk.be2]) (by omega)
      simpa [marker_put_int64.f] using this
    have f3 : marker_put_int.f k (Mk.be2 e ++ Mk.be6 b) 1 [l, a, (left.length : Int)] = some (Mk.be2 e ++ Mk.be6 b ++ [l % 256, a % 256, (left.length : Int) % 256]) := by
      have := marker_put_int_all 1 (fun n => [n % 256]) 2 1 (fun _ => rfl) marker_put_int_be1 3 k (Mk.be2 e ++ Mk.be6 b) [l, a, (left.length : Int)] 0 (by simp) rfl (by simp) (by simp [Mk.be2, Mk.be6]) (by omega)
      simpa [marker_put_int.f] using this
    have f4 : marker_put_int64.f k (Mk.be2 e ++ Mk.be6 b ++ [l % 256, a % 256, (left.length : Int) % 256]) 4 left = some (Mk.put e b l a left) := by
      have := marker_put_int64_all 4 Mk.be4 5 4 (fun _ => rfl) marker_put_int64_be4 left.length k (Mk.be2 e ++ Mk.be6 b ++ [l % 256, a % 256, (left.length : Int) % 256]) left 0 (by omega) (by omega) (by omega) (by simp [Mk.be2, Mk.be6]; omega) (by omega)
      simpa [marker_put_int64.f, Mk.put] using this
    rw [f1]
    simp only [Option.bind_some]
    rw [f2]
    simp only [Option.bind_some]
    rw [f3]
    simp only [Option.bind_some]
    rw [f4]
    rfl
  · rw [if_neg h, if_neg h]
end Go.Proofs.Ytelpnlpbjenmkaa.PMarkerTells
