/- What the document's Get comes to. -/
import Derived.Test.YtelpnlpbjenmkaaPMarkerTellsx7
import Derived.Test.YtelpnlpbjenmkaaTellsA
namespace Go.Proofs.Ytelpnlpbjenmkaa.Tells
open Go.RowKit Go.Proofs.Ytelpnlpbjenmkaa.PMarkerTells Go.Proofs.YtelpnlpbjenmkaaW.PrintWords

theorem unnum_l (xs : List Int) (hb : Hand.bytesB xs = true) (h6 : xs.length ≤ 6) (d : Nat) : ∀ (k i : Nat) (acc : Int), i ≤ xs.length → xs.length - i = d → d < k → 0 ≤ acc → acc < 256 ^ i →
    bowlineref17_unnum.l0 k xs acc i = some ((xs.drop i).foldl (fun n c => 256 * n + c) acc) := by
  induction d with
  | zero =>
    intro k i acc hi hd hk h0 h1
    obtain ⟨k, rfl⟩ : ∃ m, k = m + 1 := ⟨k - 1, by omega⟩
    simp only [bowlineref17_unnum.l0]
    rw [if_neg (by omega), List.drop_of_length_le (by omega)]
    rfl
  | succ d ih =>
    intro k i acc hi hd hk h0 h1
    obtain ⟨k, rfl⟩ : ∃ m, k = m + 1 := ⟨k - 1, by omega⟩
    have hi' : i < xs.length := by omega
    have hr : rd xs (i : Int) = xs[i] := by simp [rd, List.getElem?_eq_getElem hi']
    have hm := Mk.byte_of hb (List.getElem_mem hi')
    have hbig : acc < 1099511627776 := by
      have h5 : i ≤ 5 := by omega
      have hp := Nat.pow_le_pow_right (n := 256) (by omega) h5
      have hq : ((256 ^ i : Nat) : Int) ≤ 1099511627776 := by
        have : (256 : Nat) ^ 5 = 1099511627776 := by rfl
        omega
      rw [Int.natCast_pow] at hq
      exact Int.lt_of_lt_of_le h1 hq
    simp only [bowlineref17_unnum.l0]
    have e4 : wrap64 ((i : Int) + 1) = ((i + 1 : Nat) : Int) := by unfold wrap64; omega
    have e5 : wrap64 (rd xs (i : Int)) = xs[i] := by rw [hr]; unfold wrap64; omega
    have e6 : wrap64 (256 * acc) = 256 * acc := by unfold wrap64; omega
    have e7 : wrap64 (256 * acc + xs[i]) = 256 * acc + xs[i] := by unfold wrap64; omega
    rw [e4, e5, e6, e7]
    clear e4 e5 e6 e7
    rw [if_pos (by omega), if_pos (by omega), ih k (i + 1) _ (by omega) (by omega) (by omega) (by omega) (by rw [Int.pow_succ]; omega), List.drop_eq_getElem_cons hi', List.foldl_cons]
theorem unnum_f (xs : List Int) (hb : Hand.bytesB xs = true) (h6 : xs.length ≤ 6) (k : Nat) (hk : 10 ≤ k) : bowlineref17_unnum.f k xs = some (Hand.num xs) := by
  have h := unnum_l xs hb h6 xs.length k 0 0 (by omega) (by omega) (by omega) (by omega) (by simp)
  exact h
theorem bytes_sub {l s : List Int} (hb : Hand.bytesB l = true) (hs : ∀ x ∈ s, x ∈ l) : Hand.bytesB s = true := by
  unfold Hand.bytesB at hb ⊢
  rw [List.all_eq_true] at hb ⊢
  exact fun x hx => hb x (hs x hx)
theorem four_bounds (l : List Int) (hb : Hand.bytesB l = true) (j : Nat) (hj : j + 4 ≤ l.length) : 0 ≤ Hand.num ((l.drop j).take 4) ∧ Hand.num ((l.drop j).take 4) < 4294967296 := by
  obtain ⟨x, y, z, t, ht⟩ := Mk.take4 (l.drop j) (by rw [List.length_drop]; omega)
  have hm : ∀ v ∈ [x, y, z, t], 0 ≤ v ∧ v ≤ 255 := fun v hv => Mk.byte_of hb (List.mem_of_mem_drop (List.mem_of_mem_take (ht ▸ hv)))
  have h1 := hm x (by simp)
  have h2 := hm y (by simp)
  have h3 := hm z (by simp)
  have h4 := hm t (by simp)
  rw [ht]
  simp [Hand.num]
  omega

theorem get_l (l : List Int) (hb : Hand.bytesB l = true) (e b n a : Int) (m : Nat) (hm : m ≤ 255) (hl : l.length = 11 + 4 * m) (d : Nat) : ∀ (k i : Nat), i ≤ m → m - i = d → d + 300 < k →
    bowlineref17_Get.l0 k l ((11 + 4 * i : Nat) : Int) e b n a (Hand.lefts l i) = some (if Hand.right e b n a (Hand.lefts l m) = true then (e, b, n, a, Hand.lefts l m, true) else (0, 0, 0, 0, [], false)) := by
  induction d with
  | zero =>
    intro k i hi hd hk
    obtain ⟨k, rfl⟩ : ∃ m, k = m + 1 := ⟨k - 1, by omega⟩
    obtain rfl : i = m := by omega
    simp only [bowlineref17_Get.l0]
    rw [if_neg (by omega), right_f e b n a _ (by rw [Hand.lefts_length]; omega) k (by rw [Hand.lefts_length]; omega)]
    simp only [Option.bind_some]
    split <;> rfl
  | succ d ih =>
    intro k i hi hd hk
    obtain ⟨k, rfl⟩ : ∃ m, k = m + 1 := ⟨k - 1, by omega⟩
    simp only [bowlineref17_Get.l0]
    have e4 : wrap64 (((11 + 4 * i : Nat) : Int) + 4) = ((11 + 4 * (i + 1) : Nat) : Int) := by unfold wrap64; omega
    have hsub : (l.take ((11 + 4 * (i + 1) : Nat) : Int).toNat).drop ((11 + 4 * i : Nat) : Int).toNat = (l.drop (11 + 4 * i)).take 4 := by
      rw [Int.toNat_natCast, Int.toNat_natCast, List.drop_take, show 11 + 4 * (i + 1) - (11 + 4 * i) = 4 by omega]
    have hv := four_bounds l hb (11 + 4 * i) (by omega)
    rw [e4]
    clear e4
    rw [if_pos (by omega), if_pos (by omega), if_pos (by omega), if_pos (by omega), hsub, unnum_f _ (bytes_sub hb (fun x hx => List.mem_of_mem_drop (List.mem_of_mem_take hx))) (by rw [List.length_take]; omega) k (by omega)]
    simp only [Option.bind_some]
    have hlen : (Hand.lefts l i).length < 17592186044416 := Nat.lt_of_le_of_lt (show _ ≤ 255 by rw [Hand.lefts_length]; omega) (by decide)
    have h := ih k (i + 1) (by omega) (by omega) (by omega)
    rw [Hand.lefts] at h
    by_cases h2 : Hand.num ((l.drop (11 + 4 * i)).take 4) ≥ 2147483648
    · have e5 : wrap64 (Hand.num ((l.drop (11 + 4 * i)).take 4) - 4294967296) = wrap32 (Hand.num ((l.drop (11 + 4 * i)).take 4)) := by unfold wrap64 wrap32; omega
      rw [if_pos h2, if_pos hlen, e5]
      exact h
    · have e5 : wrap32 (Hand.num ((l.drop (11 + 4 * i)).take 4)) = Hand.num ((l.drop (11 + 4 * i)).take 4) := by unfold wrap32; omega
      rw [e5] at h
      rw [if_neg h2, if_pos hlen]
      exact h

theorem ref_get_f (l : List Int) (hb : Hand.bytesB l = true) (k : Nat) (hk : 700 ≤ k) : bowlineref17_Get.f k l = some (Hand.get l) := by
  obtain ⟨k, rfl⟩ : ∃ m, k = m + 1 := ⟨k - 1, by omega⟩
  unfold bowlineref17_Get.f Hand.get
  by_cases h11 : (l.length : Int) < 11
  · rw [if_pos h11, if_pos h11]
    simp only [bowlineref17_Get.j0]
    rw [if_pos trivial]
  · have hL : 11 ≤ l.length := by omega
    have hr : rd l (10 : Int) = l[10] := by simp [rd, List.getElem?_eq_getElem (show 10 < l.length by omega)]
    have hm := Mk.byte_of hb (List.getElem_mem (show 10 < l.length by omega))
    rw [← hr] at hm
    have e1 : wrap64 (rd l 10) = rd l 10 := by unfold wrap64; omega
    have e2 : wrap64 (4 * rd l 10) = 4 * rd l 10 := by unfold wrap64; omega
    have e3 : wrap64 (11 + 4 * rd l 10) = 11 + 4 * rd l 10 := by unfold wrap64; omega
    rw [if_neg h11, if_neg h11, if_pos (by omega), e1, e2, e3]
    clear e1 e2 e3
    simp only [bowlineref17_Get.j0]
    by_cases hn : (l.length : Int) = 11 + 4 * rd l 10
    · have h8 := Mk.byte_of hb (List.getElem_mem (show 8 < l.length by omega))
      have h9 := Mk.byte_of hb (List.getElem_mem (show 9 < l.length by omega))
      have hr8 : rd l (8 : Int) = l[8] := by simp [rd, List.getElem?_eq_getElem (show 8 < l.length by omega)]
      have hr9 : rd l (9 : Int) = l[9] := by simp [rd, List.getElem?_eq_getElem (show 9 < l.length by omega)]
      have e8 : wrap64 (rd l 8) = rd l 8 := by unfold wrap64; omega
      have e9 : wrap64 (rd l 9) = rd l 9 := by unfold wrap64; omega
      rw [e8, e9]
      clear e8 e9
      have n8 : Hand.num ((l.drop 8).take 1) = rd l 8 := Hand.num_one l 8 (by omega)
      have n9 : Hand.num ((l.drop 9).take 1) = rd l 9 := Hand.num_one l 9 (by omega)
      rw [if_neg (by simp [hn]), if_pos (by omega), unnum_f _ (bytes_sub hb (fun x hx => List.mem_of_mem_take hx)) (by rw [List.length_take]; omega) k (by omega)]
      simp only [Option.bind_some]
      rw [if_pos (by omega), if_pos (by omega), List.drop_take, show 8 - 2 = 6 from rfl, unnum_f _ (bytes_sub hb (fun x hx => List.mem_of_mem_drop (List.mem_of_mem_take hx))) (by rw [List.length_take]; omega) k (by omega)]
      simp only [Option.bind_some]
      rw [if_pos (by omega), if_pos (by omega), if_pos hn]
      have hg := get_l l hb (Hand.num (l.take 2)) (Hand.num ((l.drop 2).take 6)) (rd l 8) (rd l 9) (rd l 10).toNat (by omega) (by omega) (rd l 10).toNat k 0 (by omega) (by omega) (by omega)
      rw [← n8, ← n9] at hg ⊢
      exact hg
    · rw [if_pos (by simpa using hn), if_neg hn]
end Go.Proofs.Ytelpnlpbjenmkaa.Tells
