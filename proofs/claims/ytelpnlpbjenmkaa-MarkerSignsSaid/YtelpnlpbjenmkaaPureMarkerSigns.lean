/- MarkerSigns: what is left is told with its sign, each of its own. No condition. -/
import Derived.Test.YtelpnlpbjenmkaaPMarkerSignsx7
import Derived.Test.YtelpnlpbjenmkaaPutMarkerSigns
namespace Go.Proofs.Ytelpnlpbjenmkaa.Pure
open Go.RowKit Go.Proofs.Ytelpnlpbjenmkaa.PMarkerSigns Go.Proofs.YtelpnlpbjenmkaaW.PrintWords Go.Proofs.YtelpnlpbjenmkaaW.PrintLast

def sg (x : Int) : Int := Int.tmod x 2047
theorem sg_bounds (x : Int) : -2047 < sg x ∧ sg x < 2047 := by
  unfold sg
  have h := Int.tmod_lt_of_pos (-x) (b := 2047) (by omega)
  rw [Int.neg_tmod] at h
  have h2 := Int.tmod_lt_of_pos x (b := 2047) (by omega)
  omega
theorem sg_wrap (x : Int) : wrap64 (Int.tmod x 2047) = sg x := by
  have h := sg_bounds x
  unfold sg at *
  unfold wrap64
  omega

theorem right_signs (l : List Int) (h1 : 1 ≤ l.length) (h2 : l.length ≤ 8) : Hand.right 0 0 0 0 (l.map sg) = true := by
  unfold Hand.right
  have h : (l.map sg).any Hand.bad = false := by
    rw [List.any_eq_false]
    intro x hx
    obtain ⟨y, _, rfl⟩ := List.mem_map.1 hx
    have := sg_bounds y
    unfold Hand.bad
    simp
    omega
  rw [h]
  simp
  omega

theorem compare (l : List Int) (h2 : l.length ≤ 8) (d : Nat) : ∀ (k i : Nat), i ≤ l.length → l.length - i = d → d < k →
    bowlinelaw17_MarkerSigns.l1 k l true i 0 0 0 0 (l.map sg) = some true := by
  induction d with
  | zero =>
    intro k i hi hd hk
    obtain ⟨k, rfl⟩ : ∃ m, k = m + 1 := ⟨k - 1, by omega⟩
    simp only [bowlinelaw17_MarkerSigns.l1]
    rw [if_neg (by omega)]
    simp
  | succ d ih =>
    intro k i hi hd hk
    obtain ⟨k, rfl⟩ : ∃ m, k = m + 1 := ⟨k - 1, by omega⟩
    simp only [bowlinelaw17_MarkerSigns.l1]
    have e : wrap64 ((i : Int) + 1) = ((i + 1 : Nat) : Int) := by unfold wrap64; omega
    have er : rd (l.map sg) (i : Int) = wrap64 (Int.tmod (rd l (i : Int)) 2047) := by
      rw [sg_wrap]
      simp [rd, List.getElem?_eq_getElem (show i < l.length by omega)]
    rw [if_pos (by omega), if_pos (by omega), if_pos (by simp; omega), if_pos er, e]
    exact ih k (i + 1) (by omega) (by omega) (by omega)

theorem build (l : List Int) (h1 : 1 ≤ l.length) (h2 : l.length ≤ 8) (d : Nat) : ∀ (k i : Nat), i ≤ l.length → l.length - i = d → d + 100 < k →
    bowlinelaw17_MarkerSigns.l0 k l true i 0 0 0 0 ((l.take i).map sg) = some true := by
  induction d with
  | zero =>
    intro k i hi hd hk
    obtain ⟨k, rfl⟩ : ∃ m, k = m + 1 := ⟨k - 1, by omega⟩
    simp only [bowlinelaw17_MarkerSigns.l0]
    rw [if_neg (by omega), List.take_of_length_le (by omega), put_f k (by omega), if_pos (right_signs l h1 h2)]
    simp only [Option.bind_some]
    unfold marker_Get.f
    rw [if_pos (Mk.put_bytes _ _ _ _ _), Mk.get_put _ _ _ _ _ (right_signs l h1 h2)]
    simp only [Option.bind_some, if_true]
    exact compare l h2 l.length k 0 (by omega) (by omega) (by omega)
  | succ d ih =>
    intro k i hi hd hk
    obtain ⟨k, rfl⟩ : ∃ m, k = m + 1 := ⟨k - 1, by omega⟩
    simp only [bowlinelaw17_MarkerSigns.l0]
    have e : wrap64 ((i : Int) + 1) = ((i + 1 : Nat) : Int) := by unfold wrap64; omega
    have hlen : ((l.take i).map sg).length ≤ 8 := by simp; omega
    rw [if_pos (by omega), if_pos (by omega), if_pos (Nat.lt_of_le_of_lt hlen (by decide)), e, sg_wrap]
    have h := ih k (i + 1) (by omega) (by omega) (by omega)
    have et : (l.take (i + 1)).map sg = (l.take i).map sg ++ [sg (rd l i)] := by
      have er : rd l (i : Int) = l[i]'(by omega) := by simp [rd, List.getElem?_eq_getElem (show i < l.length by omega)]
      rw [List.take_add_one, List.getElem?_eq_getElem (show i < l.length by omega), List.map_append, er]
      rfl
    rw [et] at h
    exact h

theorem MarkerSigns : bowlinelaw17_MarkerSigns.Pure := by
  intro l _ _ _
  refine ⟨200, ?_⟩
  unfold bowlinelaw17_MarkerSigns.f bowlinelaw17_head.f
  simp only [Option.bind_some]
  by_cases h0 : (l.length : Int) = 0
  · rw [if_pos h0]
    rfl
  · rw [if_neg h0]
    by_cases h8 : (l.length : Int) > 8
    · rw [decide_eq_true h8]
      rfl
    · rw [decide_eq_false h8]
      show bowlinelaw17_MarkerSigns.l0 199 l true ((0 : Nat) : Int) 0 0 0 0 ((l.take 0).map sg) = some true
      exact build l (by omega) (by omega) l.length 199 0 (by omega) (by omega) (by omega)

end Go.Proofs.Ytelpnlpbjenmkaa.Pure
