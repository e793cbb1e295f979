/- NumRow: of numbers that stand in a row, within half of all, each is less than all behind it. No condition. -/
import Derived.Test.YtocgpldiihhhiaaPNumRowx2
import Derived.Test.YtocgpldiihhhiaaNumLaw
namespace Go.Proofs.Ytocgpldiihhhiaa.Pure
open Go.RowKit Go.Proofs.Ytocgpldiihhhiaa.PNumRow Go.Proofs.YtocgpldiihhhiaaW.PrintWords Go.Proofs.YtocgpldiihhhiaaW.PrintLast
open NumPlain (Size)

theorem head_f : bowlinelaw01_head.f = some true := by decide +kernel

/-- How far the i-th number is behind the first one. -/
def far (l : List Int) : Nat → Int
  | 0 => 0
  | i + 1 => far l i + (1 + (rd l i) % 32)

theorem far_lt (l : List Int) (i d : Nat) : far l i + d ≤ far l (i + d) ∧ far l (i + d) ≤ far l i + 32 * d := by
  induction d with
  | zero => simp
  | succ d ih =>
    have : far l (i + (d + 1)) = far l (i + d) + (1 + (rd l ((i + d : Nat) : Int)) % 32) := rfl
    omega

/-- The row that stands, so far. -/
def Row (m a : Int) (l : List Int) (r : List Int) (n : Nat) : Prop := r.length = n + 1 ∧ ∀ i : Nat, i ≤ n → rd r i = (a + far l i) % m

theorem rd_snoc (r : List Int) (x : Int) (i : Nat) : rd (r ++ [x]) i = if i < r.length then rd r i else if i = r.length then x else 0 := by
  unfold rd
  simp only [Int.toNat_natCast, List.getD_eq_getElem?_getD]
  by_cases h : i < r.length
  · rw [if_pos h, List.getElem?_append_left h]
  · rw [if_neg h, List.getElem?_append_right (by omega)]
    by_cases h2 : i = r.length
    · simp [h2]
    · have : i - r.length ≠ 0 := by omega
      rw [if_neg h2, List.getElem?_eq_none (by simp; omega)]
      rfl

theorem less_row {s m : Int} (h : Size s m) (a : Int) (l : List Int) (i j : Nat) (hi : i ≤ 60) (hj : j ≤ 60) :
    num_Less.f s ((a + far l i) % m) ((a + far l j) % m) = some (decide ((i : Int) < (j : Int))) := by
  unfold num_Less.f num_Diff.f
  have i0 : 0 ≤ (a + far l i) % m := Int.emod_nonneg _ (by have := h.pos; omega)
  have i1 : (a + far l i) % m < m := Int.emod_lt_of_pos _ h.pos
  have j0 : 0 ≤ (a + far l j) % m := Int.emod_nonneg _ (by have := h.pos; omega)
  have j1 : (a + far l j) % m < m := Int.emod_lt_of_pos _ h.pos
  rw [h.diff i0 i1 j0 j1]
  simp only [Option.bind_some, Option.some.injEq]
  have key : (NumPlain.diffM m ((a + far l i) % m) ((a + far l j) % m) < 0) ↔ i < j := by
    unfold NumPlain.diffM
    rcases Nat.lt_trichotomy i j with hlt | rfl | hgt
    · have f := far_lt l i (j - i)
      rw [show i + (j - i) = j by omega] at f
      generalize far l i = fi at *
      generalize far l j = fj at *
      rcases h with ⟨_, rfl⟩ | ⟨_, rfl⟩ <;> (split <;> omega)
    · generalize far l i = fi at *
      rcases h with ⟨_, rfl⟩ | ⟨_, rfl⟩ <;> (split <;> omega)
    · have f := far_lt l j (i - j)
      rw [show j + (i - j) = i by omega] at f
      generalize far l i = fi at *
      generalize far l j = fj at *
      rcases h with ⟨_, rfl⟩ | ⟨_, rfl⟩ <;> (split <;> omega)
  by_cases hlt : i < j
  · simp [key, hlt]
  · simp [key, hlt]

/-- One row of the square, and all the rows behind it. -/
theorem square {s m : Int} (h : Size s m) (a : Int) (l r : List Int) (n : Nat) (hn : n ≤ 60) (hr : Row m a l r n) (D : Nat) : ∀ (k i j : Nat), i ≤ n → j ≤ n + 1 → (n - i) * (n + 3) + (n + 1 - j) = D → D + 1 < k →
    bowlinelaw01_NumRow.l2 k true s r i j = some true := by
  obtain ⟨hl, hr⟩ := hr
  induction D using Nat.strongRecOn with
  | _ D ih =>
    intro k i j hi hj hD hk
    obtain ⟨k, rfl⟩ : ∃ m, k = m + 1 := ⟨k - 1, by omega⟩
    simp only [bowlinelaw01_NumRow.l2]
    by_cases hjn : j ≤ n
    · rw [if_pos (by omega), if_pos (by omega), if_pos (by omega), if_pos (by omega), hr i hi, hr j hjn, less_row h a l i j (by omega) (by omega)]
      simp only [Option.bind_some]
      rw [if_neg (by simp)]
      have e : wrap64 ((j : Int) + 1) = ((j + 1 : Nat) : Int) := by unfold wrap64; omega
      rw [e]
      exact ih (D - 1) (by omega) k i (j + 1) hi (by omega) (by omega) (by omega)
    · rw [if_neg (by omega)]
      have e : wrap64 ((i : Int) + 1) = ((i + 1 : Nat) : Int) := by unfold wrap64; omega
      rw [e]
      obtain ⟨k, rfl⟩ : ∃ m, k = m + 1 := ⟨k - 1, by omega⟩
      simp only [bowlinelaw01_NumRow.l1]
      by_cases hin : i + 1 ≤ n
      · rw [if_pos (by omega)]
        have hmul : (n - i) * (n + 3) = (n - (i + 1)) * (n + 3) + (n + 3) := by
          rw [show n - i = (n - (i + 1)) + 1 by omega, Nat.add_mul, Nat.one_mul]
        exact ih ((n - (i + 1)) * (n + 3) + (n + 1 - 0)) (by omega) k (i + 1) 0 hin (by omega) rfl (by omega)
      · rw [if_neg (by omega)]

theorem build {s m : Int} (h : Size s m) (a : Int) (l : List Int) (hl : l.length ≤ 60) (hb : ∀ i : Nat, 0 ≤ rd l i ∧ rd l i ≤ 255) (d : Nat) : ∀ (k i : Nat) (r : List Int), i ≤ l.length → l.length - i = d → Row m a l r i → d + 4000 < k →
    bowlinelaw01_NumRow.l0 k l true s r i = some true := by
  induction d with
  | zero =>
    intro k i r hi hd hr hk
    obtain ⟨k, rfl⟩ : ∃ m, k = m + 1 := ⟨k - 1, by omega⟩
    obtain ⟨k, rfl⟩ : ∃ m, k = m + 1 := ⟨k - 1, by omega⟩
    simp only [bowlinelaw01_NumRow.l0, bowlinelaw01_NumRow.l1]
    rw [if_neg (by omega), if_pos (by have := hr.1; omega)]
    have hp : (i - 0) * (i + 3) ≤ 60 * 63 := Nat.mul_le_mul (by omega) (by omega)
    exact square h a l r i (by omega) hr _ k 0 0 (by omega) (by omega) rfl (by omega)
  | succ d ih =>
    intro k i r hi hd hr hk
    obtain ⟨k, rfl⟩ : ∃ m, k = m + 1 := ⟨k - 1, by omega⟩
    have bi := hb i
    have hrl := hr.1
    have hlen : r.length ≤ 61 := by rw [hrl]; omega
    simp only [bowlinelaw01_NumRow.l0]
    rw [if_pos (by omega), if_pos (by omega), if_pos (by omega)]
    have e1 : wrap64 (Int.tmod (rd l i) 32) = (rd l i) % 32 := by
      rw [Int.tmod_eq_emod_of_nonneg (by omega)]
      unfold wrap64
      omega
    have e2 : wrap64 (1 + (rd l i) % 32) = 1 + (rd l i) % 32 := by unfold wrap64; omega
    have e3 : wrap64 ((i : Int) + 1) = ((i + 1 : Nat) : Int) := by unfold wrap64; omega
    have g0 : 0 ≤ (a + far l i) % m := Int.emod_nonneg _ (by have := h.pos; omega)
    have g1 : (a + far l i) % m < m := Int.emod_lt_of_pos _ h.pos
    rw [e1, e2, e3, hr.2 i (Nat.le_refl _)]
    clear e1 e2 e3
    unfold num_Add.f
    rw [h.add _ g0 g1]
    simp only [Option.bind_some]
    rw [if_pos (Nat.lt_of_le_of_lt hlen (by decide))]
    refine ih k (i + 1) _ (by omega) (by omega) ⟨by simp [hrl], fun j hj => ?_⟩ (by omega)
    rw [rd_snoc, hrl]
    by_cases hji : j < i + 1
    · rw [if_pos hji]
      exact hr.2 j (by omega)
    · obtain rfl : j = i + 1 := by omega
      rw [if_neg (by omega), if_pos rfl]
      show _ = (a + (far l i + (1 + (rd l (i : Int)) % 32))) % m
      rcases h with ⟨_, rfl⟩ | ⟨_, rfl⟩ <;> omega

theorem rd_bounds (l : List Int) (h : ∀ x ∈ l, (Lit.int .u8 x).wf = true) (i : Nat) : 0 ≤ rd l i ∧ rd l i ≤ 255 := by
  unfold rd
  simp only [Int.toNat_natCast, List.getD_eq_getElem?_getD]
  by_cases hi : i < l.length
  · rw [List.getElem?_eq_getElem hi]
    exact NumPlain.wf_u8 (h _ (List.getElem_mem hi))
  · rw [List.getElem?_eq_none (by omega)]
    exact ⟨by decide, by decide⟩

theorem start {s m : Int} (h : Size s m) (a : Int) (l : List Int) (ha0 : 0 ≤ a) (ha1 : a < m) : Row m a l [a] 0 := by
  refine ⟨rfl, fun i hi => ?_⟩
  obtain rfl : i = 0 := by omega
  show a = (a + 0) % m
  rcases h with ⟨_, rfl⟩ | ⟨_, rfl⟩ <;> omega

theorem build0 {s m : Int} (h : Size s m) (a : Int) (l : List Int) (hl : l.length ≤ 60) (hb : ∀ i : Nat, 0 ≤ rd l i ∧ rd l i ≤ 255) (ha0 : 0 ≤ a) (ha1 : a < m) (k : Nat) (hk : 4100 < k) :
    bowlinelaw01_NumRow.l0 k l true s [a] 0 = some true :=
  build h a l hl hb l.length k 0 [a] (Nat.zero_le _) rfl (start h a l ha0 ha1) (by omega)

theorem NumRow : bowlinelaw01_NumRow.Pure := by
  intro a0 a1 l h1 _ _ hw
  have b1 := NumPlain.wf_u32 h1
  obtain ⟨K, hK⟩ : ∃ K : Nat, 4100 < K := ⟨4101, by omega⟩
  refine ⟨K, ?_⟩
  unfold bowlinelaw01_NumRow.f bowlinelaw01_size.f
  rw [head_f]
  simp only [Option.bind_some]
  by_cases hl : (l.length : Int) > 60
  · cases a0 <;> simp [hl]
  · cases a0
    · have hs : Size 12 4096 := .inl ⟨rfl, rfl⟩
      obtain ⟨a, ea, ha0, ha1, _⟩ := hs.lay a1 b1.1 b1.2
      simp only [Option.bind_some, Bool.false_eq_true, if_false, ea]
      rw [if_neg hl, if_neg (by omega)]
      exact build0 hs a l (by omega) (rd_bounds l hw) ha0 ha1 K hK
    · have hs : Size 24 16777216 := .inr ⟨rfl, rfl⟩
      obtain ⟨a, ea, ha0, ha1, _⟩ := hs.lay a1 b1.1 b1.2
      simp only [Option.bind_some, if_true, ea]
      rw [if_neg hl, if_neg (by omega)]
      exact build0 hs a l (by omega) (rd_bounds l hw) ha0 ha1 K hK

end Go.Proofs.Ytocgpldiihhhiaa.Pure
