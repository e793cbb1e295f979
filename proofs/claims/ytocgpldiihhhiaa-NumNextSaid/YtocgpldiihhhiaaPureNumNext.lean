/- NumNext: numbers counted on one by one are all of them, each once, then the first one again. No condition. -/
import Derived.Test.YtocgpldiihhhiaaPNumNextx1
import Derived.Test.YtocgpldiihhhiaaNumLaw
namespace Go.Proofs.Ytocgpldiihhhiaa.Pure
open Go.RowKit Go.Proofs.Ytocgpldiihhhiaa.PNumNext Go.Proofs.YtocgpldiihhhiaaW.PrintWords Go.Proofs.YtocgpldiihhhiaaW.PrintLast
open NumPlain (Size)

theorem head_f : bowlinelaw01_head.f = some true := by decide +kernel

theorem rounds (a n : Int) (ha0 : 0 ≤ a) (ha1 : a < 4096) (hn1 : n < 5000) (d : Nat) : ∀ (k : Nat) (i : Int), 1 ≤ i → i ≤ n + 1 → n + 1 - i = d → d < k →
    bowlinelaw01_NumNext.l0 k true a ((a + (i - 1)) % 4096) n i = some true := by
  have hs : Size 12 4096 := .inl ⟨rfl, rfl⟩
  induction d with
  | zero =>
    intro k i h0 h1 hd hk
    obtain ⟨k, rfl⟩ : ∃ m, k = m + 1 := ⟨k - 1, by omega⟩
    simp only [bowlinelaw01_NumNext.l0]
    rw [if_neg (by omega)]
    unfold num_Add.f
    rw [hs.add n ha0 ha1]
    have : i - 1 = n := by omega
    rw [this]
    simp
  | succ d ih =>
    intro k i h0 h1 hd hk
    obtain ⟨k, rfl⟩ : ∃ m, k = m + 1 := ⟨k - 1, by omega⟩
    have e := ih k (i + 1) (by omega) (by omega) (by omega) (by omega)
    simp only [bowlinelaw01_NumNext.l0]
    rw [if_pos (by omega)]
    unfold num_Add.f
    rw [hs.add 1 (by omega) (by omega)]
    have e1 : ((a + (i - 1)) % 4096 + 1) % 4096 = (a + (i + 1 - 1)) % 4096 := by omega
    have e2 : wrap64 (i + 1) = i + 1 := by unfold wrap64; omega
    have e3 : i.tmod 4096 = i % 4096 := by rw [Int.tmod_eq_emod_of_nonneg (by omega)]
    rw [e1, e2, e3]
    simp only [Option.bind_some]
    have e4 : (((a + (i + 1 - 1)) % 4096 == a) != (i % 4096 == 0)) = false := by
      by_cases h : i % 4096 = 0
      · have : (a + (i + 1 - 1)) % 4096 = a := by omega
        rw [this, h]
        simp
      · have : ¬ (a + (i + 1 - 1)) % 4096 = a := by omega
        rw [beq_eq_false_iff_ne.2 this, beq_eq_false_iff_ne.2 h]
        rfl
    rw [e4, if_neg (by simp), if_neg (by omega), if_neg (by omega)]
    exact e

theorem NumNext : bowlinelaw01_NumNext.Pure := by
  intro a0 a1 h0 h1
  have b0 := NumPlain.wf_u16 h0
  have b1 := NumPlain.wf_u16 h1
  have hs : Size 12 4096 := .inl ⟨rfl, rfl⟩
  obtain ⟨a, ea, ha0, ha1, _⟩ := hs.lay a0 b0.1 (by omega)
  have en : Int.tmod (wrap64 a1) 5000 = a1 % 5000 := by
    have : wrap64 a1 = a1 := by unfold wrap64; omega
    rw [this, Int.tmod_eq_emod_of_nonneg b1.1]
  refine ⟨5002, ?_⟩
  unfold bowlinelaw01_NumNext.f
  rw [head_f, ea, en]
  simp only [Option.bind_some]
  have h := rounds a (a1 % 5000) ha0 ha1 (by omega) (a1 % 5000).toNat 5002 1 (by omega) (by omega) (by omega) (by omega)
  have e : (a + (1 - 1)) % 4096 = a := by omega
  rwa [e] at h

end Go.Proofs.Ytocgpldiihhhiaa.Pure
