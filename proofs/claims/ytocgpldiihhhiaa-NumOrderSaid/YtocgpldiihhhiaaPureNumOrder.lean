/- NumOrder: of two unlike numbers just one is less, but where they are half of all apart: there neither is; both move alike. No condition. -/
import Derived.Test.YtocgpldiihhhiaaPNumOrderx1
import Derived.Test.YtocgpldiihhhiaaNumLaw
namespace Go.Proofs.Ytocgpldiihhhiaa.Pure
open Go.RowKit Go.Proofs.Ytocgpldiihhhiaa.PNumOrder Go.Proofs.YtocgpldiihhhiaaW.PrintWords Go.Proofs.YtocgpldiihhhiaaW.PrintLast
open NumPlain (Size)

theorem head_f : bowlinelaw01_head.f = some true := by decide +kernel

theorem core (s m a b n : Int) (h : Size s m) (ha0 : 0 ≤ a) (ha1 : a < m) (hb0 : 0 ≤ b) (hb1 : b < m) :
    NumPlain.diff s (NumPlain.add s a n) (NumPlain.add s b n) = NumPlain.diff s a b := by
  have r0 : 0 ≤ (a + n) % m := Int.emod_nonneg _ (by have := h.pos; omega)
  have r1 : (a + n) % m < m := Int.emod_lt_of_pos _ h.pos
  have q0 : 0 ≤ (b + n) % m := Int.emod_nonneg _ (by have := h.pos; omega)
  have q1 : (b + n) % m < m := Int.emod_lt_of_pos _ h.pos
  rw [h.add n ha0 ha1, h.add n hb0 hb1, h.diff r0 r1 q0 q1, h.diff ha0 ha1 hb0 hb1]
  refine NumPlain.diffM_same ?_
  rcases h with ⟨_, rfl⟩ | ⟨_, rfl⟩ <;> omega

theorem parts (s m a b : Int) (h : Size s m) (ha0 : 0 ≤ a) (ha1 : a < m) (hb0 : 0 ≤ b) (hb1 : b < m) :
    (a = b → ¬ NumPlain.diff s a b < 0 ∧ ¬ NumPlain.diff s b a < 0) ∧ (a ≠ b → (a - b + m) % m = m / 2 → ¬ NumPlain.diff s a b < 0 ∧ ¬ NumPlain.diff s b a < 0) ∧
    (a ≠ b → (a - b + m) % m ≠ m / 2 → (NumPlain.diff s a b < 0 ∧ ¬ NumPlain.diff s b a < 0) ∨ (¬ NumPlain.diff s a b < 0 ∧ NumPlain.diff s b a < 0)) := by
  rw [h.diff ha0 ha1 hb0 hb1, h.diff hb0 hb1 ha0 ha1]
  unfold NumPlain.diffM
  rcases h with ⟨_, rfl⟩ | ⟨_, rfl⟩ <;> (split <;> split <;> omega)

theorem NumOrder : bowlinelaw01_NumOrder.Pure := by
  intro a0 a1 a2 a3 h1 h2 h3
  have b1 := NumPlain.wf_u32 h1
  have b2 := NumPlain.wf_u32 h2
  have hn := NumPlain.wrap_i32 h3
  have main : ∀ s m : Int, Size s m → ∀ a b : Int, 0 ≤ a → a < m → 0 ≤ b → b < m → Int.tmod (wrap64 a1) m = a → Int.tmod (wrap64 a2) m = b →
      bowlinelaw01_size.f a0 = some (s, m) → bowlinelaw01_NumOrder.f a0 a1 a2 a3 = some true := by
    intro s m h a b ha0 ha1 hb0 hb1 ea eb es
    have hm := h.big
    have e1 : wrap64 (a - b) = a - b := by unfold wrap64; omega
    have e2 : wrap64 (a - b + m) = a - b + m := by unfold wrap64; omega
    have e3 : (a - b + m).tmod m = (a - b + m) % m := by rw [Int.tmod_eq_emod_of_nonneg (by omega)]
    obtain ⟨p1, p2, p3⟩ := parts s m a b h ha0 ha1 hb0 hb1
    have hc := core s m a b a3 h ha0 ha1 hb0 hb1
    unfold bowlinelaw01_NumOrder.f num_Less.f num_Add.f num_Diff.f
    rw [head_f, es]
    simp only [Option.bind_some, if_true, ea, eb, e1, e2, e3, h.half, hn, hc]
    rw [if_neg (by omega)]
    clear e3
    generalize (a - b + m) % m = x at *
    by_cases hab : a = b
    · obtain ⟨q1, q2⟩ := p1 hab
      rw [if_pos hab]
      simp [q1, q2]
    · rw [if_neg hab]
      by_cases hf : x = m / 2
      · obtain ⟨q1, q2⟩ := p2 hab hf
        simp [hf, q1, q2]
      · rcases p3 hab hf with ⟨q1, q2⟩ | ⟨q1, q2⟩ <;> simp [hf, q1, q2]
  cases a0
  · have hs : Size 12 4096 := .inl ⟨rfl, rfl⟩
    obtain ⟨a, ea, ha0, ha1, _⟩ := hs.lay a1 b1.1 b1.2
    obtain ⟨b, eb, hb0, hb1, _⟩ := hs.lay a2 b2.1 b2.2
    exact main 12 4096 hs a b ha0 ha1 hb0 hb1 ea eb rfl
  · have hs : Size 24 16777216 := .inr ⟨rfl, rfl⟩
    obtain ⟨a, ea, ha0, ha1, _⟩ := hs.lay a1 b1.1 b1.2
    obtain ⟨b, eb, hb0, hb1, _⟩ := hs.lay a2 b2.1 b2.2
    exact main 24 16777216 hs a b ha0 ha1 hb0 hb1 ea eb rfl

end Go.Proofs.Ytocgpldiihhhiaa.Pure
