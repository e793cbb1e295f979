/- NumRound: what is added one behind the other is added at once; Diff tells what was added, within half of all; nothing added, or all, is the same. No condition. -/
import Derived.Test.YtocgpldiihhhiaaPNumRoundx1
import Derived.Test.YtocgpldiihhhiaaNumLaw
namespace Go.Proofs.Ytocgpldiihhhiaa.Pure
open Go.RowKit Go.Proofs.Ytocgpldiihhhiaa.PNumRound Go.Proofs.YtocgpldiihhhiaaW.PrintWords Go.Proofs.YtocgpldiihhhiaaW.PrintLast
open NumPlain (Size)

theorem head_f : bowlinelaw01_head.f = some true := by decide +kernel

theorem parts (s m a n k : Int) (h : Size s m) (ha0 : 0 ≤ a) (ha1 : a < m) :
    NumPlain.right s a = true ∧ NumPlain.add s (NumPlain.add s a n) k = NumPlain.add s a (n + k) ∧ NumPlain.add s a m = a ∧ NumPlain.add s a 0 = a ∧
    ((-(m / 2) < n ∧ n ≤ m / 2) → NumPlain.diff s (NumPlain.add s a n) a = n) ∧ -(m / 2) < NumPlain.diff s (NumPlain.add s a n) a ∧ NumPlain.diff s (NumPlain.add s a n) a ≤ m / 2 ∧
    NumPlain.add s a (NumPlain.diff s (NumPlain.add s a n) a) = NumPlain.add s a n := by
  have r0 : 0 ≤ (a + n) % m := Int.emod_nonneg _ (by have := h.pos; omega)
  have r1 : (a + n) % m < m := Int.emod_lt_of_pos _ h.pos
  rw [h.add n ha0 ha1, h.add k r0 r1, h.add (n + k) ha0 ha1, h.add m ha0 ha1, h.add 0 ha0 ha1, h.diff r0 r1 ha0 ha1, h.add _ ha0 ha1]
  refine ⟨h.right ha0 ha1, ?_, ?_, ?_, ?_, ?_, ?_, ?_⟩
  · rcases h with ⟨_, rfl⟩ | ⟨_, rfl⟩ <;> omega
  · rcases h with ⟨_, rfl⟩ | ⟨_, rfl⟩ <;> omega
  · rcases h with ⟨_, rfl⟩ | ⟨_, rfl⟩ <;> omega
  all_goals
    unfold NumPlain.diffM
    rcases h with ⟨_, rfl⟩ | ⟨_, rfl⟩ <;> (split <;> omega)

theorem NumRound : bowlinelaw01_NumRound.Pure := by
  intro a0 a1 a2 a3 h1 h2 h3
  have b1 := NumPlain.wf_u32 h1
  have b2 := NumPlain.wf_i32 h2
  have b3 := NumPlain.wf_i32 h3
  have n2 := NumPlain.wrap_i32 h2
  have n3 := NumPlain.wrap_i32 h3
  have n23 : wrap64 (a2 + a3) = a2 + a3 := by unfold wrap64; omega
  have main : ∀ s m : Int, Size s m → ∀ a : Int, 0 ≤ a → a < m → Int.tmod (wrap64 a1) m = a →
      bowlinelaw01_size.f a0 = some (s, m) → bowlinelaw01_NumRound.f 1 a0 a1 a2 a3 = some true := by
    intro s m h a ha0 ha1 ea es
    have hm := h.big
    have nh : wrap64 (-(m / 2)) = -(m / 2) := by unfold wrap64; omega
    obtain ⟨p0, p1, p2, p3, p4, p5, p6, p7⟩ := parts s m a a2 a3 h ha0 ha1
    unfold bowlinelaw01_NumRound.f num_Add.f num_Diff.f
    rw [head_f, es]
    simp only [Option.bind_some, ea, h.half, n2, n3, nh, bowlinelaw01_NumRound.j0, n23, num_Right.f, num_Add.f, p0, p1, p2, p3, p7, if_true]
    clear nh n23 n2 n3
    generalize NumPlain.diff s (NumPlain.add s a a2) a = d at *
    generalize NumPlain.add s a a2 = c at *
    generalize m / 2 = hf at *
    rw [if_neg (by omega)]
    by_cases q1 : a2 > -hf
    · by_cases q2 : a2 ≤ hf
      · have := p4 ⟨q1, q2⟩
        subst this
        simp [p5, p6]
      · simp [q1, q2, p5, p6]
    · simp [q1, p5, p6]
  cases a0
  · have hs : Size 12 4096 := .inl ⟨rfl, rfl⟩
    obtain ⟨a, ea, ha0, ha1, _⟩ := hs.lay a1 b1.1 b1.2
    exact ⟨1, main 12 4096 hs a ha0 ha1 ea rfl⟩
  · have hs : Size 24 16777216 := .inr ⟨rfl, rfl⟩
    obtain ⟨a, ea, ha0, ha1, _⟩ := hs.lay a1 b1.1 b1.2
    exact ⟨1, main 24 16777216 hs a ha0 ha1 ea rfl⟩

end Go.Proofs.Ytocgpldiihhhiaa.Pure
