/- NumBack: what is added and taken away again is nothing; the distance to oneself is 0, and of both ways together 0, or all. No condition. -/
import Derived.Test.YtocgpldiihhhiaaPNumBackx1
import Derived.Test.YtocgpldiihhhiaaNumLaw
namespace Go.Proofs.Ytocgpldiihhhiaa.Pure
open Go.RowKit Go.Proofs.Ytocgpldiihhhiaa.PNumBack Go.Proofs.YtocgpldiihhhiaaW.PrintWords Go.Proofs.YtocgpldiihhhiaaW.PrintLast
open NumPlain (Size)

theorem head_f : bowlinelaw01_head.f = some true := by decide +kernel

theorem core (s m a b n : Int) (h : Size s m) (ha0 : 0 ≤ a) (ha1 : a < m) (hb0 : 0 ≤ b) (hb1 : b < m) (hn : wrap64 n = n) (hn' : wrap64 (-n) = -n) :
    ((num_Diff.f s a b).bind fun t123 => ((num_Diff.f s b a).bind fun t124 => ((num_Add.f s a (wrap64 n)).bind fun t125 => ((num_Add.f s t125 (wrap64 (-(wrap64 n)))).bind fun t126 => (if t126 = a then ((num_Diff.f s a a).bind fun t127 => (if t127 = 0 then (if (wrap64 (t123 + t124)) = 0 then (some true) else (some ((wrap64 (t123 + t124)) == m))) else (some false))) else (some false)))))) = some true := by
  unfold num_Diff.f num_Add.f
  simp only [Option.bind_some]
  have r0 : 0 ≤ (a + n) % m := Int.emod_nonneg _ (by have := h.pos; omega)
  have r1 : (a + n) % m < m := Int.emod_lt_of_pos _ h.pos
  rw [hn, hn', h.add n ha0 ha1, h.add (-n) r0 r1, h.diff ha0 ha1 hb0 hb1, h.diff hb0 hb1 ha0 ha1, h.diff ha0 ha1 ha0 ha1]
  have e1 : ((a + n) % m + -n) % m = a := by
    rcases h with ⟨rfl, rfl⟩ | ⟨rfl, rfl⟩ <;> omega
  have e2 : NumPlain.diffM m a a = 0 := by
    unfold NumPlain.diffM
    rcases h with ⟨rfl, rfl⟩ | ⟨rfl, rfl⟩ <;> (split <;> omega)
  have e3 : wrap64 (NumPlain.diffM m a b + NumPlain.diffM m b a) = 0 ∨ wrap64 (NumPlain.diffM m a b + NumPlain.diffM m b a) = m := by
    unfold NumPlain.diffM wrap64
    rcases h with ⟨rfl, rfl⟩ | ⟨rfl, rfl⟩ <;> (split <;> split <;> omega)
  rw [if_pos e1, if_pos e2]
  rcases e3 with e3 | e3
  · rw [if_pos e3]
  · rw [e3]
    simp

theorem NumBack : bowlinelaw01_NumBack.Pure := by
  intro a0 a1 a2 a3 h1 h2 h3
  have b1 := NumPlain.wf_u32 h1
  have b2 := NumPlain.wf_u32 h2
  have b3 := NumPlain.wf_i32 h3
  have hn := NumPlain.wrap_i32 h3
  have hn' : wrap64 (-a3) = -a3 := by unfold wrap64; omega
  unfold bowlinelaw01_NumBack.f bowlinelaw01_size.f
  rw [head_f]
  cases a0
  · have hs : Size 12 4096 := .inl ⟨rfl, rfl⟩
    obtain ⟨a, ea, ha0, ha1, _⟩ := hs.lay a1 b1.1 b1.2
    obtain ⟨b, eb, hb0, hb1, _⟩ := hs.lay a2 b2.1 b2.2
    simp only [Option.bind_some, if_true, Bool.false_eq_true, if_false, ea, eb]
    exact core 12 4096 a b a3 hs ha0 ha1 hb0 hb1 hn hn'
  · have hs : Size 24 16777216 := .inr ⟨rfl, rfl⟩
    obtain ⟨a, ea, ha0, ha1, _⟩ := hs.lay a1 b1.1 b1.2
    obtain ⟨b, eb, hb0, hb1, _⟩ := hs.lay a2 b2.1 b2.2
    simp only [Option.bind_some, if_true, ea, eb]
    exact core 24 16777216 a b a3 hs ha0 ha1 hb0 hb1 hn hn'

end Go.Proofs.Ytocgpldiihhhiaa.Pure
