/- Laws of numbers that go round, for either size. -/
import Derived.Test.YtocgpldiihhhiaaNumPlain
namespace Go.Proofs.Ytocgpldiihhhiaa.NumPlain
open Go.RowKit

/-- Bits, and how many numbers there are. -/
def Size (s m : Int) : Prop := (s = 12 ∧ m = 4096) ∨ (s = 24 ∧ m = 16777216)

theorem Size.right {s m a : Int} (h : Size s m) (h0 : 0 ≤ a) (h1 : a < m) : right s a = true := by
  rcases h with ⟨rfl, rfl⟩ | ⟨rfl, rfl⟩ <;> simp [NumPlain.right, all, h0, h1]
theorem Size.all {s m : Int} (h : Size s m) : all s = m := by
  rcases h with ⟨rfl, rfl⟩ | ⟨rfl, rfl⟩ <;> rfl
theorem Size.add {s m a : Int} (h : Size s m) (n : Int) (h0 : 0 ≤ a) (h1 : a < m) : add s a n = (a + n) % m := by
  unfold NumPlain.add
  rw [if_pos (h.right h0 h1), h.all]
theorem Size.diff {s m a b : Int} (h : Size s m) (h0 : 0 ≤ a) (h1 : a < m) (h2 : 0 ≤ b) (h3 : b < m) : diff s a b = diffM m a b := by
  unfold NumPlain.diff
  rw [if_pos ⟨h.right h0 h1, h.right h2 h3⟩, h.all]
theorem Size.pos {s m : Int} (h : Size s m) : 0 < m := by
  rcases h with ⟨_, rfl⟩ | ⟨_, rfl⟩ <;> omega
theorem Size.big {s m : Int} (h : Size s m) : 4096 ≤ m ∧ m ≤ 16777216 := by
  rcases h with ⟨_, rfl⟩ | ⟨_, rfl⟩ <;> omega
theorem Size.half {s m : Int} (h : Size s m) : wrap64 (m.tdiv 2) = m / 2 := by
  rcases h with ⟨_, rfl⟩ | ⟨_, rfl⟩ <;> rfl
theorem Size.lay {s m : Int} (h : Size s m) (x : Int) (h0 : 0 ≤ x) (h1 : x ≤ 4294967295) : ∃ a, Int.tmod (wrap64 x) m = a ∧ 0 ≤ a ∧ a < m ∧ a = x % m := by
  have e : wrap64 x = x := by unfold wrap64; omega
  rw [e, Int.tmod_eq_emod_of_nonneg h0]
  exact ⟨_, rfl, Int.emod_nonneg _ (by have := h.pos; omega), Int.emod_lt_of_pos _ h.pos, rfl⟩
theorem wf_u32 {n : Int} (h : (Lit.int .u32 n).wf = true) : 0 ≤ n ∧ n ≤ 4294967295 := by
  simpa [Lit.wf, IntKind.min, IntKind.max, IntKind.signed, IntKind.bits] using h
theorem wf_u16 {n : Int} (h : (Lit.int .u16 n).wf = true) : 0 ≤ n ∧ n ≤ 65535 := by
  simpa [Lit.wf, IntKind.min, IntKind.max, IntKind.signed, IntKind.bits] using h
theorem wf_u8 {n : Int} (h : (Lit.int .u8 n).wf = true) : 0 ≤ n ∧ n ≤ 255 := by
  simpa [Lit.wf, IntKind.min, IntKind.max, IntKind.signed, IntKind.bits] using h
theorem wf_i32 {n : Int} (h : (Lit.int .i32 n).wf = true) : -2147483648 ≤ n ∧ n ≤ 2147483647 := by
  simpa [Lit.wf, IntKind.min, IntKind.max, IntKind.signed, IntKind.bits] using h
theorem wrap_i32 {n : Int} (h : (Lit.int .i32 n).wf = true) : wrap64 n = n := by
  have := wf_i32 h
  unfold wrap64
  omega
theorem diffM_same {m : Int} {a b c d : Int} (h : (a - b) % m = (c - d) % m) : diffM m a b = diffM m c d := by
  unfold diffM
  rw [h]
end Go.Proofs.Ytocgpldiihhhiaa.NumPlain
