/- The contracts of package num (numbers that go round): what each of its functions answers, at every argument. -/
import Derived.Test.YtbaebohhbnomoaaProg
import Derived.WalkKit
import Derived.Lib.Hide
import Derived.LoopN
import Derived.Test.YtbaebohhbnomoaaNumPlain
namespace Go.Proofs.Ytbaebohhbnomoaa.Hand
open Go.RowKit
set_option linter.unusedVariables false
set_option linter.unusedSimpArgs false


/-! ### 12 bits -/
set_option maxHeartbeats 400000 in
theorem mask12 (w : World) : Calls Try.prog 34 #[.int .i64 12] w fun e w' => e = .returned (.int .i64 4095) ∧ w = w' := by
  go_enter Try.func34, Try.ntmps34
  go_wp2
  go_ret
  exact ⟨rfl, rfl⟩

theorem sum12 (a n : Int) (h0 : 0 ≤ a) (h1 : a < 4096) : bits BinOp.and IntKind.i64 (wrap64 (a + bits BinOp.and IntKind.i64 n 4095)) 4095 = (a + n) % 4096 := by
  rw [NumPlain.and12, NumPlain.and12]
  unfold wrap64
  omega

theorem ret_int {k : IntKind} {a b : Int} (h : a = b) : Ending.returned (.int k a) = .returned (.int k b) := by rw [h]

set_option maxHeartbeats 400000 in
theorem add12 (a n : Int) (w : World) (h0 : 0 ≤ a) (h1 : a < 4096) : Calls Try.prog 32 #[.int .i64 12, .int .i64 a, .int .i64 n] w fun e w' => e = .returned (.int .i64 ((a + n) % 4096)) ∧ w = w' := by
  have hs := sum12 a n h0 h1
  have HS := Lib.hid hs
  clear hs
  go_enter Try.func32, Try.ntmps32
  go_wp2_with (go_at_call 34; refine (mask12 _).mono ?_; rintro e w' ⟨rfl, rfl⟩)
  go_ret
  exact ⟨ret_int HS.out, rfl⟩

set_option maxHeartbeats 400000 in
theorem fits12_neg (a : Int) (w : World) (h0 : a < 0) : Calls Try.prog 28 #[.int .i64 12, .int .i64 a] w fun e w' => e = .returned (.bool false) ∧ w = w' := by
  go_enter Try.func28, Try.ntmps28
  go_wp2
  go_ret
  exact ⟨rfl, rfl⟩

set_option maxHeartbeats 400000 in
theorem fits12_in (a : Int) (w : World) (h0 : 0 ≤ a) (h1 : a < 4096) : Calls Try.prog 28 #[.int .i64 12, .int .i64 a] w fun e w' => e = .returned (.bool true) ∧ w = w' := by
  have h : a / 4096 = 0 := by omega
  have HH := Lib.hid h
  clear h
  go_enter Try.func28, Try.ntmps28
  go_wp2
  go_ret
  exact ⟨by have := HH.out; simp [this], rfl⟩

set_option maxHeartbeats 400000 in
theorem fits12_out (a : Int) (w : World) (h0 : 0 ≤ a) (h1 : 4096 ≤ a) : Calls Try.prog 28 #[.int .i64 12, .int .i64 a] w fun e w' => e = .returned (.bool false) ∧ w = w' := by
  have h : ¬ a / 4096 = 0 := by omega
  have HH := Lib.hid h
  clear h
  go_enter Try.func28, Try.ntmps28
  go_wp2
  go_ret
  exact ⟨by have := HH.out; simp [this], rfl⟩


/-! ### 24 bits -/
set_option maxHeartbeats 400000 in
theorem mask24 (w : World) : Calls Try.prog 34 #[.int .i64 24] w fun e w' => e = .returned (.int .i64 16777215) ∧ w = w' := by
  go_enter Try.func34, Try.ntmps34
  go_wp2
  go_ret
  exact ⟨rfl, rfl⟩

theorem sum24 (a n : Int) (h0 : 0 ≤ a) (h1 : a < 16777216) : bits BinOp.and IntKind.i64 (wrap64 (a + bits BinOp.and IntKind.i64 n 16777215)) 16777215 = (a + n) % 16777216 := by
  rw [NumPlain.and24, NumPlain.and24]
  unfold wrap64
  omega

theorem ret_int24 {k : IntKind} {a b : Int} (h : a = b) : Ending.returned (.int k a) = .returned (.int k b) := by rw [h]

set_option maxHeartbeats 400000 in
theorem add24 (a n : Int) (w : World) (h0 : 0 ≤ a) (h1 : a < 16777216) : Calls Try.prog 32 #[.int .i64 24, .int .i64 a, .int .i64 n] w fun e w' => e = .returned (.int .i64 ((a + n) % 16777216)) ∧ w = w' := by
  have hs := sum24 a n h0 h1
  have HS := Lib.hid hs
  clear hs
  go_enter Try.func32, Try.ntmps32
  go_wp2_with (go_at_call 34; refine (mask24 _).mono ?_; rintro e w' ⟨rfl, rfl⟩)
  go_ret
  exact ⟨ret_int HS.out, rfl⟩

set_option maxHeartbeats 400000 in
theorem fits24_neg (a : Int) (w : World) (h0 : a < 0) : Calls Try.prog 28 #[.int .i64 24, .int .i64 a] w fun e w' => e = .returned (.bool false) ∧ w = w' := by
  go_enter Try.func28, Try.ntmps28
  go_wp2
  go_ret
  exact ⟨rfl, rfl⟩

set_option maxHeartbeats 400000 in
theorem fits24_in (a : Int) (w : World) (h0 : 0 ≤ a) (h1 : a < 16777216) : Calls Try.prog 28 #[.int .i64 24, .int .i64 a] w fun e w' => e = .returned (.bool true) ∧ w = w' := by
  have h : a / 16777216 = 0 := by omega
  have HH := Lib.hid h
  clear h
  go_enter Try.func28, Try.ntmps28
  go_wp2
  go_ret
  exact ⟨by have := HH.out; simp [this], rfl⟩

set_option maxHeartbeats 400000 in
theorem fits24_out (a : Int) (w : World) (h0 : 0 ≤ a) (h1 : 16777216 ≤ a) : Calls Try.prog 28 #[.int .i64 24, .int .i64 a] w fun e w' => e = .returned (.bool false) ∧ w = w' := by
  have h : ¬ a / 16777216 = 0 := by omega
  have HH := Lib.hid h
  clear h
  go_enter Try.func28, Try.ntmps28
  go_wp2
  go_ret
  exact ⟨by have := HH.out; simp [this], rfl⟩


set_option maxHeartbeats 400000 in
theorem fits_none (s a : Int) (w : World) (h0 : s ≠ 12) (h1 : s ≠ 24) : Calls Try.prog 28 #[.int .i64 s, .int .i64 a] w fun e w' => e = .returned (.bool false) ∧ w = w' := by
  go_enter Try.func28, Try.ntmps28
  go_wp2
  go_ret
  exact ⟨rfl, rfl⟩

/-- Whether a number is one of so many bits. -/
theorem fits_any (s a : Int) (w : World) : Calls Try.prog 28 #[.int .i64 s, .int .i64 a] w fun e w' => e = .returned (.bool (NumPlain.right s a)) ∧ w = w' := by
  unfold NumPlain.right
  by_cases h12 : s = 12
  · subst h12
    by_cases h0 : a < 0
    · rw [show (decide (0 ≤ a) && decide (a < NumPlain.all 12)) = false from by simp; omega]; exact fits12_neg a w h0
    · by_cases h1 : a < 4096
      · rw [show (decide (0 ≤ a) && decide (a < NumPlain.all 12)) = true from by simp [NumPlain.all]; omega]; exact fits12_in a w (by omega) h1
      · rw [show (decide (0 ≤ a) && decide (a < NumPlain.all 12)) = false from by simp [NumPlain.all]; omega]; exact fits12_out a w (by omega) (by omega)
  · by_cases h24 : s = 24
    · subst h24
      by_cases h0 : a < 0
      · rw [show (decide (0 ≤ a) && decide (a < NumPlain.all 24)) = false from by simp; omega]; exact fits24_neg a w h0
      · by_cases h1 : a < 16777216
        · rw [show (decide (0 ≤ a) && decide (a < NumPlain.all 24)) = true from by simp [NumPlain.all]; omega]; exact fits24_in a w (by omega) h1
        · rw [show (decide (0 ≤ a) && decide (a < NumPlain.all 24)) = false from by simp [NumPlain.all]; omega]; exact fits24_out a w (by omega) (by omega)
    · rw [show (decide (0 ≤ a) && decide (a < NumPlain.all s)) = false from by simp [NumPlain.all, h12, h24]]; exact fits_none s a w h12 h24

set_option maxHeartbeats 400000 in
theorem right_any (s a : Int) (w : World) : Calls Try.prog 20 #[.int .i64 s, .int .i64 a] w fun e w' => e = .returned (.bool (NumPlain.right s a)) ∧ w = w' := by
  go_enter Try.func20, Try.ntmps20
  go_wp2_with (go_at_call 28; refine (fits_any s a _).mono ?_; rintro e w' ⟨rfl, rfl⟩)
  go_ret
  exact ⟨rfl, rfl⟩
theorem in_range {s a : Int} (h : NumPlain.right s a = true) : 0 ≤ a ∧ a < NumPlain.all s := by unfold NumPlain.right at h; simpa using h

set_option maxHeartbeats 400000 in
theorem with_add (s a n : Int) (B : Nat) (w : World) (hc : w.cell? ⟨B, 0, none⟩ = some (.int .i64 a)) :
    Calls Try.prog 31 #[.func (Fn.func 32) #[] #[], .int .i64 s, .int .i64 a, .int .i64 n, .slice (some ⟨B, 0, none⟩) 1 1] w fun e w' => e = .returned (.int .i64 (NumPlain.add s a n)) ∧ w = w' := by
  by_cases hr : NumPlain.right s a = true
  · have hf : NumPlain.add s a n = (a + n) % NumPlain.all s := by unfold NumPlain.add; rw [if_pos hr]
    have HF := Lib.hid hf
    obtain ⟨hr0, hr1⟩ := in_range hr
    have HR := Lib.hid hr
    rcases NumPlain.all_pos s a hr with rfl | rfl
    · clear hf hr
      rw [NumPlain.all_12] at hr1
      go_enter Try.func31, Try.ntmps31
      go_wp2_with fail
      refine wp_loop_rounds 2 ?_
      rw [rounds_succ]
      go_wp2_with (go_at_call 28; refine (fits_any 12 a _).mono ?_; rintro e w' ⟨rfl, rfl⟩; rw [HR.out])
      rw [rounds_succ]
      go_wp2_with (go_at_call 32; refine (add12 a n _ hr0 hr1).mono ?_; rintro e w' ⟨rfl, rfl⟩)
      go_ret
      exact ⟨ret_int HF.out.symm, rfl⟩
    · clear hf hr
      rw [NumPlain.all_24] at hr1
      go_enter Try.func31, Try.ntmps31
      go_wp2_with fail
      refine wp_loop_rounds 2 ?_
      rw [rounds_succ]
      go_wp2_with (go_at_call 28; refine (fits_any 24 a _).mono ?_; rintro e w' ⟨rfl, rfl⟩; rw [HR.out])
      rw [rounds_succ]
      go_wp2_with (go_at_call 32; refine (add24 a n _ hr0 hr1).mono ?_; rintro e w' ⟨rfl, rfl⟩)
      go_ret
      exact ⟨ret_int HF.out.symm, rfl⟩
  · have hf : NumPlain.add s a n = 0 := by unfold NumPlain.add; rw [if_neg hr]
    have HF := Lib.hid hf
    have hr' : NumPlain.right s a = false := by simpa using hr
    have HR := Lib.hid hr'
    clear hf hr hr'
    go_enter Try.func31, Try.ntmps31
    go_wp2_with fail
    refine wp_loop_rounds 1 ?_
    rw [rounds_succ]
    go_wp2_with (go_at_call 28; refine (fits_any s a _).mono ?_; rintro e w' ⟨rfl, rfl⟩; rw [HR.out])
    go_ret
    exact ⟨ret_int HF.out.symm, rfl⟩

set_option maxHeartbeats 400000 in
theorem add_any (s a n : Int) (w : World) : Calls Try.prog 24 #[.int .i64 s, .int .i64 a, .int .i64 n] w fun e w' => e = .returned (.int .i64 (NumPlain.add s a n)) ∧ Below w.heap.size w w' := by
  go_enter Try.func24, Try.ntmps24
  go_wp2_with (go_at_call 31; refine (with_add s a n w.heap.size _ (by go_simp)).mono ?_; rintro e w' ⟨rfl, rfl⟩)
  go_ret
  exact ⟨rfl, (Below.refl _ _).alloc (Nat.le_refl _) _⟩

end Go.Proofs.Ytbaebohhbnomoaa.Hand

