/- The contracts of package num (numbers that go round): what each of its functions answers, at every argument. -/
import Derived.Test.YtocgpldiihhhiaaProg
import Derived.WalkKit
import Derived.Lib.Hide
import Derived.Test.YtocgpldiihhhiaaWWords
import Derived.Test.YtocgpldiihhhiaaWLast
import Derived.Test.YtocgpldiihhhiaaWMore
import Derived.Test.YtocgpldiihhhiaaNumPlain
namespace Go.Proofs.Ytocgpldiihhhiaa.Hand
open Go.RowKit Go.Proofs.YtocgpldiihhhiaaW.PrintWords Go.Proofs.YtocgpldiihhhiaaW.PrintLast Go.Proofs.YtocgpldiihhhiaaW.PrintMore
set_option linter.unusedVariables false
set_option linter.unusedSimpArgs false


/-! ### 12 bits -/
set_option maxHeartbeats 400000 in
theorem mask12 (w : World) : Calls Try.prog 24 #[.int .i64 12] w fun e w' => e = .returned (.int .i64 4095) ∧ w = w' := by
  go_enter Try.func24, Try.ntmps24
  go_wp2
  go_ret
  exact ⟨rfl, rfl⟩

theorem sum12 (a n : Int) (h0 : 0 ≤ a) (h1 : a < 4096) : bits BinOp.and IntKind.i64 (wrap64 (a + bits BinOp.and IntKind.i64 n 4095)) 4095 = (a + n) % 4096 := by
  rw [NumPlain.and12, NumPlain.and12]
  unfold wrap64
  omega

theorem ret_int {k : IntKind} {a b : Int} (h : a = b) : Ending.returned (.int k a) = .returned (.int k b) := by rw [h]

set_option maxHeartbeats 400000 in
theorem add12 (a n : Int) (w : World) (h0 : 0 ≤ a) (h1 : a < 4096) : Calls Try.prog 22 #[.int .i64 12, .int .i64 a, .int .i64 n] w fun e w' => e = .returned (.int .i64 ((a + n) % 4096)) ∧ w = w' := by
  have hs := sum12 a n h0 h1
  have HS := Lib.hid hs
  clear hs
  go_enter Try.func22, Try.ntmps22
  go_wp2_with (go_at_call 24; refine (mask12 _).mono ?_; rintro e w' ⟨rfl, rfl⟩)
  go_ret
  exact ⟨ret_int HS.out, rfl⟩

theorem wdiff12 (d : Int) (h0 : 0 ≤ d) (h1 : d < 4096) : wrap64 (d - 4096) = d - 4096 := by
  unfold wrap64
  omega

set_option maxHeartbeats 400000 in
theorem diff12 (a b : Int) (w : World) (h0 : 0 ≤ a) (h1 : a < 4096) (h2 : 0 ≤ b) (h3 : b < 4096) : Calls Try.prog 23 #[.int .i64 12, .int .i64 a, .int .i64 b] w fun e w' => e = .returned (.int .i64 (NumPlain.diffM 4096 a b)) ∧ w = w' := by
  have hd0 : 0 ≤ (a + -b) % 4096 := by omega
  have hd1 : (a + -b) % 4096 < 4096 := by omega
  have hs : (a - b) % 4096 = (a + -b) % 4096 := by congr 1
  by_cases hlt : 2048 < (a + -b) % 4096
  · have hf : NumPlain.diffM 4096 a b = (a + -b) % 4096 - 4096 := by unfold NumPlain.diffM; rw [hs, if_pos (by omega)]
    have HF := Lib.hid hf
    clear hf hs
    go_enter Try.func23, Try.ntmps23
    go_wp2_with (go_at_call 22; refine (add12 a (-b) _ h0 h1).mono ?_; rintro e w' ⟨rfl, rfl⟩; generalize (a + -b) % 4096 = d at *)
    go_ret
    exact ⟨ret_int HF.out.symm, rfl⟩
  · have hf : NumPlain.diffM 4096 a b = (a + -b) % 4096 := by unfold NumPlain.diffM; rw [hs, if_neg (by omega)]
    have HF := Lib.hid hf
    clear hf hs
    go_enter Try.func23, Try.ntmps23
    go_wp2_with (go_at_call 22; refine (add12 a (-b) _ h0 h1).mono ?_; rintro e w' ⟨rfl, rfl⟩; generalize (a + -b) % 4096 = d at *)
    go_ret
    exact ⟨ret_int HF.out.symm, rfl⟩

set_option maxHeartbeats 400000 in
theorem fits12_neg (a : Int) (w : World) (h0 : a < 0) : Calls Try.prog 19 #[.int .i64 12, .int .i64 a] w fun e w' => e = .returned (.bool false) ∧ w = w' := by
  go_enter Try.func19, Try.ntmps19
  go_wp2
  go_ret
  exact ⟨rfl, rfl⟩

set_option maxHeartbeats 400000 in
theorem fits12_in (a : Int) (w : World) (h0 : 0 ≤ a) (h1 : a < 4096) : Calls Try.prog 19 #[.int .i64 12, .int .i64 a] w fun e w' => e = .returned (.bool true) ∧ w = w' := by
  have h : a / 4096 = 0 := by omega
  have HH := Lib.hid h
  clear h
  go_enter Try.func19, Try.ntmps19
  go_wp2
  go_ret
  exact ⟨by have := HH.out; simp [this], rfl⟩

set_option maxHeartbeats 400000 in
theorem fits12_out (a : Int) (w : World) (h0 : 0 ≤ a) (h1 : 4096 ≤ a) : Calls Try.prog 19 #[.int .i64 12, .int .i64 a] w fun e w' => e = .returned (.bool false) ∧ w = w' := by
  have h : ¬ a / 4096 = 0 := by omega
  have HH := Lib.hid h
  clear h
  go_enter Try.func19, Try.ntmps19
  go_wp2
  go_ret
  exact ⟨by have := HH.out; simp [this], rfl⟩


/-! ### 24 bits -/
set_option maxHeartbeats 400000 in
theorem mask24 (w : World) : Calls Try.prog 24 #[.int .i64 24] w fun e w' => e = .returned (.int .i64 16777215) ∧ w = w' := by
  go_enter Try.func24, Try.ntmps24
  go_wp2
  go_ret
  exact ⟨rfl, rfl⟩

theorem sum24 (a n : Int) (h0 : 0 ≤ a) (h1 : a < 16777216) : bits BinOp.and IntKind.i64 (wrap64 (a + bits BinOp.and IntKind.i64 n 16777215)) 16777215 = (a + n) % 16777216 := by
  rw [NumPlain.and24, NumPlain.and24]
  unfold wrap64
  omega

theorem ret_int24 {k : IntKind} {a b : Int} (h : a = b) : Ending.returned (.int k a) = .returned (.int k b) := by rw [h]

set_option maxHeartbeats 400000 in
theorem add24 (a n : Int) (w : World) (h0 : 0 ≤ a) (h1 : a < 16777216) : Calls Try.prog 22 #[.int .i64 24, .int .i64 a, .int .i64 n] w fun e w' => e = .returned (.int .i64 ((a + n) % 16777216)) ∧ w = w' := by
  have hs := sum24 a n h0 h1
  have HS := Lib.hid hs
  clear hs
  go_enter Try.func22, Try.ntmps22
  go_wp2_with (go_at_call 24; refine (mask24 _).mono ?_; rintro e w' ⟨rfl, rfl⟩)
  go_ret
  exact ⟨ret_int HS.out, rfl⟩

theorem wdiff24 (d : Int) (h0 : 0 ≤ d) (h1 : d < 16777216) : wrap64 (d - 16777216) = d - 16777216 := by
  unfold wrap64
  omega

set_option maxHeartbeats 400000 in
theorem diff24 (a b : Int) (w : World) (h0 : 0 ≤ a) (h1 : a < 16777216) (h2 : 0 ≤ b) (h3 : b < 16777216) : Calls Try.prog 23 #[.int .i64 24, .int .i64 a, .int .i64 b] w fun e w' => e = .returned (.int .i64 (NumPlain.diffM 16777216 a b)) ∧ w = w' := by
  have hd0 : 0 ≤ (a + -b) % 16777216 := by omega
  have hd1 : (a + -b) % 16777216 < 16777216 := by omega
  have hs : (a - b) % 16777216 = (a + -b) % 16777216 := by congr 1
  by_cases hlt : 8388608 < (a + -b) % 16777216
  · have hf : NumPlain.diffM 16777216 a b = (a + -b) % 16777216 - 16777216 := by unfold NumPlain.diffM; rw [hs, if_pos (by omega)]
    have HF := Lib.hid hf
    clear hf hs
    go_enter Try.func23, Try.ntmps23
    go_wp2_with (go_at_call 22; refine (add24 a (-b) _ h0 h1).mono ?_; rintro e w' ⟨rfl, rfl⟩; generalize (a + -b) % 16777216 = d at *)
    go_ret
    exact ⟨ret_int HF.out.symm, rfl⟩
  · have hf : NumPlain.diffM 16777216 a b = (a + -b) % 16777216 := by unfold NumPlain.diffM; rw [hs, if_neg (by omega)]
    have HF := Lib.hid hf
    clear hf hs
    go_enter Try.func23, Try.ntmps23
    go_wp2_with (go_at_call 22; refine (add24 a (-b) _ h0 h1).mono ?_; rintro e w' ⟨rfl, rfl⟩; generalize (a + -b) % 16777216 = d at *)
    go_ret
    exact ⟨ret_int HF.out.symm, rfl⟩

set_option maxHeartbeats 400000 in
theorem fits24_neg (a : Int) (w : World) (h0 : a < 0) : Calls Try.prog 19 #[.int .i64 24, .int .i64 a] w fun e w' => e = .returned (.bool false) ∧ w = w' := by
  go_enter Try.func19, Try.ntmps19
  go_wp2
  go_ret
  exact ⟨rfl, rfl⟩

set_option maxHeartbeats 400000 in
theorem fits24_in (a : Int) (w : World) (h0 : 0 ≤ a) (h1 : a < 16777216) : Calls Try.prog 19 #[.int .i64 24, .int .i64 a] w fun e w' => e = .returned (.bool true) ∧ w = w' := by
  have h : a / 16777216 = 0 := by omega
  have HH := Lib.hid h
  clear h
  go_enter Try.func19, Try.ntmps19
  go_wp2
  go_ret
  exact ⟨by have := HH.out; simp [this], rfl⟩

set_option maxHeartbeats 400000 in
theorem fits24_out (a : Int) (w : World) (h0 : 0 ≤ a) (h1 : 16777216 ≤ a) : Calls Try.prog 19 #[.int .i64 24, .int .i64 a] w fun e w' => e = .returned (.bool false) ∧ w = w' := by
  have h : ¬ a / 16777216 = 0 := by omega
  have HH := Lib.hid h
  clear h
  go_enter Try.func19, Try.ntmps19
  go_wp2
  go_ret
  exact ⟨by have := HH.out; simp [this], rfl⟩


set_option maxHeartbeats 400000 in
theorem fits_none (s a : Int) (w : World) (h0 : s ≠ 12) (h1 : s ≠ 24) : Calls Try.prog 19 #[.int .i64 s, .int .i64 a] w fun e w' => e = .returned (.bool false) ∧ w = w' := by
  go_enter Try.func19, Try.ntmps19
  go_wp2
  go_ret
  exact ⟨rfl, rfl⟩

/-- Whether a number is one of so many bits. -/
theorem fits_any (s a : Int) (w : World) : Calls Try.prog 19 #[.int .i64 s, .int .i64 a] w fun e w' => e = .returned (.bool (NumPlain.right s a)) ∧ w = w' := by
  unfold NumPlain.right
  by_cases h12 : s = 12
  · subst h12
    by_cases h0 : a < 0
    · rw [show (decide (0 ≤ a) && decide (a < NumPlain.all 12)) = false from by simp; omega]; exact fits12_neg a w h0
    · by_cases h1 : a < 4096
      · rw [show (decide (0 ≤ a) && decide (a < NumPlain.all 12)) = true from by simp [NumPlain.all]; omega]; exact fits12_in a w (by omega) h1
      · rw [show (decide (0 ≤ a) && decide (a < NumPlain.all 12)) = false from by simp [NumPlain.all]; omega]; exact fits12_out a w (by omega) (by omega)
  · by_cases h24 : s = 24
    · subst h24
      by_cases h0 : a < 0
      · rw [show (decide (0 ≤ a) && decide (a < NumPlain.all 24)) = false from by simp; omega]; exact fits24_neg a w h0
      · by_cases h1 : a < 16777216
        · rw [show (decide (0 ≤ a) && decide (a < NumPlain.all 24)) = true from by simp [NumPlain.all]; omega]; exact fits24_in a w (by omega) h1
        · rw [show (decide (0 ≤ a) && decide (a < NumPlain.all 24)) = false from by simp [NumPlain.all]; omega]; exact fits24_out a w (by omega) (by omega)
    · rw [show (decide (0 ≤ a) && decide (a < NumPlain.all s)) = false from by simp [NumPlain.all, h12, h24]]; exact fits_none s a w h12 h24

set_option maxHeartbeats 400000 in
theorem right_any (s a : Int) (w : World) : Calls Try.prog 10 #[.int .i64 s, .int .i64 a] w fun e w' => e = .returned (.bool (NumPlain.right s a)) ∧ w = w' := by
  go_enter Try.func10, Try.ntmps10
  go_wp2_with (go_at_call 19; refine (fits_any s a _).mono ?_; rintro e w' ⟨rfl, rfl⟩)
  go_ret
  exact ⟨rfl, rfl⟩
end Go.Proofs.Ytocgpldiihhhiaa.Hand

