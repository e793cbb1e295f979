/- The contracts of the document's own numbers (Right, Add, Diff, Less): what each answers at right numbers. -/
import Derived.Test.YtbaebohhbnomoaaNum
namespace Go.Proofs.Ytbaebohhbnomoaa.Hand
open Go.RowKit
set_option linter.unusedVariables false
set_option linter.unusedSimpArgs false

theorem ref_all12 (w : World) : Calls Try.prog 27 #[.int .i64 12] w fun e w' => e = .returned (.int .i64 4096) ∧ w = w' := by
  go_enter Try.func27, Try.ntmps27
  go_wp2
  go_ret
  exact ⟨rfl, rfl⟩
theorem ref_all24 (w : World) : Calls Try.prog 27 #[.int .i64 24] w fun e w' => e = .returned (.int .i64 16777216) ∧ w = w' := by
  go_enter Try.func27, Try.ntmps27
  go_wp2
  go_ret
  exact ⟨rfl, rfl⟩
theorem ref_right12 (a : Int) (w : World) (h0 : 0 ≤ a) (h1 : a < 4096) : Calls Try.prog 26 #[.int .i64 12, .int .i64 a] w fun e w' => e = .returned (.bool true) ∧ w = w' := by
  go_enter Try.func26, Try.ntmps26
  go_wp2_with (go_at_call 27; refine (ref_all12 _).mono ?_; rintro e w' ⟨rfl, rfl⟩)
  go_ret
  exact ⟨by simp [h1], rfl⟩
theorem ref_right24 (a : Int) (w : World) (h0 : 0 ≤ a) (h1 : a < 16777216) : Calls Try.prog 26 #[.int .i64 24, .int .i64 a] w fun e w' => e = .returned (.bool true) ∧ w = w' := by
  go_enter Try.func26, Try.ntmps26
  go_wp2_with (go_at_call 27; refine (ref_all24 _).mono ?_; rintro e w' ⟨rfl, rfl⟩)
  go_ret
  exact ⟨by simp [h1], rfl⟩
theorem ref_add12 (a : Int) (w : World) (h0 : 0 ≤ a) (h1 : a < 4096) : Calls Try.prog 19 #[.int .i64 12, .int .i64 a, .int .i64 1] w fun e w' => e = .returned (.int .i64 ((a + 1) % 4096)) ∧ w = w' := by
  go_enter Try.func19, Try.ntmps19
  go_wp2_with (first
    | (go_at_call 26; refine (ref_right12 _ _ h0 h1).mono ?_; rintro e w' ⟨rfl, rfl⟩)
    | (go_at_call 27; refine (ref_all12 _).mono ?_; rintro e w' ⟨rfl, rfl⟩))
  go_ret
  exact ⟨Hand.ret_int (by simp), rfl⟩
theorem ref_add24 (a : Int) (w : World) (h0 : 0 ≤ a) (h1 : a < 16777216) : Calls Try.prog 19 #[.int .i64 24, .int .i64 a, .int .i64 1] w fun e w' => e = .returned (.int .i64 ((a + 1) % 16777216)) ∧ w = w' := by
  go_enter Try.func19, Try.ntmps19
  go_wp2_with (first
    | (go_at_call 26; refine (ref_right24 _ _ h0 h1).mono ?_; rintro e w' ⟨rfl, rfl⟩)
    | (go_at_call 27; refine (ref_all24 _).mono ?_; rintro e w' ⟨rfl, rfl⟩))
  go_ret
  exact ⟨Hand.ret_int (by simp), rfl⟩
theorem ref_diff12 (a b : Int) (w : World) (h0 : 0 ≤ a) (h1 : a < 4096) (h2 : 0 ≤ b) (h3 : b < 4096) : Calls Try.prog 25 #[.int .i64 12, .int .i64 a, .int .i64 b] w fun e w' => e = .returned (.int .i64 (NumPlain.diffM 4096 a b)) ∧ w = w' := by
  unfold NumPlain.diffM
  by_cases hd : 2048 < (a - b + 4096) % 4096
  all_goals
    go_enter Try.func25, Try.ntmps25
    go_wp2_with (first
      | (go_at_call 26; refine (ref_right12 _ _ (by assumption) (by assumption)).mono ?_; rintro e w' ⟨rfl, rfl⟩)
      | (go_at_call 27; refine (ref_all12 _).mono ?_; rintro e w' ⟨rfl, rfl⟩))
    all_goals
      go_ret
      exact ⟨Hand.ret_int (by first | rfl | omega | (rw [if_pos (by omega)]; omega) | (rw [if_neg (by omega)]; omega)), rfl⟩
theorem ref_diff24 (a b : Int) (w : World) (h0 : 0 ≤ a) (h1 : a < 16777216) (h2 : 0 ≤ b) (h3 : b < 16777216) : Calls Try.prog 25 #[.int .i64 24, .int .i64 a, .int .i64 b] w fun e w' => e = .returned (.int .i64 (NumPlain.diffM 16777216 a b)) ∧ w = w' := by
  unfold NumPlain.diffM
  by_cases hd : 8388608 < (a - b + 16777216) % 16777216
  all_goals
    go_enter Try.func25, Try.ntmps25
    go_wp2_with (first
      | (go_at_call 26; refine (ref_right24 _ _ (by assumption) (by assumption)).mono ?_; rintro e w' ⟨rfl, rfl⟩)
      | (go_at_call 27; refine (ref_all24 _).mono ?_; rintro e w' ⟨rfl, rfl⟩))
    all_goals
      go_ret
      exact ⟨Hand.ret_int (by first | rfl | omega | (rw [if_pos (by omega)]; omega) | (rw [if_neg (by omega)]; omega)), rfl⟩
/-- Is a right number ahead of another one? -/
theorem ref_less (s a b : Int) (w : World) (hs : s = 12 ∨ s = 24) (h0 : 0 ≤ a) (h1 : a < NumPlain.all s) (h2 : 0 ≤ b) (h3 : b < NumPlain.all s) :
    Calls Try.prog 18 #[.int .i64 s, .int .i64 a, .int .i64 b] w fun e w' => e = .returned (.bool (decide (NumPlain.diffM (NumPlain.all s) a b < 0))) ∧ w = w' := by
  rcases hs with rfl | rfl
  · rw [NumPlain.all_12] at h1 h3 ⊢
    go_enter Try.func18, Try.ntmps18
    go_wp2_with (go_at_call 25; refine (ref_diff12 _ _ _ h0 h1 h2 h3).mono ?_; rintro e w' ⟨rfl, rfl⟩)
    go_ret
    exact ⟨rfl, rfl⟩
  · rw [NumPlain.all_24] at h1 h3 ⊢
    go_enter Try.func18, Try.ntmps18
    go_wp2_with (go_at_call 25; refine (ref_diff24 _ _ _ h0 h1 h2 h3).mono ?_; rintro e w' ⟨rfl, rfl⟩)
    go_ret
    exact ⟨rfl, rfl⟩
theorem ref_add (s a : Int) (w : World) (hs : s = 12 ∨ s = 24) (h0 : 0 ≤ a) (h1 : a < NumPlain.all s) :
    Calls Try.prog 19 #[.int .i64 s, .int .i64 a, .int .i64 1] w fun e w' => e = .returned (.int .i64 ((a + 1) % NumPlain.all s)) ∧ w = w' := by
  rcases hs with rfl | rfl
  · exact ref_add12 a w h0 h1
  · exact ref_add24 a w h0 h1
end Go.Proofs.Ytbaebohhbnomoaa.Hand
