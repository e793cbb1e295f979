-- laid by stubprint.py, a program of this claim's session, over the kit's print: the functions that the print does not take are proved by hand
import Derived.Test.YtelpnlpbjenmkaaPMarkerTellsx0
import Derived.Test.YtelpnlpbjenmkaaPMarkerTellsx1
namespace Go.Proofs.Ytelpnlpbjenmkaa.PMarkerTells
open Go.RowKit Go.Proofs.YtelpnlpbjenmkaaW.PrintWords Go.Proofs.YtelpnlpbjenmkaaW.PrintLast Go.Proofs.YtelpnlpbjenmkaaW.PrintMore
attribute [local go_sem] max2_int min2_int max_two min_two max_three min_three max_four min_four   -- for this text's walks alone
set_option linter.unusedVariables false
set_option linter.unusedSimpArgs false

/-! ### marker_Get: function 9 (by hand) -/
def marker_Get.f (k : Nat) (l0 : List Int) : Option (Int × Int × Int × Int × List Int × Bool) := if Hand.bytesB l0 = true then some (Hand.get l0) else none
theorem marker_Get.mono : ∀ a0 k, LeO (marker_Get.f k a0) (marker_Get.f (k + 1) a0) := by
  intros
  exact fun r h => h
theorem marker_Get.calls (k : Nat) (A0 : Option Addr) (c0 : Nat) (l0 : List Int) (r1 : Int) (r2 : Int) (r3 : Int) (r4 : Int) (r5 : List Int) (r6 : Bool) (w : World) (hr0 : Kd.C (Kd.int .u8) w A0 l0.length l0) (hc0 : l0.length ≤ c0) (h : marker_Get.f k l0 = some (r1, r2, r3, r4, r5, r6)) :
    Calls Try.prog 9 #[.slice A0 l0.length c0] w fun e w' => ∃ v4_ : Value, e = .returned (.tuple #[.agg #[.int .i64 r1, .int .i64 r2, .int .i64 r3, .int .i64 r4, v4_], .bool r6]) ∧ Kd.R (Kd.int .i64) 2 w' w.heap.size (fun _ => True) v4_ r5 ∧ Below w.heap.size w w' := by
  unfold marker_Get.f at h
  by_cases hb : Hand.bytesB l0 = true
  · rw [if_pos hb] at h
    have hg := Hand.get_any l0 A0 c0 w hr0 hc0 hb
    rw [Option.some.inj h] at hg
    exact hg
  · rw [if_neg hb] at h
    cases h

end Go.Proofs.Ytelpnlpbjenmkaa.PMarkerTells
