import Derived.Test.YtocgpldiihhhiaaHand
import Derived.LoopN
namespace Go.Proofs.Ytocgpldiihhhiaa.Hand
open Go.RowKit Go.Proofs.YtocgpldiihhhiaaW.PrintWords Go.Proofs.YtocgpldiihhhiaaW.PrintLast Go.Proofs.YtocgpldiihhhiaaW.PrintMore
set_option linter.unusedVariables false
set_option linter.unusedSimpArgs false

theorem in_range {s a : Int} (h : NumPlain.right s a = true) : 0 ≤ a ∧ a < NumPlain.all s := by unfold NumPlain.right at h; simpa using h

set_option maxHeartbeats 400000 in
theorem with_add (s a n : Int) (B : Nat) (w : World) (hc : w.cell? ⟨B, 0, none⟩ = some (.int .i64 a)) :
    Calls Try.prog 21 #[.func (Fn.func 22) #[] #[], .int .i64 s, .int .i64 a, .int .i64 n, .slice (some ⟨B, 0, none⟩) 1 1] w fun e w' => e = .returned (.int .i64 (NumPlain.add s a n)) ∧ w = w' := by
  by_cases hr : NumPlain.right s a = true
  · have hf : NumPlain.add s a n = (a + n) % NumPlain.all s := by unfold NumPlain.add; rw [if_pos hr]
    have HF := Lib.hid hf
    obtain ⟨hr0, hr1⟩ := in_range hr
    have HR := Lib.hid hr
    rcases NumPlain.all_pos s a hr with rfl | rfl
    · clear hf hr
      rw [NumPlain.all_12] at hr1
      go_enter Try.func21, Try.ntmps21
      go_wp2_with fail
      refine wp_loop_rounds 2 ?_
      rw [rounds_succ]
      go_wp2_with (go_at_call 19; refine (fits_any 12 a _).mono ?_; rintro e w' ⟨rfl, rfl⟩; rw [HR.out])
      rw [rounds_succ]
      go_wp2_with (go_at_call 22; refine (add12 a n _ hr0 hr1).mono ?_; rintro e w' ⟨rfl, rfl⟩)
      go_ret
      exact ⟨ret_int HF.out.symm, rfl⟩
    · clear hf hr
      rw [NumPlain.all_24] at hr1
      go_enter Try.func21, Try.ntmps21
      go_wp2_with fail
      refine wp_loop_rounds 2 ?_
      rw [rounds_succ]
      go_wp2_with (go_at_call 19; refine (fits_any 24 a _).mono ?_; rintro e w' ⟨rfl, rfl⟩; rw [HR.out])
      rw [rounds_succ]
      go_wp2_with (go_at_call 22; refine (add24 a n _ hr0 hr1).mono ?_; rintro e w' ⟨rfl, rfl⟩)
      go_ret
      exact ⟨ret_int HF.out.symm, rfl⟩
  · have hf : NumPlain.add s a n = 0 := by unfold NumPlain.add; rw [if_neg hr]
    have HF := Lib.hid hf
    have hr' : NumPlain.right s a = false := by simpa using hr
    have HR := Lib.hid hr'
    clear hf hr hr'
    go_enter Try.func21, Try.ntmps21
    go_wp2_with fail
    refine wp_loop_rounds 1 ?_
    rw [rounds_succ]
    go_wp2_with (go_at_call 19; refine (fits_any s a _).mono ?_; rintro e w' ⟨rfl, rfl⟩; rw [HR.out])
    go_ret
    exact ⟨ret_int HF.out.symm, rfl⟩

set_option maxHeartbeats 400000 in
theorem add_any (s a n : Int) (w : World) : Calls Try.prog 12 #[.int .i64 s, .int .i64 a, .int .i64 n] w fun e w' => e = .returned (.int .i64 (NumPlain.add s a n)) ∧ Below w.heap.size w w' := by
  go_enter Try.func12, Try.ntmps12
  go_wp2_with (go_at_call 21; refine (with_add s a n w.heap.size _ (by go_simp)).mono ?_; rintro e w' ⟨rfl, rfl⟩)
  go_ret
  exact ⟨rfl, (Below.refl _ _).alloc (Nat.le_refl _) _⟩

theorem diff_right {s a b : Int} (ha : NumPlain.right s a = true) (hb : NumPlain.right s b = true) : NumPlain.diff s a b = NumPlain.diffM (NumPlain.all s) a b := by unfold NumPlain.diff; rw [if_pos ⟨ha, hb⟩]
theorem diff_wrong {s a b : Int} (h : ¬ (NumPlain.right s a = true ∧ NumPlain.right s b = true)) : NumPlain.diff s a b = 0 := by unfold NumPlain.diff; rw [if_neg h]

set_option maxHeartbeats 800000 in
theorem with_diff (s a b : Int) (B : Nat) (w : World) (hc : w.cell? ⟨B, 0, none⟩ = some (.int .i64 a)) (hd : w.cell? ⟨B, 1, none⟩ = some (.int .i64 b)) :
    Calls Try.prog 21 #[.func (Fn.func 23) #[] #[], .int .i64 s, .int .i64 a, .int .i64 b, .slice (some ⟨B, 0, none⟩) 2 2] w fun e w' => e = .returned (.int .i64 (NumPlain.diff s a b)) ∧ w = w' := by
  by_cases hra : NumPlain.right s a = true
  · by_cases hrb : NumPlain.right s b = true
    · have HF := Lib.hid (diff_right hra hrb)
      obtain ⟨ha0, ha1⟩ := in_range hra
      obtain ⟨hb0, hb1⟩ := in_range hrb
      have HA := Lib.hid hra
      have HB := Lib.hid hrb
      clear hrb
      rcases NumPlain.all_pos s a hra with rfl | rfl
      · clear hra
        rw [NumPlain.all_12] at ha1 hb1
        go_enter Try.func21, Try.ntmps21
        go_wp2_with fail
        refine wp_loop_rounds 3 ?_
        rw [rounds_succ]
        go_wp2_with (go_at_call 19; refine (fits_any 12 a _).mono ?_; rintro e w' ⟨rfl, rfl⟩; rw [HA.out])
        rw [rounds_succ]
        go_wp2_with (go_at_call 19; refine (fits_any 12 b _).mono ?_; rintro e w' ⟨rfl, rfl⟩; rw [HB.out])
        rw [rounds_succ]
        go_wp2_with (go_at_call 23; refine (diff12 a b _ ha0 ha1 hb0 hb1).mono ?_; rintro e w' ⟨rfl, rfl⟩)
        go_ret
        exact ⟨ret_int HF.out.symm, rfl⟩
      · clear hra
        rw [NumPlain.all_24] at ha1 hb1
        go_enter Try.func21, Try.ntmps21
        go_wp2_with fail
        refine wp_loop_rounds 3 ?_
        rw [rounds_succ]
        go_wp2_with (go_at_call 19; refine (fits_any 24 a _).mono ?_; rintro e w' ⟨rfl, rfl⟩; rw [HA.out])
        rw [rounds_succ]
        go_wp2_with (go_at_call 19; refine (fits_any 24 b _).mono ?_; rintro e w' ⟨rfl, rfl⟩; rw [HB.out])
        rw [rounds_succ]
        go_wp2_with (go_at_call 23; refine (diff24 a b _ ha0 ha1 hb0 hb1).mono ?_; rintro e w' ⟨rfl, rfl⟩)
        go_ret
        exact ⟨ret_int HF.out.symm, rfl⟩
    · have HF := Lib.hid (diff_wrong (s := s) (a := a) (b := b) (fun h => hrb h.2))
      have hrb' : NumPlain.right s b = false := by simpa using hrb
      have HA := Lib.hid hra
      have HB := Lib.hid hrb'
      clear hra hrb hrb'
      go_enter Try.func21, Try.ntmps21
      go_wp2_with fail
      refine wp_loop_rounds 2 ?_
      rw [rounds_succ]
      go_wp2_with (go_at_call 19; refine (fits_any s a _).mono ?_; rintro e w' ⟨rfl, rfl⟩; rw [HA.out])
      rw [rounds_succ]
      go_wp2_with (go_at_call 19; refine (fits_any s b _).mono ?_; rintro e w' ⟨rfl, rfl⟩; rw [HB.out])
      go_ret
      exact ⟨ret_int HF.out.symm, rfl⟩
  · have HF := Lib.hid (diff_wrong (s := s) (a := a) (b := b) (fun h => hra h.1))
    have hra' : NumPlain.right s a = false := by simpa using hra
    have HA := Lib.hid hra'
    clear hra hra'
    go_enter Try.func21, Try.ntmps21
    go_wp2_with fail
    refine wp_loop_rounds 1 ?_
    rw [rounds_succ]
    go_wp2_with (go_at_call 19; refine (fits_any s a _).mono ?_; rintro e w' ⟨rfl, rfl⟩; rw [HA.out])
    go_ret
    exact ⟨ret_int HF.out.symm, rfl⟩

set_option maxHeartbeats 400000 in
theorem diff_any (s a b : Int) (w : World) : Calls Try.prog 14 #[.int .i64 s, .int .i64 a, .int .i64 b] w fun e w' => e = .returned (.int .i64 (NumPlain.diff s a b)) ∧ Below w.heap.size w w' := by
  go_enter Try.func14, Try.ntmps14
  go_wp2_with (go_at_call 21; refine (with_diff s a b w.heap.size _ (by go_simp) (by go_simp)).mono ?_; rintro e w' ⟨rfl, rfl⟩)
  go_ret
  exact ⟨rfl, (Below.refl _ _).alloc (Nat.le_refl _) _⟩
end Go.Proofs.Ytocgpldiihhhiaa.Hand
