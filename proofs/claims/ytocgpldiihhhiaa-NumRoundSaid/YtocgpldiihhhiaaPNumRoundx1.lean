-- laid by stubprint.py, a program of this claim's session, over the kit's print: the functions that the print does not take are proved by hand
import Derived.Test.YtocgpldiihhhiaaPNumRoundx0
namespace Go.Proofs.Ytocgpldiihhhiaa.PNumRound
open Go.RowKit Go.Proofs.YtocgpldiihhhiaaW.PrintWords Go.Proofs.YtocgpldiihhhiaaW.PrintLast Go.Proofs.YtocgpldiihhhiaaW.PrintMore
attribute [local go_sem] max2_int min2_int max_two min_two max_three min_three max_four min_four   -- for this text's walks alone
set_option linter.unusedVariables false
set_option linter.unusedSimpArgs false

/-! ### num_size_fits: function 19 (by hand) -/
def num_size_fits.f (a0 : Int) (a1 : Int) : Option (Bool) := some (NumPlain.right a0 a1)
theorem num_size_fits.calls (a0 : Int) (a1 : Int) (r : Bool) (w : World) (h : num_size_fits.f a0 a1 = some r) :
    Calls Try.prog 19 #[.int .i64 a0, .int .i64 a1] w fun e w' => e = .returned (.bool r) ∧ Drawn0 w w' := by
  obtain rfl := Option.some.inj h
  exact (Hand.fits_any a0 a1 w).mono fun e w' ⟨he, hw⟩ => ⟨he, hw ▸ Drawn0.refl _⟩

/-! ### num_Right: function 10 (by hand) -/
def num_Right.f (a0 : Int) (a1 : Int) : Option (Bool) := some (NumPlain.right a0 a1)
theorem num_Right.calls (a0 : Int) (a1 : Int) (r : Bool) (w : World) (h : num_Right.f a0 a1 = some r) :
    Calls Try.prog 10 #[.int .i64 a0, .int .i64 a1] w fun e w' => e = .returned (.bool r) ∧ Drawn0 w w' := by
  obtain rfl := Option.some.inj h
  exact (Hand.right_any a0 a1 w).mono fun e w' ⟨he, hw⟩ => ⟨he, hw ▸ Drawn0.refl _⟩

/-! ### num_Add: function 12 (by hand) -/
def num_Add.f (a0 : Int) (a1 : Int) (a2 : Int) : Option (Int) := some (NumPlain.add a0 a1 a2)
theorem num_Add.calls (a0 : Int) (a1 : Int) (a2 : Int) (r : Int) (w : World) (h : num_Add.f a0 a1 a2 = some r) :
    Calls Try.prog 12 #[.int .i64 a0, .int .i64 a1, .int .i64 a2] w fun e w' => e = .returned (.int .i64 r) ∧ Below w.heap.size w w' := by
  obtain rfl := Option.some.inj h
  exact Hand.add_any a0 a1 a2 w

/-! ### num_Diff: function 14 (by hand) -/
def num_Diff.f (a0 : Int) (a1 : Int) (a2 : Int) : Option (Int) := some (NumPlain.diff a0 a1 a2)
theorem num_Diff.calls (a0 : Int) (a1 : Int) (a2 : Int) (r : Int) (w : World) (h : num_Diff.f a0 a1 a2 = some r) :
    Calls Try.prog 14 #[.int .i64 a0, .int .i64 a1, .int .i64 a2] w fun e w' => e = .returned (.int .i64 r) ∧ Below w.heap.size w w' := by
  obtain rfl := Option.some.inj h
  exact Hand.diff_any a0 a1 a2 w

/-! ### num_Less: function 16 -/
def num_Less.f (a0 : Int) (a1 : Int) (a2 : Int) : Option (Bool) := (num_Diff.f a0 a1 a2).bind fun t108 => (some (decide (t108 < 0)))
set_option maxHeartbeats 8000000 in
set_option maxRecDepth 100000 in
theorem num_Less.calls (a0 : Int) (a1 : Int) (a2 : Int) (r : Bool) (w : World) (h : num_Less.f a0 a1 a2 = some r) :
    Calls Try.prog 16 #[.int .i64 a0, .int .i64 a1, .int .i64 a2] w fun e w' => e = .returned (.bool r) ∧ Below w.heap.size w w' := by
  have HB := Aside0.mk (Below.refl w.heap.size w)
  have H : ((num_Diff.f a0 a1 a2).bind fun t108 => (some (decide (t108 < 0)))) = some r := h
  clear h
  replace H := Option.bind_eq_some_iff.mp H
  obtain ⟨t108, A40, H⟩ := H
  replace H : (some (decide (t108 < 0))) = some r := H
  have A4 := Aside0.mk A40
  clear A40
  obtain rfl := Option.some.inj H
  go_enter Try.func16, Try.ntmps16
  go_wp2_with (first | ((with_reducible refine gate_callee (f := 14) rfl ?_); refine goesL_ (some 10) rfl rfl Try.func14 (by kernel_rfl) rfl #[.int .i64 a0, .int .i64 a1, .int .i64 a2] rfl (by (try simp only [List.map_toArray, List.map_cons, List.map_nil]); first | done | rfl | (simp only [List.length_drop, List.length_take]; rfl)) ?_; (with_reducible refine (num_Diff.calls a0 a1 a2 t108 _ A4.out).mono ?_); rintro e w5 ⟨rfl, hb⟩; refine ⟨_, rfl, ?_⟩; have n0_ := Aside0.mk (below_step (by repeat (first | (with_reducible first | exact HB.out | apply below_alloc | apply pw_below_drewN | apply below_drew1) | exact HB.out)) hb); clear HB; have HB := n0_; clear n0_; (try clear hb); (try clear hb2); (try clear hk); (try clear hi)))
  go_ret
  exact ⟨by first | rfl | (simp [errW_none, errW_some] <;> rfl) | (simp [*, errW_none, errW_some] <;> rfl), by repeat (first | (with_reducible first | exact HB.out | apply below_alloc | apply pw_below_drewN | apply below_drew1) | exact HB.out)⟩

/-! ### bowlinelaw01_head: function 9 -/
def bowlinelaw01_head.f  : Option (Bool) := (num_Add.f 12 4095 3).bind fun t109 => (if t109 = 2 then ((num_Add.f 24 0 (-1)).bind fun t110 => (if t110 = 16777215 then ((num_Diff.f 12 1 4095).bind fun t111 => (if t111 = 2 then ((num_Diff.f 12 4095 1).bind fun t112 => (if t112 = (-2) then ((num_Diff.f 12 2048 0).bind fun t113 => (if t113 = 2048 then ((num_Diff.f 12 0 2048).bind fun t114 => (if t114 = 2048 then ((num_Less.f 12 4095 1).bind fun t115 => (if t115 = true then ((num_Less.f 12 0 2048).bind fun t116 => (if t116 = true then (some false) else ((num_Right.f 12 4095).bind fun t117 => (if t117 = true then ((num_Right.f 12 4096).bind fun t118 => (if t118 = true then (some false) else ((num_Right.f 13 0).bind fun t119 => (some (!t119))))) else (some false))))) else (some false))) else (some false))) else (some false))) else (some false))) else (some false))) else (some false))) else (some false))
set_option maxHeartbeats 8000000 in
set_option maxRecDepth 100000 in
theorem bowlinelaw01_head.calls  (r : Bool) (w : World) (h : bowlinelaw01_head.f  = some r) :
    Calls Try.prog 9 #[] w fun e w' => e = .returned (.bool r) ∧ Below w.heap.size w w' := by
  have HB := Aside0.mk (Below.refl w.heap.size w)
  have H : ((num_Add.f 12 4095 3).bind fun t109 => (if t109 = 2 then ((num_Add.f 24 0 (-1)).bind fun t110 => (if t110 = 16777215 then ((num_Diff.f 12 1 4095).bind fun t111 => (if t111 = 2 then ((num_Diff.f 12 4095 1).bind fun t112 => (if t112 = (-2) then ((num_Diff.f 12 2048 0).bind fun t113 => (if t113 = 2048 then ((num_Diff.f 12 0 2048).bind fun t114 => (if t114 = 2048 then ((num_Less.f 12 4095 1).bind fun t115 => (if t115 = true then ((num_Less.f 12 0 2048).bind fun t116 => (if t116 = true then (some false) else ((num_Right.f 12 4095).bind fun t117 => (if t117 = true then ((num_Right.f 12 4096).bind fun t118 => (if t118 = true then (some false) else ((num_Right.f 13 0).bind fun t119 => (some (!t119))))) else (some false))))) else (some false))) else (some false))) else (some false))) else (some false))) else (some false))) else (some false))) else (some false))) = some r := h
  clear h
  replace H := Option.bind_eq_some_iff.mp H
  obtain ⟨t109, A10, H⟩ := H
  replace H : (if t109 = 2 then ((num_Add.f 24 0 (-1)).bind fun t110 => (if t110 = 16777215 then ((num_Diff.f 12 1 4095).bind fun t111 => (if t111 = 2 then ((num_Diff.f 12 4095 1).bind fun t112 => (if t112 = (-2) then ((num_Diff.f 12 2048 0).bind fun t113 => (if t113 = 2048 then ((num_Diff.f 12 0 2048).bind fun t114 => (if t114 = 2048 then ((num_Less.f 12 4095 1).bind fun t115 => (if t115 = true then ((num_Less.f 12 0 2048).bind fun t116 => (if t116 = true then (some false) else ((num_Right.f 12 4095).bind fun t117 => (if t117 = true then ((num_Right.f 12 4096).bind fun t118 => (if t118 = true then (some false) else ((num_Right.f 13 0).bind fun t119 => (some (!t119))))) else (some false))))) else (some false))) else (some false))) else (some false))) else (some false))) else (some false))) else (some false))) else (some false)) = some r := H
  have A1 := Aside0.mk A10
  clear A10
  by_cases c2 : t109 = 2
  · rw [if_pos c2] at H
    have c2b0 : (t109 == 2) = true := beq_iff_eq.mpr c2
    have c2b1 : (t109 != 2) = false := bne_eq_false_iff_eq.mpr c2
    clear c2
    replace H := Option.bind_eq_some_iff.mp H
    obtain ⟨t110, A30, H⟩ := H
    replace H : (if t110 = 16777215 then ((num_Diff.f 12 1 4095).bind fun t111 => (if t111 = 2 then ((num_Diff.f 12 4095 1).bind fun t112 => (if t112 = (-2) then ((num_Diff.f 12 2048 0).bind fun t113 => (if t113 = 2048 then ((num_Diff.f 12 0 2048).bind fun t114 => (if t114 = 2048 then ((num_Less.f 12 4095 1).bind fun t115 => (if t115 = true then ((num_Less.f 12 0 2048).bind fun t116 => (if t116 = true then (some false) else ((num_Right.f 12 4095).bind fun t117 => (if t117 = true then ((num_Right.f 12 4096).bind fun t118 => (if t118 = true then (some false) else ((num_Right.f 13 0).bind fun t119 => (some (!t119))))) else (some false))))) else (some false))) else (some false))) else (some false))) else (some false))) else (some false))) else (some false)) = some r := H
    have A3 := Aside0.mk A30
    clear A30
    by_cases c4 : t110 = 16777215
    · rw [if_pos c4] at H
      have c4b0 : (t110 == 16777215) = true := beq_iff_eq.mpr c4
      have c4b1 : (t110 != 16777215) = false := bne_eq_false_iff_eq.mpr c4
      clear c4
      replace H := Option.bind_eq_some_iff.mp H
      obtain ⟨t111, A50, H⟩ := H
      replace H : (if t111 = 2 then ((num_Diff.f 12 4095 1).bind fun t112 => (if t112 = (-2) then ((num_Diff.f 12 2048 0).bind fun t113 => (if t113 = 2048 then ((num_Diff.f 12 0 2048).bind fun t114 => (if t114 = 2048 then ((num_Less.f 12 4095 1).bind fun t115 => (if t115 = true then ((num_Less.f 12 0 2048).bind fun t116 => (if t116 = true then (some false) else ((num_Right.f 12 4095).bind fun t117 => (if t117 = true then ((num_Right.f 12 4096).bind fun t118 => (if t118 = true then (some false) else ((num_Right.f 13 0).bind fun t119 => (some (!t119))))) else (some false))))) else (some false))) else (some false))) else (some false))) else (some false))) else (some false)) = some r := H
      have A5 := Aside0.mk A50
      clear A50
      by_cases c6 : t111 = 2
      · rw [if_pos c6] at H
        have c6b0 : (t111 == 2) = true := beq_iff_eq.mpr c6
        have c6b1 : (t111 != 2) = false := bne_eq_false_iff_eq.mpr c6
        clear c6
        replace H := Option.bind_eq_some_iff.mp H
        obtain ⟨t112, A70, H⟩ := H
        replace H : (if t112 = (-2) then ((num_Diff.f 12 2048 0).bind fun t113 => (if t113 = 2048 then ((num_Diff.f 12 0 2048).bind fun t114 => (if t114 = 2048 then ((num_Less.f 12 4095 1).bind fun t115 => (if t115 = true then ((num_Less.f 12 0 2048).bind fun t116 => (if t116 = true then (some false) else ((num_Right.f 12 4095).bind fun t117 => (if t117 = true then ((num_Right.f 12 4096).bind fun t118 => (if t118 = true then (some false) else ((num_Right.f 13 0).bind fun t119 => (some (!t119))))) else (some false))))) else (some false))) else (some false))) else (some false))) else (some false)) = some r := H
        have A7 := Aside0.mk A70
        clear A70
        by_cases c8 : t112 = (-2)
        · rw [if_pos c8] at H
          have c8b0 : (t112 == (-2)) = true := beq_iff_eq.mpr c8
          have c8b1 : (t112 != (-2)) = false := bne_eq_false_iff_eq.mpr c8
          clear c8
          replace H := Option.bind_eq_some_iff.mp H
          obtain ⟨t113, A90, H⟩ := H
          replace H : (if t113 = 2048 then ((num_Diff.f 12 0 2048).bind fun t114 => (if t114 = 2048 then ((num_Less.f 12 4095 1).bind fun t115 => (if t115 = true then ((num_Less.f 12 0 2048).bind fun t116 => (if t116 = true then (some false) else ((num_Right.f 12 4095).bind fun t117 => (if t117 = true then ((num_Right.f 12 4096).bind fun t118 => (if t118 = true then (some false) else ((num_Right.f 13 0).bind fun t119 => (some (!t119))))) else (some false))))) else (some false))) else (some false))) else (some false)) = some r := H
          have A9 := Aside0.mk A90
          clear A90
          by_cases c10 : t113 = 2048
          · rw [if_pos c10] at H
            have c10b0 : (t113 == 2048) = true := beq_iff_eq.mpr c10
            have c10b1 : (t113 != 2048) = false := bne_eq_false_iff_eq.mpr c10
            clear c10
            replace H := Option.bind_eq_some_iff.mp H
            obtain ⟨t114, A110, H⟩ := H
            replace H : (if t114 = 2048 then ((num_Less.f 12 4095 1).bind fun t115 => (if t115 = true then ((num_Less.f 12 0 2048).bind fun t116 => (if t116 = true then (some false) else ((num_Right.f 12 4095).bind fun t117 => (if t117 = true then ((num_Right.f 12 4096).bind fun t118 => (if t118 = true then (some false) else ((num_Right.f 13 0).bind fun t119 => (some (!t119))))) else (some false))))) else (some false))) else (some false)) = some r := H
            have A11 := Aside0.mk A110
            clear A110
            by_cases c12 : t114 = 2048
            · rw [if_pos c12] at H
              have c12b0 : (t114 == 2048) = true := beq_iff_eq.mpr c12
              have c12b1 : (t114 != 2048) = false := bne_eq_false_iff_eq.mpr c12
              clear c12
              replace H := Option.bind_eq_some_iff.mp H
              obtain ⟨t115, A130, H⟩ := H
              replace H : (if t115 = true then ((num_Less.f 12 0 2048).bind fun t116 => (if t116 = true then (some false) else ((num_Right.f 12 4095).bind fun t117 => (if t117 = true then ((num_Right.f 12 4096).bind fun t118 => (if t118 = true then (some false) else ((num_Right.f 13 0).bind fun t119 => (some (!t119))))) else (some false))))) else (some false)) = some r := H
              have A13 := Aside0.mk A130
              clear A130
              by_cases c14 : t115 = true
              · subst c14
                have H1 : ((num_Less.f 12 0 2048).bind fun t116 => (if t116 = true then (some false) else ((num_Right.f 12 4095).bind fun t117 => (if t117 = true then ((num_Right.f 12 4096).bind fun t118 => (if t118 = true then (some false) else ((num_Right.f 13 0).bind fun t119 => (some (!t119))))) else (some false))))) = some r := by rw [if_pos rfl] at H; exact H
                clear H
                have H := H1
                clear H1
                replace H := Option.bind_eq_some_iff.mp H
                obtain ⟨t116, A150, H⟩ := H
                replace H : (if t116 = true then (some false) else ((num_Right.f 12 4095).bind fun t117 => (if t117 = true then ((num_Right.f 12 4096).bind fun t118 => (if t118 = true then (some false) else ((num_Right.f 13 0).bind fun t119 => (some (!t119))))) else (some false)))) = some r := H
                have A15 := Aside0.mk A150
                clear A150
                by_cases c16 : t116 = true
                · subst c16
                  have H1 : (some false) = some r := by rw [if_pos rfl] at H; exact H
                  clear H
                  have H := H1
                  clear H1
                  obtain rfl := Option.some.inj H
                  go_enter Try.func9, Try.ntmps9
                  go_wp2_with (first | ((with_reducible refine gate_callee (f := 12) rfl ?_); refine goesL_ (some 1) rfl rfl Try.func12 (by kernel_rfl) rfl #[.int .i64 12, .int .i64 4095, .int .i64 3] rfl (by (try simp only [List.map_toArray, List.map_cons, List.map_nil]); first | done | rfl | (simp only [List.length_drop, List.length_take]; rfl)) ?_; (with_reducible refine (num_Add.calls 12 4095 3 t109 _ A1.out).mono ?_); rintro e w17 ⟨rfl, hb⟩; refine ⟨_, rfl, ?_⟩; have n0_ := Aside0.mk (below_step (by repeat (first | (with_reducible first | exact HB.out | apply below_alloc | apply pw_below_drewN | apply below_drew1) | exact HB.out)) hb); clear HB; have HB := n0_; clear n0_; (try clear hb); (try clear hb2); (try clear hk); (try clear hi)) | (go_at_call 12; (with_reducible refine (num_Add.calls 24 0 (-1) t110 _ A3.out).mono ?_); rintro e w18 ⟨rfl, hb⟩; have n0_ := Aside0.mk (below_step (by repeat (first | (with_reducible first | exact HB.out | apply below_alloc | apply pw_below_drewN | apply below_drew1) | exact HB.out)) hb); clear HB; have HB := n0_; clear n0_; (try clear hb); (try clear hb2); (try clear hk); (try clear hi)) | (go_at_call 14; (with_reducible refine (num_Diff.calls 12 1 4095 t111 _ A5.out).mono ?_); rintro e w19 ⟨rfl, hb⟩; have n0_ := Aside0.mk (below_step (by repeat (first | (with_reducible first | exact HB.out | apply below_alloc | apply pw_below_drewN | apply below_drew1) | exact HB.out)) hb); clear HB; have HB := n0_; clear n0_; (try clear hb); (try clear hb2); (try clear hk); (try clear hi)) | (go_at_call 14; (with_reducible refine (num_Diff.calls 12 4095 1 t112 _ A7.out).mono ?_); rintro e w20 ⟨rfl, hb⟩; have n0_ := Aside0.mk (below_step (by repeat (first | (with_reducible first | exact HB.out | apply below_alloc | apply pw_below_drewN | apply below_drew1) | exact HB.out)) hb); clear HB; have HB := n0_; clear n0_; (try clear hb); (try clear hb2); (try clear hk); (try clear hi)) | (go_at_call 14; (with_reducible refine (num_Diff.calls 12 2048 0 t113 _ A9.out).mono ?_); rintro e w21 ⟨rfl, hb⟩; have n0_ := Aside0.mk (below_step (by repeat (first | (with_reducible first | exact HB.out | apply below_alloc | apply pw_below_drewN | apply below_drew1) | exact HB.out)) hb); clear HB; have HB := n0_; clear n0_; (try clear hb); (try clear hb2); (try clear hk); (try clear hi)) | (go_at_call 14; (with_reducible refine (num_Diff.calls 12 0 2048 t114 _ A11.out).mono ?_); rintro e w22 ⟨rfl, hb⟩; have n0_ := Aside0.mk (below_step (by repeat (first | (with_reducible first | exact HB.out | apply below_alloc | apply pw_below_drewN | apply below_drew1) | exact HB.out)) hb); clear HB; have HB := n0_; clear n0_; (try clear hb); (try clear hb2); (try clear hk); (try clear hi)) | (go_at_call 16; (with_reducible refine (num_Less.calls 12 4095 1 true _ A13.out).mono ?_); rintro e w23 ⟨rfl, hb⟩; have n0_ := Aside0.mk (below_step (by repeat (first | (with_reducible first | exact HB.out | apply below_alloc | apply pw_below_drewN | apply below_drew1) | exact HB.out)) hb); clear HB; have HB := n0_; clear n0_; (try clear hb); (try clear hb2); (try clear hk); (try clear hi)) | (go_at_call 16; (with_reducible refine (num_Less.calls 12 0 2048 true _ A15.out).mono ?_); rintro e w24 ⟨rfl, hb⟩; have n0_ := Aside0.mk (below_step (by repeat (first | (with_reducible first | exact HB.out | apply below_alloc | apply pw_below_drewN | apply below_drew1) | exact HB.out)) hb); clear HB; have HB := n0_; clear n0_; (try clear hb); (try clear hb2); (try clear hk); (try clear hi)))
                  go_ret
                  exact ⟨by first | rfl | (simp [errW_none, errW_some] <;> rfl) | (simp [*, errW_none, errW_some] <;> rfl), by repeat (first | (with_reducible first | exact HB.out | apply below_alloc | apply pw_below_drewN | apply below_drew1) | exact HB.out)⟩
                · replace c16 := Bool.eq_false_iff.mpr c16
                  subst c16
                  have H1 : ((num_Right.f 12 4095).bind fun t117 => (if t117 = true then ((num_Right.f 12 4096).bind fun t118 => (if t118 = true then (some false) else ((num_Right.f 13 0).bind fun t119 => (some (!t119))))) else (some false))) = some r := by rw [if_neg (show ¬ (false = true) by decide)] at H; exact H
                  clear H
                  have H := H1
                  clear H1
                  replace H := Option.bind_eq_some_iff.mp H
                  obtain ⟨t117, A250, H⟩ := H
                  replace H : (if t117 = true then ((num_Right.f 12 4096).bind fun t118 => (if t118 = true then (some false) else ((num_Right.f 13 0).bind fun t119 => (some (!t119))))) else (some false)) = some r := H
                  have A25 := Aside0.mk A250
                  clear A250
                  by_cases c26 : t117 = true
                  · subst c26
                    have H1 : ((num_Right.f 12 4096).bind fun t118 => (if t118 = true then (some false) else ((num_Right.f 13 0).bind fun t119 => (some (!t119))))) = some r := by rw [if_pos rfl] at H; exact H
                    clear H
                    have H := H1
                    clear H1
                    replace H := Option.bind_eq_some_iff.mp H
                    obtain ⟨t118, A270, H⟩ := H
                    replace H : (if t118 = true then (some false) else ((num_Right.f 13 0).bind fun t119 => (some (!t119)))) = some r := H
                    have A27 := Aside0.mk A270
                    clear A270
                    by_cases c28 : t118 = true
                    · subst c28
                      have H1 : (some false) = some r := by rw [if_pos rfl] at H; exact H
                      clear H
                      have H := H1
                      clear H1
                      obtain rfl := Option.some.inj H
                      go_enter Try.func9, Try.ntmps9
                      go_wp2_with (first | ((with_reducible refine gate_callee (f := 12) rfl ?_); refine goesL_ (some 1) rfl rfl Try.func12 (by kernel_rfl) rfl #[.int .i64 12, .int .i64 4095, .int .i64 3] rfl (by (try simp only [List.map_toArray, List.map_cons, List.map_nil]); first | done | rfl | (simp only [List.length_drop, List.length_take]; rfl)) ?_; (with_reducible refine (num_Add.calls 12 4095 3 t109 _ A1.out).mono ?_); rintro e w29 ⟨rfl, hb⟩; refine ⟨_, rfl, ?_⟩; have n0_ := Aside0.mk (below_step (by repeat (first | (with_reducible first | exact HB.out | apply below_alloc | apply pw_below_drewN | apply below_drew1) | exact HB.out)) hb); clear HB; have HB := n0_; clear n0_; (try clear hb); (try clear hb2); (try clear hk); (try clear hi)) | (go_at_call 12; (with_reducible refine (num_Add.calls 24 0 (-1) t110 _ A3.out).mono ?_); rintro e w30 ⟨rfl, hb⟩; have n0_ := Aside0.mk (below_step (by repeat (first | (with_reducible first | exact HB.out | apply below_alloc | apply pw_below_drewN | apply below_drew1) | exact HB.out)) hb); clear HB; have HB := n0_; clear n0_; (try clear hb); (try clear hb2); (try clear hk); (try clear hi)) | (go_at_call 14; (with_reducible refine (num_Diff.calls 12 1 4095 t111 _ A5.out).mono ?_); rintro e w31 ⟨rfl, hb⟩; have n0_ := Aside0.mk (below_step (by repeat (first | (with_reducible first | exact HB.out | apply below_alloc | apply pw_below_drewN | apply below_drew1) | exact HB.out)) hb); clear HB; have HB := n0_; clear n0_; (try clear hb); (try clear hb2); (try clear hk); (try clear hi)) | (go_at_call 14; (with_reducible refine (num_Diff.calls 12 4095 1 t112 _ A7.out).mono ?_); rintro e w32 ⟨rfl, hb⟩; have n0_ := Aside0.mk (below_step (by repeat (first | (with_reducible first | exact HB.out | apply below_alloc | apply pw_below_drewN | apply below_drew1) | exact HB.out)) hb); clear HB; have HB := n0_; clear n0_; (try clear hb); (try clear hb2); (try clear hk); (try clear hi)) | (go_at_call 14; (with_reducible refine (num_Diff.calls 12 2048 0 t113 _ A9.out).mono ?_); rintro e w33 ⟨rfl, hb⟩; have n0_ := Aside0.mk (below_step (by repeat (first | (with_reducible first | exact HB.out | apply below_alloc | apply pw_below_drewN | apply below_drew1) | exact HB.out)) hb); clear HB; have HB := n0_; clear n0_; (try clear hb); (try clear hb2); (try clear hk); (try clear hi)) | (go_at_call 14; (with_reducible refine (num_Diff.calls 12 0 2048 t114 _ A11.out).mono ?_); rintro e w34 ⟨rfl, hb⟩; have n0_ := Aside0.mk (below_step (by repeat (first | (with_reducible first | exact HB.out | apply below_alloc | apply pw_below_drewN | apply below_drew1) | exact HB.out)) hb); clear HB; have HB := n0_; clear n0_; (try clear hb); (try clear hb2); (try clear hk); (try clear hi)) | (go_at_call 16; (with_reducible refine (num_Less.calls 12 4095 1 true _ A13.out).mono ?_); rintro e w35 ⟨rfl, hb⟩; have n0_ := Aside0.mk (below_step (by repeat (first | (with_reducible first | exact HB.out | apply below_alloc | apply pw_below_drewN | apply below_drew1) | exact HB.out)) hb); clear HB; have HB := n0_; clear n0_; (try clear hb); (try clear hb2); (try clear hk); (try clear hi)) | (go_at_call 16; (with_reducible refine (num_Less.calls 12 0 2048 false _ A15.out).mono ?_); rintro e w36 ⟨rfl, hb⟩; have n0_ := Aside0.mk (below_step (by repeat (first | (with_reducible first | exact HB.out | apply below_alloc | apply pw_below_drewN | apply below_drew1) | exact HB.out)) hb); clear HB; have HB := n0_; clear n0_; (try clear hb); (try clear hb2); (try clear hk); (try clear hi)) | (go_at_call 10; (with_reducible refine (num_Right.calls 12 4095 true _ A25.out).mono ?_); rintro e w' ⟨rfl, ⟨nd, rfl⟩⟩) | (go_at_call 10; (with_reducible refine (num_Right.calls 12 4096 true _ A27.out).mono ?_); rintro e w' ⟨rfl, ⟨nd, rfl⟩⟩))
                      go_ret
                      exact ⟨by first | rfl | (simp [errW_none, errW_some] <;> rfl) | (simp [*, errW_none, errW_some] <;> rfl), by repeat (first | (with_reducible first | exact HB.out | apply below_alloc | apply pw_below_drewN | apply below_drew1) | exact HB.out)⟩
                    · replace c28 := Bool.eq_false_iff.mpr c28
                      subst c28
                      have H1 : ((num_Right.f 13 0).bind fun t119 => (some (!t119))) = some r := by rw [if_neg (show ¬ (false = true) by decide)] at H; exact H
                      clear H
                      have H := H1
                      clear H1
                      replace H := Option.bind_eq_some_iff.mp H
                      obtain ⟨t119, A370, H⟩ := H
                      replace H : (some (!t119)) = some r := H
                      have A37 := Aside0.mk A370
                      clear A370
                      obtain rfl := Option.some.inj H
                      go_enter Try.func9, Try.ntmps9
                      go_wp2_with (first | ((with_reducible refine gate_callee (f := 12) rfl ?_); refine goesL_ (some 1) rfl rfl Try.func12 (by kernel_rfl) rfl #[.int .i64 12, .int .i64 4095, .int .i64 3] rfl (by (try simp only [List.map_toArray, List.map_cons, List.map_nil]); first | done | rfl | (simp only [List.length_drop, List.length_take]; rfl)) ?_; (with_reducible refine (num_Add.calls 12 4095 3 t109 _ A1.out).mono ?_); rintro e w38 ⟨rfl, hb⟩; refine ⟨_, rfl, ?_⟩; have n0_ := Aside0.mk (below_step (by repeat (first | (with_reducible first | exact HB.out | apply below_alloc | apply pw_below_drewN | apply below_drew1) | exact HB.out)) hb); clear HB; have HB := n0_; clear n0_; (try clear hb); (try clear hb2); (try clear hk); (try clear hi)) | (go_at_call 12; (with_reducible refine (num_Add.calls 24 0 (-1) t110 _ A3.out).mono ?_); rintro e w39 ⟨rfl, hb⟩; have n0_ := Aside0.mk (below_step (by repeat (first | (with_reducible first | exact HB.out | apply below_alloc | apply pw_below_drewN | apply below_drew1) | exact HB.out)) hb); clear HB; have HB := n0_; clear n0_; (try clear hb); (try clear hb2); (try clear hk); (try clear hi)) | (go_at_call 14; (with_reducible refine (num_Diff.calls 12 1 4095 t111 _ A5.out).mono ?_); rintro e w40 ⟨rfl, hb⟩; have n0_ := Aside0.mk (below_step (by repeat (first | (with_reducible first | exact HB.out | apply below_alloc | apply pw_below_drewN | apply below_drew1) | exact HB.out)) hb); clear HB; have HB := n0_; clear n0_; (try clear hb); (try clear hb2); (try clear hk); (try clear hi)) | (go_at_call 14; (with_reducible refine (num_Diff.calls 12 4095 1 t112 _ A7.out).mono ?_); rintro e w41 ⟨rfl, hb⟩; have n0_ := Aside0.mk (below_step (by repeat (first | (with_reducible first | exact HB.out | apply below_alloc | apply pw_below_drewN | apply below_drew1) | exact HB.out)) hb); clear HB; have HB := n0_; clear n0_; (try clear hb); (try clear hb2); (try clear hk); (try clear hi)) | (go_at_call 14; (with_reducible refine (num_Diff.calls 12 2048 0 t113 _ A9.out).mono ?_); rintro e w42 ⟨rfl, hb⟩; have n0_ := Aside0.mk (below_step (by repeat (first | (with_reducible first | exact HB.out | apply below_alloc | apply pw_below_drewN | apply below_drew1) | exact HB.out)) hb); clear HB; have HB := n0_; clear n0_; (try clear hb); (try clear hb2); (try clear hk); (try clear hi)) | (go_at_call 14; (with_reducible refine (num_Diff.calls 12 0 2048 t114 _ A11.out).mono ?_); rintro e w43 ⟨rfl, hb⟩; have n0_ := Aside0.mk (below_step (by repeat (first | (with_reducible first | exact HB.out | apply below_alloc | apply pw_below_drewN | apply below_drew1) | exact HB.out)) hb); clear HB; have HB := n0_; clear n0_; (try clear hb); (try clear hb2); (try clear hk); (try clear hi)) | (go_at_call 16; (with_reducible refine (num_Less.calls 12 4095 1 true _ A13.out).mono ?_); rintro e w44 ⟨rfl, hb⟩; have n0_ := Aside0.mk (below_step (by repeat (first | (with_reducible first | exact HB.out | apply below_alloc | apply pw_below_drewN | apply below_drew1) | exact HB.out)) hb); clear HB; have HB := n0_; clear n0_; (try clear hb); (try clear hb2); (try clear hk); (try clear hi)) | (go_at_call 16; (with_reducible refine (num_Less.calls 12 0 2048 false _ A15.out).mono ?_); rintro e w45 ⟨rfl, hb⟩; have n0_ := Aside0.mk (below_step (by repeat (first | (with_reducible first | exact HB.out | apply below_alloc | apply pw_below_drewN | apply below_drew1) | exact HB.out)) hb); clear HB; have HB := n0_; clear n0_; (try clear hb); (try clear hb2); (try clear hk); (try clear hi)) | (go_at_call 10; (with_reducible refine (num_Right.calls 12 4095 true _ A25.out).mono ?_); rintro e w' ⟨rfl, ⟨nd, rfl⟩⟩) | (go_at_call 10; (with_reducible refine (num_Right.calls 12 4096 false _ A27.out).mono ?_); rintro e w' ⟨rfl, ⟨nd, rfl⟩⟩) | (go_at_call 10; (with_reducible refine (num_Right.calls 13 0 t119 _ A37.out).mono ?_); rintro e w' ⟨rfl, ⟨nd, rfl⟩⟩))
                      go_ret
                      exact ⟨by first | rfl | (simp [errW_none, errW_some] <;> rfl) | (simp [*, errW_none, errW_some] <;> rfl), by repeat (first | (with_reducible first | exact HB.out | apply below_alloc | apply pw_below_drewN | apply below_drew1) | exact HB.out)⟩
                  · replace c26 := Bool.eq_false_iff.mpr c26
                    subst c26
                    have H1 : (some false) = some r := by rw [if_neg (show ¬ (false = true) by decide)] at H; exact H
                    clear H
                    have H := H1
                    clear H1
                    obtain rfl := Option.some.inj H
                    go_enter Try.func9, Try.ntmps9
                    go_wp2_with (first | ((with_reducible refine gate_callee (f := 12) rfl ?_); refine goesL_ (some 1) rfl rfl Try.func12 (by kernel_rfl) rfl #[.int .i64 12, .int .i64 4095, .int .i64 3] rfl (by (try simp only [List.map_toArray, List.map_cons, List.map_nil]); first | done | rfl | (simp only [List.length_drop, List.length_take]; rfl)) ?_; (with_reducible refine (num_Add.calls 12 4095 3 t109 _ A1.out).mono ?_); rintro e w46 ⟨rfl, hb⟩; refine ⟨_, rfl, ?_⟩; have n0_ := Aside0.mk (below_step (by repeat (first | (with_reducible first | exact HB.out | apply below_alloc | apply pw_below_drewN | apply below_drew1) | exact HB.out)) hb); clear HB; have HB := n0_; clear n0_; (try clear hb); (try clear hb2); (try clear hk); (try clear hi)) | (go_at_call 12; (with_reducible refine (num_Add.calls 24 0 (-1) t110 _ A3.out).mono ?_); rintro e w47 ⟨rfl, hb⟩; have n0_ := Aside0.mk (below_step (by repeat (first | (with_reducible first | exact HB.out | apply below_alloc | apply pw_below_drewN | apply below_drew1) | exact HB.out)) hb); clear HB; have HB := n0_; clear n0_; (try clear hb); (try clear hb2); (try clear hk); (try clear hi)) | (go_at_call 14; (with_reducible refine (num_Diff.calls 12 1 4095 t111 _ A5.out).mono ?_); rintro e w48 ⟨rfl, hb⟩; have n0_ := Aside0.mk (below_step (by repeat (first | (with_reducible first | exact HB.out | apply below_alloc | apply pw_below_drewN | apply below_drew1) | exact HB.out)) hb); clear HB; have HB := n0_; clear n0_; (try clear hb); (try clear hb2); (try clear hk); (try clear hi)) | (go_at_call 14; (with_reducible refine (num_Diff.calls 12 4095 1 t112 _ A7.out).mono ?_); rintro e w49 ⟨rfl, hb⟩; have n0_ := Aside0.mk (below_step (by repeat (first | (with_reducible first | exact HB.out | apply below_alloc | apply pw_below_drewN | apply below_drew1) | exact HB.out)) hb); clear HB; have HB := n0_; clear n0_; (try clear hb); (try clear hb2); (try clear hk); (try clear hi)) | (go_at_call 14; (with_reducible refine (num_Diff.calls 12 2048 0 t113 _ A9.out).mono ?_); rintro e w50 ⟨rfl, hb⟩; have n0_ := Aside0.mk (below_step (by repeat (first | (with_reducible first | exact HB.out | apply below_alloc | apply pw_below_drewN | apply below_drew1) | exact HB.out)) hb); clear HB; have HB := n0_; clear n0_; (try clear hb); (try clear hb2); (try clear hk); (try clear hi)) | (go_at_call 14; (with_reducible refine (num_Diff.calls 12 0 2048 t114 _ A11.out).mono ?_); rintro e w51 ⟨rfl, hb⟩; have n0_ := Aside0.mk (below_step (by repeat (first | (with_reducible first | exact HB.out | apply below_alloc | apply pw_below_drewN | apply below_drew1) | exact HB.out)) hb); clear HB; have HB := n0_; clear n0_; (try clear hb); (try clear hb2); (try clear hk); (try clear hi)) | (go_at_call 16; (with_reducible refine (num_Less.calls 12 4095 1 true _ A13.out).mono ?_); rintro e w52 ⟨rfl, hb⟩; have n0_ := Aside0.mk (below_step (by repeat (first | (with_reducible first | exact HB.out | apply below_alloc | apply pw_below_drewN | apply below_drew1) | exact HB.out)) hb); clear HB; have HB := n0_; clear n0_; (try clear hb); (try clear hb2); (try clear hk); (try clear hi)) | (go_at_call 16; (with_reducible refine (num_Less.calls 12 0 2048 false _ A15.out).mono ?_); rintro e w53 ⟨rfl, hb⟩; have n0_ := Aside0.mk (below_step (by repeat (first | (with_reducible first | exact HB.out | apply below_alloc | apply pw_below_drewN | apply below_drew1) | exact HB.out)) hb); clear HB; have HB := n0_; clear n0_; (try clear hb); (try clear hb2); (try clear hk); (try clear hi)) | (go_at_call 10; (with_reducible refine (num_Right.calls 12 4095 false _ A25.out).mono ?_); rintro e w' ⟨rfl, ⟨nd, rfl⟩⟩))
                    go_ret
                    exact ⟨by first | rfl | (simp [errW_none, errW_some] <;> rfl) | (simp [*, errW_none, errW_some] <;> rfl), by repeat (first | (with_reducible first | exact HB.out | apply below_alloc | apply pw_below_drewN | apply below_drew1) | exact HB.out)⟩
              · replace c14 := Bool.eq_false_iff.mpr c14
                subst c14
                have H1 : (some false) = some r := by rw [if_neg (show ¬ (false = true) by decide)] at H; exact H
                clear H
                have H := H1
                clear H1
                obtain rfl := Option.some.inj H
                go_enter Try.func9, Try.ntmps9
                go_wp2_with (first | ((with_reducible refine gate_callee (f := 12) rfl ?_); refine goesL_ (some 1) rfl rfl Try.func12 (by kernel_rfl) rfl #[.int .i64 12, .int .i64 4095, .int .i64 3] rfl (by (try simp only [List.map_toArray, List.map_cons, List.map_nil]); first | done | rfl | (simp only [List.length_drop, List.length_take]; rfl)) ?_; (with_reducible refine (num_Add.calls 12 4095 3 t109 _ A1.out).mono ?_); rintro e w54 ⟨rfl, hb⟩; refine ⟨_, rfl, ?_⟩; have n0_ := Aside0.mk (below_step (by repeat (first | (with_reducible first | exact HB.out | apply below_alloc | apply pw_below_drewN | apply below_drew1) | exact HB.out)) hb); clear HB; have HB := n0_; clear n0_; (try clear hb); (try clear hb2); (try clear hk); (try clear hi)) | (go_at_call 12; (with_reducible refine (num_Add.calls 24 0 (-1) t110 _ A3.out).mono ?_); rintro e w55 ⟨rfl, hb⟩; have n0_ := Aside0.mk (below_step (by repeat (first | (with_reducible first | exact HB.out | apply below_alloc | apply pw_below_drewN | apply below_drew1) | exact HB.out)) hb); clear HB; have HB := n0_; clear n0_; (try clear hb); (try clear hb2); (try clear hk); (try clear hi)) | (go_at_call 14; (with_reducible refine (num_Diff.calls 12 1 4095 t111 _ A5.out).mono ?_); rintro e w56 ⟨rfl, hb⟩; have n0_ := Aside0.mk (below_step (by repeat (first | (with_reducible first | exact HB.out | apply below_alloc | apply pw_below_drewN | apply below_drew1) | exact HB.out)) hb); clear HB; have HB := n0_; clear n0_; (try clear hb); (try clear hb2); (try clear hk); (try clear hi)) | (go_at_call 14; (with_reducible refine (num_Diff.calls 12 4095 1 t112 _ A7.out).mono ?_); rintro e w57 ⟨rfl, hb⟩; have n0_ := Aside0.mk (below_step (by repeat (first | (with_reducible first | exact HB.out | apply below_alloc | apply pw_below_drewN | apply below_drew1) | exact HB.out)) hb); clear HB; have HB := n0_; clear n0_; (try clear hb); (try clear hb2); (try clear hk); (try clear hi)) | (go_at_call 14; (with_reducible refine (num_Diff.calls 12 2048 0 t113 _ A9.out).mono ?_); rintro e w58 ⟨rfl, hb⟩; have n0_ := Aside0.mk (below_step (by repeat (first | (with_reducible first | exact HB.out | apply below_alloc | apply pw_below_drewN | apply below_drew1) | exact HB.out)) hb); clear HB; have HB := n0_; clear n0_; (try clear hb); (try clear hb2); (try clear hk); (try clear hi)) | (go_at_call 14; (with_reducible refine (num_Diff.calls 12 0 2048 t114 _ A11.out).mono ?_); rintro e w59 ⟨rfl, hb⟩; have n0_ := Aside0.mk (below_step (by repeat (first | (with_reducible first | exact HB.out | apply below_alloc | apply pw_below_drewN | apply below_drew1) | exact HB.out)) hb); clear HB; have HB := n0_; clear n0_; (try clear hb); (try clear hb2); (try clear hk); (try clear hi)) | (go_at_call 16; (with_reducible refine (num_Less.calls 12 4095 1 false _ A13.out).mono ?_); rintro e w60 ⟨rfl, hb⟩; have n0_ := Aside0.mk (below_step (by repeat (first | (with_reducible first | exact HB.out | apply below_alloc | apply pw_below_drewN | apply below_drew1) | exact HB.out)) hb); clear HB; have HB := n0_; clear n0_; (try clear hb); (try clear hb2); (try clear hk); (try clear hi)))
                go_ret
                exact ⟨by first | rfl | (simp [errW_none, errW_some] <;> rfl) | (simp [*, errW_none, errW_some] <;> rfl), by repeat (first | (with_reducible first | exact HB.out | apply below_alloc | apply pw_below_drewN | apply below_drew1) | exact HB.out)⟩
            · rw [if_neg c12] at H
              have c12b0 : (t114 == 2048) = false := beq_eq_false_iff_ne.mpr c12
              have c12b1 : (t114 != 2048) = true := bne_iff_ne.mpr c12
              obtain rfl := Option.some.inj H
              go_enter Try.func9, Try.ntmps9
              go_wp2_with (first | ((with_reducible refine gate_callee (f := 12) rfl ?_); refine goesL_ (some 1) rfl rfl Try.func12 (by kernel_rfl) rfl #[.int .i64 12, .int .i64 4095, .int .i64 3] rfl (by (try simp only [List.map_toArray, List.map_cons, List.map_nil]); first | done | rfl | (simp only [List.length_drop, List.length_take]; rfl)) ?_; (with_reducible refine (num_Add.calls 12 4095 3 t109 _ A1.out).mono ?_); rintro e w61 ⟨rfl, hb⟩; refine ⟨_, rfl, ?_⟩; have n0_ := Aside0.mk (below_step (by repeat (first | (with_reducible first | exact HB.out | apply below_alloc | apply pw_below_drewN | apply below_drew1) | exact HB.out)) hb); clear HB; have HB := n0_; clear n0_; (try clear hb); (try clear hb2); (try clear hk); (try clear hi)) | (go_at_call 12; (with_reducible refine (num_Add.calls 24 0 (-1) t110 _ A3.out).mono ?_); rintro e w62 ⟨rfl, hb⟩; have n0_ := Aside0.mk (below_step (by repeat (first | (with_reducible first | exact HB.out | apply below_alloc | apply pw_below_drewN | apply below_drew1) | exact HB.out)) hb); clear HB; have HB := n0_; clear n0_; (try clear hb); (try clear hb2); (try clear hk); (try clear hi)) | (go_at_call 14; (with_reducible refine (num_Diff.calls 12 1 4095 t111 _ A5.out).mono ?_); rintro e w63 ⟨rfl, hb⟩; have n0_ := Aside0.mk (below_step (by repeat (first | (with_reducible first | exact HB.out | apply below_alloc | apply pw_below_drewN | apply below_drew1) | exact HB.out)) hb); clear HB; have HB := n0_; clear n0_; (try clear hb); (try clear hb2); (try clear hk); (try clear hi)) | (go_at_call 14; (with_reducible refine (num_Diff.calls 12 4095 1 t112 _ A7.out).mono ?_); rintro e w64 ⟨rfl, hb⟩; have n0_ := Aside0.mk (below_step (by repeat (first | (with_reducible first | exact HB.out | apply below_alloc | apply pw_below_drewN | apply below_drew1) | exact HB.out)) hb); clear HB; have HB := n0_; clear n0_; (try clear hb); (try clear hb2); (try clear hk); (try clear hi)) | (go_at_call 14; (with_reducible refine (num_Diff.calls 12 2048 0 t113 _ A9.out).mono ?_); rintro e w65 ⟨rfl, hb⟩; have n0_ := Aside0.mk (below_step (by repeat (first | (with_reducible first | exact HB.out | apply below_alloc | apply pw_below_drewN | apply below_drew1) | exact HB.out)) hb); clear HB; have HB := n0_; clear n0_; (try clear hb); (try clear hb2); (try clear hk); (try clear hi)) | (go_at_call 14; (with_reducible refine (num_Diff.calls 12 0 2048 t114 _ A11.out).mono ?_); rintro e w66 ⟨rfl, hb⟩; have n0_ := Aside0.mk (below_step (by repeat (first | (with_reducible first | exact HB.out | apply below_alloc | apply pw_below_drewN | apply below_drew1) | exact HB.out)) hb); clear HB; have HB := n0_; clear n0_; (try clear hb); (try clear hb2); (try clear hk); (try clear hi)))
              go_ret
              exact ⟨by first | rfl | (simp [errW_none, errW_some] <;> rfl) | (simp [*, errW_none, errW_some] <;> rfl), by repeat (first | (with_reducible first | exact HB.out | apply below_alloc | apply pw_below_drewN | apply below_drew1) | exact HB.out)⟩
          · rw [if_neg c10] at H
            have c10b0 : (t113 == 2048) = false := beq_eq_false_iff_ne.mpr c10
            have c10b1 : (t113 != 2048) = true := bne_iff_ne.mpr c10
            obtain rfl := Option.some.inj H
            go_enter Try.func9, Try.ntmps9
            go_wp2_with (first | ((with_reducible refine gate_callee (f := 12) rfl ?_); refine goesL_ (some 1) rfl rfl Try.func12 (by kernel_rfl) rfl #[.int .i64 12, .int .i64 4095, .int .i64 3] rfl (by (try simp only [List.map_toArray, List.map_cons, List.map_nil]); first | done | rfl | (simp only [List.length_drop, List.length_take]; rfl)) ?_; (with_reducible refine (num_Add.calls 12 4095 3 t109 _ A1.out).mono ?_); rintro e w67 ⟨rfl, hb⟩; refine ⟨_, rfl, ?_⟩; have n0_ := Aside0.mk (below_step (by repeat (first | (with_reducible first | exact HB.out | apply below_alloc | apply pw_below_drewN | apply below_drew1) | exact HB.out)) hb); clear HB; have HB := n0_; clear n0_; (try clear hb); (try clear hb2); (try clear hk); (try clear hi)) | (go_at_call 12; (with_reducible refine (num_Add.calls 24 0 (-1) t110 _ A3.out).mono ?_); rintro e w68 ⟨rfl, hb⟩; have n0_ := Aside0.mk (below_step (by repeat (first | (with_reducible first | exact HB.out | apply below_alloc | apply pw_below_drewN | apply below_drew1) | exact HB.out)) hb); clear HB; have HB := n0_; clear n0_; (try clear hb); (try clear hb2); (try clear hk); (try clear hi)) | (go_at_call 14; (with_reducible refine (num_Diff.calls 12 1 4095 t111 _ A5.out).mono ?_); rintro e w69 ⟨rfl, hb⟩; have n0_ := Aside0.mk (below_step (by repeat (first | (with_reducible first | exact HB.out | apply below_alloc | apply pw_below_drewN | apply below_drew1) | exact HB.out)) hb); clear HB; have HB := n0_; clear n0_; (try clear hb); (try clear hb2); (try clear hk); (try clear hi)) | (go_at_call 14; (with_reducible refine (num_Diff.calls 12 4095 1 t112 _ A7.out).mono ?_); rintro e w70 ⟨rfl, hb⟩; have n0_ := Aside0.mk (below_step (by repeat (first | (with_reducible first | exact HB.out | apply below_alloc | apply pw_below_drewN | apply below_drew1) | exact HB.out)) hb); clear HB; have HB := n0_; clear n0_; (try clear hb); (try clear hb2); (try clear hk); (try clear hi)) | (go_at_call 14; (with_reducible refine (num_Diff.calls 12 2048 0 t113 _ A9.out).mono ?_); rintro e w71 ⟨rfl, hb⟩; have n0_ := Aside0.mk (below_step (by repeat (first | (with_reducible first | exact HB.out | apply below_alloc | apply pw_below_drewN | apply below_drew1) | exact HB.out)) hb); clear HB; have HB := n0_; clear n0_; (try clear hb); (try clear hb2); (try clear hk); (try clear hi)))
            go_ret
            exact ⟨by first | rfl | (simp [errW_none, errW_some] <;> rfl) | (simp [*, errW_none, errW_some] <;> rfl), by repeat (first | (with_reducible first | exact HB.out | apply below_alloc | apply pw_below_drewN | apply below_drew1) | exact HB.out)⟩
        · rw [if_neg c8] at H
          have c8b0 : (t112 == (-2)) = false := beq_eq_false_iff_ne.mpr c8
          have c8b1 : (t112 != (-2)) = true := bne_iff_ne.mpr c8
          obtain rfl := Option.some.inj H
          go_enter Try.func9, Try.ntmps9
          go_wp2_with (first | ((with_reducible refine gate_callee (f := 12) rfl ?_); refine goesL_ (some 1) rfl rfl Try.func12 (by kernel_rfl) rfl #[.int .i64 12, .int .i64 4095, .int .i64 3] rfl (by (try simp only [List.map_toArray, List.map_cons, List.map_nil]); first | done | rfl | (simp only [List.length_drop, List.length_take]; rfl)) ?_; (with_reducible refine (num_Add.calls 12 4095 3 t109 _ A1.out).mono ?_); rintro e w72 ⟨rfl, hb⟩; refine ⟨_, rfl, ?_⟩; have n0_ := Aside0.mk (below_step (by repeat (first | (with_reducible first | exact HB.out | apply below_alloc | apply pw_below_drewN | apply below_drew1) | exact HB.out)) hb); clear HB; have HB := n0_; clear n0_; (try clear hb); (try clear hb2); (try clear hk); (try clear hi)) | (go_at_call 12; (with_reducible refine (num_Add.calls 24 0 (-1) t110 _ A3.out).mono ?_); rintro e w73 ⟨rfl, hb⟩; have n0_ := Aside0.mk (below_step (by repeat (first | (with_reducible first | exact HB.out | apply below_alloc | apply pw_below_drewN | apply below_drew1) | exact HB.out)) hb); clear HB; have HB := n0_; clear n0_; (try clear hb); (try clear hb2); (try clear hk); (try clear hi)) | (go_at_call 14; (with_reducible refine (num_Diff.calls 12 1 4095 t111 _ A5.out).mono ?_); rintro e w74 ⟨rfl, hb⟩; have n0_ := Aside0.mk (below_step (by repeat (first | (with_reducible first | exact HB.out | apply below_alloc | apply pw_below_drewN | apply below_drew1) | exact HB.out)) hb); clear HB; have HB := n0_; clear n0_; (try clear hb); (try clear hb2); (try clear hk); (try clear hi)) | (go_at_call 14; (with_reducible refine (num_Diff.calls 12 4095 1 t112 _ A7.out).mono ?_); rintro e w75 ⟨rfl, hb⟩; have n0_ := Aside0.mk (below_step (by repeat (first | (with_reducible first | exact HB.out | apply below_alloc | apply pw_below_drewN | apply below_drew1) | exact HB.out)) hb); clear HB; have HB := n0_; clear n0_; (try clear hb); (try clear hb2); (try clear hk); (try clear hi)))
          go_ret
          exact ⟨by first | rfl | (simp [errW_none, errW_some] <;> rfl) | (simp [*, errW_none, errW_some] <;> rfl), by repeat (first | (with_reducible first | exact HB.out | apply below_alloc | apply pw_below_drewN | apply below_drew1) | exact HB.out)⟩
      · rw [if_neg c6] at H
        have c6b0 : (t111 == 2) = false := beq_eq_false_iff_ne.mpr c6
        have c6b1 : (t111 != 2) = true := bne_iff_ne.mpr c6
        obtain rfl := Option.some.inj H
        go_enter Try.func9, Try.ntmps9
        go_wp2_with (first | ((with_reducible refine gate_callee (f := 12) rfl ?_); refine goesL_ (some 1) rfl rfl Try.func12 (by kernel_rfl) rfl #[.int .i64 12, .int .i64 4095, .int .i64 3] rfl (by (try simp only [List.map_toArray, List.map_cons, List.map_nil]); first | done | rfl | (simp only [List.length_drop, List.length_take]; rfl)) ?_; (with_reducible refine (num_Add.calls 12 4095 3 t109 _ A1.out).mono ?_); rintro e w76 ⟨rfl, hb⟩; refine ⟨_, rfl, ?_⟩; have n0_ := Aside0.mk (below_step (by repeat (first | (with_reducible first | exact HB.out | apply below_alloc | apply pw_below_drewN | apply below_drew1) | exact HB.out)) hb); clear HB; have HB := n0_; clear n0_; (try clear hb); (try clear hb2); (try clear hk); (try clear hi)) | (go_at_call 12; (with_reducible refine (num_Add.calls 24 0 (-1) t110 _ A3.out).mono ?_); rintro e w77 ⟨rfl, hb⟩; have n0_ := Aside0.mk (below_step (by repeat (first | (with_reducible first | exact HB.out | apply below_alloc | apply pw_below_drewN | apply below_drew1) | exact HB.out)) hb); clear HB; have HB := n0_; clear n0_; (try clear hb); (try clear hb2); (try clear hk); (try clear hi)) | (go_at_call 14; (with_reducible refine (num_Diff.calls 12 1 4095 t111 _ A5.out).mono ?_); rintro e w78 ⟨rfl, hb⟩; have n0_ := Aside0.mk (below_step (by repeat (first | (with_reducible first | exact HB.out | apply below_alloc | apply pw_below_drewN | apply below_drew1) | exact HB.out)) hb); clear HB; have HB := n0_; clear n0_; (try clear hb); (try clear hb2); (try clear hk); (try clear hi)))
        go_ret
        exact ⟨by first | rfl | (simp [errW_none, errW_some] <;> rfl) | (simp [*, errW_none, errW_some] <;> rfl), by repeat (first | (with_reducible first | exact HB.out | apply below_alloc | apply pw_below_drewN | apply below_drew1) | exact HB.out)⟩
    · rw [if_neg c4] at H
      have c4b0 : (t110 == 16777215) = false := beq_eq_false_iff_ne.mpr c4
      have c4b1 : (t110 != 16777215) = true := bne_iff_ne.mpr c4
      obtain rfl := Option.some.inj H
      go_enter Try.func9, Try.ntmps9
      go_wp2_with (first | ((with_reducible refine gate_callee (f := 12) rfl ?_); refine goesL_ (some 1) rfl rfl Try.func12 (by kernel_rfl) rfl #[.int .i64 12, .int .i64 4095, .int .i64 3] rfl (by (try simp only [List.map_toArray, List.map_cons, List.map_nil]); first | done | rfl | (simp only [List.length_drop, List.length_take]; rfl)) ?_; (with_reducible refine (num_Add.calls 12 4095 3 t109 _ A1.out).mono ?_); rintro e w79 ⟨rfl, hb⟩; refine ⟨_, rfl, ?_⟩; have n0_ := Aside0.mk (below_step (by repeat (first | (with_reducible first | exact HB.out | apply below_alloc | apply pw_below_drewN | apply below_drew1) | exact HB.out)) hb); clear HB; have HB := n0_; clear n0_; (try clear hb); (try clear hb2); (try clear hk); (try clear hi)) | (go_at_call 12; (with_reducible refine (num_Add.calls 24 0 (-1) t110 _ A3.out).mono ?_); rintro e w80 ⟨rfl, hb⟩; have n0_ := Aside0.mk (below_step (by repeat (first | (with_reducible first | exact HB.out | apply below_alloc | apply pw_below_drewN | apply below_drew1) | exact HB.out)) hb); clear HB; have HB := n0_; clear n0_; (try clear hb); (try clear hb2); (try clear hk); (try clear hi)))
      go_ret
      exact ⟨by first | rfl | (simp [errW_none, errW_some] <;> rfl) | (simp [*, errW_none, errW_some] <;> rfl), by repeat (first | (with_reducible first | exact HB.out | apply below_alloc | apply pw_below_drewN | apply below_drew1) | exact HB.out)⟩
  · rw [if_neg c2] at H
    have c2b0 : (t109 == 2) = false := beq_eq_false_iff_ne.mpr c2
    have c2b1 : (t109 != 2) = true := bne_iff_ne.mpr c2
    obtain rfl := Option.some.inj H
    go_enter Try.func9, Try.ntmps9
    go_wp2_with (first | ((with_reducible refine gate_callee (f := 12) rfl ?_); refine goesL_ (some 1) rfl rfl Try.func12 (by kernel_rfl) rfl #[.int .i64 12, .int .i64 4095, .int .i64 3] rfl (by (try simp only [List.map_toArray, List.map_cons, List.map_nil]); first | done | rfl | (simp only [List.length_drop, List.length_take]; rfl)) ?_; (with_reducible refine (num_Add.calls 12 4095 3 t109 _ A1.out).mono ?_); rintro e w81 ⟨rfl, hb⟩; refine ⟨_, rfl, ?_⟩; have n0_ := Aside0.mk (below_step (by repeat (first | (with_reducible first | exact HB.out | apply below_alloc | apply pw_below_drewN | apply below_drew1) | exact HB.out)) hb); clear HB; have HB := n0_; clear n0_; (try clear hb); (try clear hb2); (try clear hk); (try clear hi)))
    go_ret
    exact ⟨by first | rfl | (simp [errW_none, errW_some] <;> rfl) | (simp [*, errW_none, errW_some] <;> rfl), by repeat (first | (with_reducible first | exact HB.out | apply below_alloc | apply pw_below_drewN | apply below_drew1) | exact HB.out)⟩

/-! ### bowlinelaw01_size: function 18 -/
def bowlinelaw01_size.f (a0 : Bool) : Option (Int × Int) := if a0 = true then (some (24, 16777216)) else (some (12, 4096))
set_option maxHeartbeats 8000000 in
set_option maxRecDepth 100000 in
theorem bowlinelaw01_size.calls (a0 : Bool) (r1 : Int) (r2 : Int) (w : World) (h : bowlinelaw01_size.f a0 = some (r1, r2)) :
    Calls Try.prog 18 #[.bool a0] w fun e w' => e = .returned (.tuple #[.int .i64 r1, .int .i64 r2]) ∧ Drawn0 w w' := by
  have H : (if a0 = true then (some (24, 16777216)) else (some (12, 4096))) = some (r1, r2) := h
  clear h
  by_cases c2 : a0 = true
  · subst c2
    have H1 : (some (24, 16777216)) = some (r1, r2) := by rw [if_pos rfl] at H; exact H
    clear H
    have H := H1
    clear H1
    simp only [Option.some.injEq, Prod.mk.injEq] at H
    obtain ⟨rfl, rfl⟩ := H
    go_enter Try.func18, Try.ntmps18
    go_wp2
    go_ret2
    exact ⟨by first | rfl | (simp; done) | (simp [*]; done), by repeat (first | exact Drawn0.refl _ | apply Drawn0.step)⟩
  · replace c2 := Bool.eq_false_iff.mpr c2
    subst c2
    have H1 : (some (12, 4096)) = some (r1, r2) := by rw [if_neg (show ¬ (false = true) by decide)] at H; exact H
    clear H
    have H := H1
    clear H1
    simp only [Option.some.injEq, Prod.mk.injEq] at H
    obtain ⟨rfl, rfl⟩ := H
    go_enter Try.func18, Try.ntmps18
    go_wp2
    go_ret2
    exact ⟨by first | rfl | (simp; done) | (simp [*]; done), by repeat (first | exact Drawn0.refl _ | apply Drawn0.step)⟩

/-! ### bowlinelaw01_NumRound: function 4 -/
def bowlinelaw01_NumRound.j0 : Nat → Int → Int → Bool → Int → Int → Int → Int → Int → Int → Bool → Option (Bool)
  | 0, _, _, _, _, _, _, _, _, _, _ => none
  | k + 1, x2, x3, x9, x10, x11, x12, x13, x14, x15, x16 => if x9 = true then ((num_Right.f x10 x12).bind fun t127 => (if t127 = true then ((num_Add.f x10 x12 (wrap64 ((wrap64 (x2)) + (wrap64 (x3))))).bind fun t128 => (if x13 = t128 then ((num_Add.f x10 x12 x11).bind fun t129 => (if t129 = x12 then ((num_Add.f x10 x12 0).bind fun t130 => (if t130 = x12 then (if x16 = true then (if x14 = (wrap64 (x2)) then (if x14 > (wrap64 (-x15)) then (if x14 ≤ x15 then ((num_Add.f x10 x12 x14).bind fun t131 => ((num_Add.f x10 x12 (wrap64 (x2))).bind fun t132 => (some (t131 == t132)))) else (some false)) else (some false)) else (some false)) else (if x14 > (wrap64 (-x15)) then (if x14 ≤ x15 then ((num_Add.f x10 x12 x14).bind fun t133 => ((num_Add.f x10 x12 (wrap64 (x2))).bind fun t134 => (some (t133 == t134)))) else (some false)) else (some false))) else (some false))) else (some false))) else (some false))) else (some false))) else (some false)
def bowlinelaw01_NumRound.f (k : Nat) (a0 : Bool) (a1 : Int) (a2 : Int) (a3 : Int) : Option (Bool) := (bowlinelaw01_head.f).bind fun t120 => ((bowlinelaw01_size.f a0).bind fun bt121 => (if bt121.2 = 0 then (none) else ((num_Add.f bt121.1 (Int.tmod (wrap64 (a1)) bt121.2) (wrap64 (a2))).bind fun t123 => ((num_Add.f bt121.1 t123 (wrap64 (a3))).bind fun t124 => ((num_Add.f bt121.1 (Int.tmod (wrap64 (a1)) bt121.2) (wrap64 (a2))).bind fun t125 => ((num_Diff.f bt121.1 t125 (Int.tmod (wrap64 (a1)) bt121.2)).bind fun t126 => (if (wrap64 (a2)) > (wrap64 (-(wrap64 (Int.tdiv bt121.2 2)))) then (bowlinelaw01_NumRound.j0 k a2 a3 t120 bt121.1 bt121.2 (Int.tmod (wrap64 (a1)) bt121.2) t124 t126 (wrap64 (Int.tdiv bt121.2 2)) (decide ((wrap64 (a2)) ≤ (wrap64 (Int.tdiv bt121.2 2))))) else (bowlinelaw01_NumRound.j0 k a2 a3 t120 bt121.1 bt121.2 (Int.tmod (wrap64 (a1)) bt121.2) t124 t126 (wrap64 (Int.tdiv bt121.2 2)) false))))))))
theorem bowlinelaw01_NumRound.mono_l : ∀ k, (∀ y0 y1 y2 y3 y4 y5 y6 y7 y8 y9, LeO (bowlinelaw01_NumRound.j0 k y0 y1 y2 y3 y4 y5 y6 y7 y8 y9) (bowlinelaw01_NumRound.j0 (k + 1) y0 y1 y2 y3 y4 y5 y6 y7 y8 y9))
  | 0 => fun _ _ _ _ _ _ _ _ _ _ r h => by simp [bowlinelaw01_NumRound.j0] at h
  | k + 1 => by
    have ih0 := bowlinelaw01_NumRound.mono_l k
    · intro y0 y1 y2 y3 y4 y5 y6 y7 y8 y9
      unfold bowlinelaw01_NumRound.j0
      repeat' first
      | (with_reducible exact ih0 _ _ _ _ _ _ _ _ _ _)
      | (with_reducible exact LeO.refl _)
      | (with_reducible exact LeO.none _)
      | (with_reducible refine LeO.ite ?_ ?_)
      | (with_reducible refine LeO.bind ?_ (fun _ => ?_))
      | exact ih0 _ _ _ _ _ _ _ _ _ _
      | exact LeO.none _
      | refine LeO.ite ?_ ?_
      | refine LeO.bind ?_ (fun _ => ?_)
theorem bowlinelaw01_NumRound.mono : ∀ a0 a1 a2 a3 k, LeO (bowlinelaw01_NumRound.f k a0 a1 a2 a3) (bowlinelaw01_NumRound.f (k + 1) a0 a1 a2 a3) := by
  intro a0 a1 a2 a3 k
  have ih0 := bowlinelaw01_NumRound.mono_l k
  unfold bowlinelaw01_NumRound.f
  repeat' first
      | (with_reducible exact ih0 _ _ _ _ _ _ _ _ _ _)
      | (with_reducible exact LeO.refl _)
      | (with_reducible exact LeO.none _)
      | (with_reducible refine LeO.ite ?_ ?_)
      | (with_reducible refine LeO.bind ?_ (fun _ => ?_))
      | exact ih0 _ _ _ _ _ _ _ _ _ _
      | exact LeO.none _
      | refine LeO.ite ?_ ?_
      | refine LeO.bind ?_ (fun _ => ?_)
set_option maxHeartbeats 8000000 in
set_option maxRecDepth 100000 in
theorem bowlinelaw01_NumRound.calls (k : Nat) (a0 : Bool) (a1 : Int) (a2 : Int) (a3 : Int) (r : Bool) (hr : Aside0 (r = true)) (w : World) (h : bowlinelaw01_NumRound.f k a0 a1 a2 a3 = some r) :
    Calls Try.prog 4 #[.bool a0, .int .u32 a1, .int .i32 a2, .int .i32 a3] w fun e w' => e = .returned (.bool r) ∧ Below w.heap.size w w' := by
  have HB := Aside0.mk (Below.refl w.heap.size w)
  have H : ((bowlinelaw01_head.f).bind fun t120 => ((bowlinelaw01_size.f a0).bind fun bt121 => (if bt121.2 = 0 then (none) else ((num_Add.f bt121.1 (Int.tmod (wrap64 (a1)) bt121.2) (wrap64 (a2))).bind fun t123 => ((num_Add.f bt121.1 t123 (wrap64 (a3))).bind fun t124 => ((num_Add.f bt121.1 (Int.tmod (wrap64 (a1)) bt121.2) (wrap64 (a2))).bind fun t125 => ((num_Diff.f bt121.1 t125 (Int.tmod (wrap64 (a1)) bt121.2)).bind fun t126 => (if (wrap64 (a2)) > (wrap64 (-(wrap64 (Int.tdiv bt121.2 2)))) then (bowlinelaw01_NumRound.j0 k a2 a3 t120 bt121.1 bt121.2 (Int.tmod (wrap64 (a1)) bt121.2) t124 t126 (wrap64 (Int.tdiv bt121.2 2)) (decide ((wrap64 (a2)) ≤ (wrap64 (Int.tdiv bt121.2 2))))) else (bowlinelaw01_NumRound.j0 k a2 a3 t120 bt121.1 bt121.2 (Int.tmod (wrap64 (a1)) bt121.2) t124 t126 (wrap64 (Int.tdiv bt121.2 2)) false))))))))) = some r := h
  clear h
  replace H := Option.bind_eq_some_iff.mp H
  obtain ⟨t120, A50, H⟩ := H
  replace H : ((bowlinelaw01_size.f a0).bind fun bt121 => (if bt121.2 = 0 then (none) else ((num_Add.f bt121.1 (Int.tmod (wrap64 (a1)) bt121.2) (wrap64 (a2))).bind fun t123 => ((num_Add.f bt121.1 t123 (wrap64 (a3))).bind fun t124 => ((num_Add.f bt121.1 (Int.tmod (wrap64 (a1)) bt121.2) (wrap64 (a2))).bind fun t125 => ((num_Diff.f bt121.1 t125 (Int.tmod (wrap64 (a1)) bt121.2)).bind fun t126 => (if (wrap64 (a2)) > (wrap64 (-(wrap64 (Int.tdiv bt121.2 2)))) then (bowlinelaw01_NumRound.j0 k a2 a3 t120 bt121.1 bt121.2 (Int.tmod (wrap64 (a1)) bt121.2) t124 t126 (wrap64 (Int.tdiv bt121.2 2)) (decide ((wrap64 (a2)) ≤ (wrap64 (Int.tdiv bt121.2 2))))) else (bowlinelaw01_NumRound.j0 k a2 a3 t120 bt121.1 bt121.2 (Int.tmod (wrap64 (a1)) bt121.2) t124 t126 (wrap64 (Int.tdiv bt121.2 2)) false)))))))) = some r := H
  have A5 := Aside0.mk A50
  clear A50
  replace H := Option.bind_eq_some_iff.mp H
  obtain ⟨⟨t121, t122⟩, A60, H⟩ := H
  replace H : (if t122 = 0 then (none) else ((num_Add.f t121 (Int.tmod (wrap64 (a1)) t122) (wrap64 (a2))).bind fun t123 => ((num_Add.f t121 t123 (wrap64 (a3))).bind fun t124 => ((num_Add.f t121 (Int.tmod (wrap64 (a1)) t122) (wrap64 (a2))).bind fun t125 => ((num_Diff.f t121 t125 (Int.tmod (wrap64 (a1)) t122)).bind fun t126 => (if (wrap64 (a2)) > (wrap64 (-(wrap64 (Int.tdiv t122 2)))) then (bowlinelaw01_NumRound.j0 k a2 a3 t120 t121 t122 (Int.tmod (wrap64 (a1)) t122) t124 t126 (wrap64 (Int.tdiv t122 2)) (decide ((wrap64 (a2)) ≤ (wrap64 (Int.tdiv t122 2))))) else (bowlinelaw01_NumRound.j0 k a2 a3 t120 t121 t122 (Int.tmod (wrap64 (a1)) t122) t124 t126 (wrap64 (Int.tdiv t122 2)) false))))))) = some r := H
  have A6 := Aside0.mk A60
  clear A60
  by_cases c7 : t122 = 0
  · rw [if_pos c7] at H
    exact absurd H (by simp)
  · rw [if_neg c7] at H
    have c7b0 : (t122 == 0) = false := beq_eq_false_iff_ne.mpr c7
    have c7b1 : (t122 != 0) = true := bne_iff_ne.mpr c7
    replace H := Option.bind_eq_some_iff.mp H
    obtain ⟨t123, A80, H⟩ := H
    replace H : ((num_Add.f t121 t123 (wrap64 (a3))).bind fun t124 => ((num_Add.f t121 (Int.tmod (wrap64 (a1)) t122) (wrap64 (a2))).bind fun t125 => ((num_Diff.f t121 t125 (Int.tmod (wrap64 (a1)) t122)).bind fun t126 => (if (wrap64 (a2)) > (wrap64 (-(wrap64 (Int.tdiv t122 2)))) then (bowlinelaw01_NumRound.j0 k a2 a3 t120 t121 t122 (Int.tmod (wrap64 (a1)) t122) t124 t126 (wrap64 (Int.tdiv t122 2)) (decide ((wrap64 (a2)) ≤ (wrap64 (Int.tdiv t122 2))))) else (bowlinelaw01_NumRound.j0 k a2 a3 t120 t121 t122 (Int.tmod (wrap64 (a1)) t122) t124 t126 (wrap64 (Int.tdiv t122 2)) false))))) = some r := H
    have A8 := Aside0.mk A80
    clear A80
    replace H := Option.bind_eq_some_iff.mp H
    obtain ⟨t124, A90, H⟩ := H
    replace H : ((num_Add.f t121 (Int.tmod (wrap64 (a1)) t122) (wrap64 (a2))).bind fun t125 => ((num_Diff.f t121 t125 (Int.tmod (wrap64 (a1)) t122)).bind fun t126 => (if (wrap64 (a2)) > (wrap64 (-(wrap64 (Int.tdiv t122 2)))) then (bowlinelaw01_NumRound.j0 k a2 a3 t120 t121 t122 (Int.tmod (wrap64 (a1)) t122) t124 t126 (wrap64 (Int.tdiv t122 2)) (decide ((wrap64 (a2)) ≤ (wrap64 (Int.tdiv t122 2))))) else (bowlinelaw01_NumRound.j0 k a2 a3 t120 t121 t122 (Int.tmod (wrap64 (a1)) t122) t124 t126 (wrap64 (Int.tdiv t122 2)) false)))) = some r := H
    have A9 := Aside0.mk A90
    clear A90
    replace H := Option.bind_eq_some_iff.mp H
    obtain ⟨t125, A100, H⟩ := H
    replace H : ((num_Diff.f t121 t125 (Int.tmod (wrap64 (a1)) t122)).bind fun t126 => (if (wrap64 (a2)) > (wrap64 (-(wrap64 (Int.tdiv t122 2)))) then (bowlinelaw01_NumRound.j0 k a2 a3 t120 t121 t122 (Int.tmod (wrap64 (a1)) t122) t124 t126 (wrap64 (Int.tdiv t122 2)) (decide ((wrap64 (a2)) ≤ (wrap64 (Int.tdiv t122 2))))) else (bowlinelaw01_NumRound.j0 k a2 a3 t120 t121 t122 (Int.tmod (wrap64 (a1)) t122) t124 t126 (wrap64 (Int.tdiv t122 2)) false))) = some r := H
    have A10 := Aside0.mk A100
    clear A100
    replace H := Option.bind_eq_some_iff.mp H
    obtain ⟨t126, A110, H⟩ := H
    replace H : (if (wrap64 (a2)) > (wrap64 (-(wrap64 (Int.tdiv t122 2)))) then (bowlinelaw01_NumRound.j0 k a2 a3 t120 t121 t122 (Int.tmod (wrap64 (a1)) t122) t124 t126 (wrap64 (Int.tdiv t122 2)) (decide ((wrap64 (a2)) ≤ (wrap64 (Int.tdiv t122 2))))) else (bowlinelaw01_NumRound.j0 k a2 a3 t120 t121 t122 (Int.tmod (wrap64 (a1)) t122) t124 t126 (wrap64 (Int.tdiv t122 2)) false)) = some r := H
    have A11 := Aside0.mk A110
    clear A110
    have HC12 := Aside0.mk H
    clear H
    go_enter Try.func4, Try.ntmps4
    go_upto_region 7 with (first | ((with_reducible refine gate_callee (f := 9) rfl ?_); refine goesL_ (some 17) rfl rfl Try.func9 (by kernel_rfl) rfl #[] rfl (by (try simp only [List.map_toArray, List.map_cons, List.map_nil]); first | done | rfl | (simp only [List.length_drop, List.length_take]; rfl)) ?_; (with_reducible refine (bowlinelaw01_head.calls  t120 _ A5.out).mono ?_); rintro e w13 ⟨rfl, hb⟩; refine ⟨_, rfl, ?_⟩; have n0_ := Aside0.mk (below_step (by repeat (first | (with_reducible first | exact HB.out | apply below_alloc | apply pw_below_drewN | apply below_drew1) | exact HB.out)) hb); clear HB; have HB := n0_; clear n0_; (try clear hb); (try clear hb2); (try clear hk); (try clear hi)) | ((with_reducible refine gate_callee (f := 18) rfl ?_); refine goesL_ (some 20) rfl rfl Try.func18 (by kernel_rfl) rfl #[.bool a0] rfl (by (try simp only [List.map_toArray, List.map_cons, List.map_nil]); first | done | rfl | (simp only [List.length_drop, List.length_take]; rfl)) ?_; (with_reducible refine (bowlinelaw01_size.calls a0 t121 t122 _ A6.out).mono ?_); rintro e w' ⟨rfl, ⟨nd, rfl⟩⟩; refine ⟨_, rfl, ?_⟩) | ((with_reducible refine gate_callee (f := 12) rfl ?_); refine goesL_ (some 32) rfl rfl Try.func12 (by kernel_rfl) rfl #[.int .i64 t121, .int .i64 (Int.tmod (wrap64 (a1)) t122), .int .i64 (wrap64 (a2))] rfl (by (try simp only [List.map_toArray, List.map_cons, List.map_nil]); first | done | rfl | (simp only [List.length_drop, List.length_take]; rfl)) ?_; (with_reducible refine (num_Add.calls t121 (Int.tmod (wrap64 (a1)) t122) (wrap64 (a2)) t123 _ A8.out).mono ?_); rintro e w14 ⟨rfl, hb⟩; refine ⟨_, rfl, ?_⟩; have n0_ := Aside0.mk (below_step (by repeat (first | (with_reducible first | exact HB.out | apply below_alloc | apply pw_below_drewN | apply below_drew1) | exact HB.out)) hb); clear HB; have HB := n0_; clear n0_; (try clear hb); (try clear hb2); (try clear hk); (try clear hi)) | ((with_reducible refine gate_callee (f := 12) rfl ?_); refine goesL_ (some 35) rfl rfl Try.func12 (by kernel_rfl) rfl #[.int .i64 t121, .int .i64 t123, .int .i64 (wrap64 (a3))] rfl (by (try simp only [List.map_toArray, List.map_cons, List.map_nil]); first | done | rfl | (simp only [List.length_drop, List.length_take]; rfl)) ?_; (with_reducible refine (num_Add.calls t121 t123 (wrap64 (a3)) t124 _ A9.out).mono ?_); rintro e w15 ⟨rfl, hb⟩; refine ⟨_, rfl, ?_⟩; have n0_ := Aside0.mk (below_step (by repeat (first | (with_reducible first | exact HB.out | apply below_alloc | apply pw_below_drewN | apply below_drew1) | exact HB.out)) hb); clear HB; have HB := n0_; clear n0_; (try clear hb); (try clear hb2); (try clear hk); (try clear hi)) | ((with_reducible refine gate_callee (f := 12) rfl ?_); refine goesL_ (some 41) rfl rfl Try.func12 (by kernel_rfl) rfl #[.int .i64 t121, .int .i64 (Int.tmod (wrap64 (a1)) t122), .int .i64 (wrap64 (a2))] rfl (by (try simp only [List.map_toArray, List.map_cons, List.map_nil]); first | done | rfl | (simp only [List.length_drop, List.length_take]; rfl)) ?_; (with_reducible refine (num_Add.calls t121 (Int.tmod (wrap64 (a1)) t122) (wrap64 (a2)) t125 _ A10.out).mono ?_); rintro e w16 ⟨rfl, hb⟩; refine ⟨_, rfl, ?_⟩; have n0_ := Aside0.mk (below_step (by repeat (first | (with_reducible first | exact HB.out | apply below_alloc | apply pw_below_drewN | apply below_drew1) | exact HB.out)) hb); clear HB; have HB := n0_; clear n0_; (try clear hb); (try clear hb2); (try clear hk); (try clear hi)) | ((with_reducible refine gate_callee (f := 14) rfl ?_); refine goesL_ (some 43) rfl rfl Try.func14 (by kernel_rfl) rfl #[.int .i64 t121, .int .i64 t125, .int .i64 (Int.tmod (wrap64 (a1)) t122)] rfl (by (try simp only [List.map_toArray, List.map_cons, List.map_nil]); first | done | rfl | (simp only [List.length_drop, List.length_take]; rfl)) ?_; (with_reducible refine (num_Diff.calls t121 t125 (Int.tmod (wrap64 (a1)) t122) t126 _ A11.out).mono ?_); rintro e w17 ⟨rfl, hb⟩; refine ⟨_, rfl, ?_⟩; have n0_ := Aside0.mk (below_step (by repeat (first | (with_reducible first | exact HB.out | apply below_alloc | apply pw_below_drewN | apply below_drew1) | exact HB.out)) hb); clear HB; have HB := n0_; clear n0_; (try clear hb); (try clear hb2); (try clear hk); (try clear hi)))
    (try simp only [Act.put, List.setIfInBounds_toArray, List.set_cons_zero, List.set_cons_succ])
    go_cut [16] (fun v16 wc => ∃ (kq : Nat) (x16_11 : Bool), v16 = .bool x16_11 ∧ Aside0 (bowlinelaw01_NumRound.j0 kq a2 a3 t120 t121 t122 (Int.tmod (wrap64 (a1)) t122) t124 t126 (wrap64 (Int.tdiv t122 2)) x16_11 = some r) ∧ Aside0 (kq ≤ k) ∧ Aside0 (Below w.heap.size w wc))
    case first =>
      have H := HC12.out
      clear HC12
      by_cases c18 : (wrap64 (a2)) > (wrap64 (-(wrap64 (Int.tdiv t122 2))))
      · rw [if_pos c18] at H
        have c18b0 : decide ((wrap64 (-(wrap64 (Int.tdiv t122 2)))) < (wrap64 (a2))) = true := decide_eq_true c18
        clear c18
        (first | rw [c18b0] | (simp only [i64_w, i32_w]; rw [c18b0]) | skip)
        have H' := Aside0.mk H
        clear H
        go_wp2
        go_meet
        case rel => exact ⟨_, (decide ((wrap64 (a2)) ≤ (wrap64 (Int.tdiv t122 2)))), (by first | rfl | (simp; done) | (simp [*]; done)), H', ⟨by first | omega | exact Nat.le_refl _⟩, ⟨by repeat (first | (with_reducible first | exact HB.out | apply below_alloc | apply pw_below_drewN | apply below_drew1) | exact HB.out)⟩⟩
      · rw [if_neg c18] at H
        have c18b0 : decide ((wrap64 (-(wrap64 (Int.tdiv t122 2)))) < (wrap64 (a2))) = false := decide_eq_false c18
        clear c18
        (first | rw [c18b0] | (simp only [i64_w, i32_w]; rw [c18b0]) | skip)
        have H' := Aside0.mk H
        clear H
        go_wp2
        go_meet
        case rel => exact ⟨_, (false), (by first | rfl | (simp; done) | (simp [*]; done)), H', ⟨by first | omega | exact Nat.le_refl _⟩, ⟨by repeat (first | (with_reducible first | exact HB.out | apply below_alloc | apply pw_below_drewN | apply below_drew1) | exact HB.out)⟩⟩
    case rest =>
      clear HC12
      try clear c1
      try clear p2
      try clear c4
      try clear p6
      try clear c7
      try clear c7b0
      try clear c7b1
      try clear c9
      try clear c12
      try clear c14
      try clear c18
      try clear c18b0
      obtain ⟨kq, x16_11, rfl, HA, HJ11, HB⟩ := hcut
      cases kq with
      | zero => exact absurd HA.out (by simp [bowlinelaw01_NumRound.j0])
      | succ kj11 =>
        have H := HA.out
        clear HA
        simp only [bowlinelaw01_NumRound.j0] at H
        by_cases c19 : t120 = true
        · subst c19
          have H1 : ((num_Right.f t121 (Int.tmod (wrap64 (a1)) t122)).bind fun t127 => (if t127 = true then ((num_Add.f t121 (Int.tmod (wrap64 (a1)) t122) (wrap64 ((wrap64 (a2)) + (wrap64 (a3))))).bind fun t128 => (if t124 = t128 then ((num_Add.f t121 (Int.tmod (wrap64 (a1)) t122) t122).bind fun t129 => (if t129 = (Int.tmod (wrap64 (a1)) t122) then ((num_Add.f t121 (Int.tmod (wrap64 (a1)) t122) 0).bind fun t130 => (if t130 = (Int.tmod (wrap64 (a1)) t122) then (if x16_11 = true then (if t126 = (wrap64 (a2)) then (if t126 > (wrap64 (-(wrap64 (Int.tdiv t122 2)))) then (if t126 ≤ (wrap64 (Int.tdiv t122 2)) then ((num_Add.f t121 (Int.tmod (wrap64 (a1)) t122) t126).bind fun t131 => ((num_Add.f t121 (Int.tmod (wrap64 (a1)) t122) (wrap64 (a2))).bind fun t132 => (some (t131 == t132)))) else (some false)) else (some false)) else (some false)) else (if t126 > (wrap64 (-(wrap64 (Int.tdiv t122 2)))) then (if t126 ≤ (wrap64 (Int.tdiv t122 2)) then ((num_Add.f t121 (Int.tmod (wrap64 (a1)) t122) t126).bind fun t133 => ((num_Add.f t121 (Int.tmod (wrap64 (a1)) t122) (wrap64 (a2))).bind fun t134 => (some (t133 == t134)))) else (some false)) else (some false))) else (some false))) else (some false))) else (some false))) else (some false))) = some r := by rw [if_pos rfl] at H; exact H
          clear H
          have H := H1
          clear H1
          replace H := Option.bind_eq_some_iff.mp H
          obtain ⟨t127, A200, H⟩ := H
          replace H : (if t127 = true then ((num_Add.f t121 (Int.tmod (wrap64 (a1)) t122) (wrap64 ((wrap64 (a2)) + (wrap64 (a3))))).bind fun t128 => (if t124 = t128 then ((num_Add.f t121 (Int.tmod (wrap64 (a1)) t122) t122).bind fun t129 => (if t129 = (Int.tmod (wrap64 (a1)) t122) then ((num_Add.f t121 (Int.tmod (wrap64 (a1)) t122) 0).bind fun t130 => (if t130 = (Int.tmod (wrap64 (a1)) t122) then (if x16_11 = true then (if t126 = (wrap64 (a2)) then (if t126 > (wrap64 (-(wrap64 (Int.tdiv t122 2)))) then (if t126 ≤ (wrap64 (Int.tdiv t122 2)) then ((num_Add.f t121 (Int.tmod (wrap64 (a1)) t122) t126).bind fun t131 => ((num_Add.f t121 (Int.tmod (wrap64 (a1)) t122) (wrap64 (a2))).bind fun t132 => (some (t131 == t132)))) else (some false)) else (some false)) else (some false)) else (if t126 > (wrap64 (-(wrap64 (Int.tdiv t122 2)))) then (if t126 ≤ (wrap64 (Int.tdiv t122 2)) then ((num_Add.f t121 (Int.tmod (wrap64 (a1)) t122) t126).bind fun t133 => ((num_Add.f t121 (Int.tmod (wrap64 (a1)) t122) (wrap64 (a2))).bind fun t134 => (some (t133 == t134)))) else (some false)) else (some false))) else (some false))) else (some false))) else (some false))) else (some false)) = some r := H
          have A20 := Aside0.mk A200
          clear A200
          by_cases c21 : t127 = true
          · subst c21
            have H1 : ((num_Add.f t121 (Int.tmod (wrap64 (a1)) t122) (wrap64 ((wrap64 (a2)) + (wrap64 (a3))))).bind fun t128 => (if t124 = t128 then ((num_Add.f t121 (Int.tmod (wrap64 (a1)) t122) t122).bind fun t129 => (if t129 = (Int.tmod (wrap64 (a1)) t122) then ((num_Add.f t121 (Int.tmod (wrap64 (a1)) t122) 0).bind fun t130 => (if t130 = (Int.tmod (wrap64 (a1)) t122) then (if x16_11 = true then (if t126 = (wrap64 (a2)) then (if t126 > (wrap64 (-(wrap64 (Int.tdiv t122 2)))) then (if t126 ≤ (wrap64 (Int.tdiv t122 2)) then ((num_Add.f t121 (Int.tmod (wrap64 (a1)) t122) t126).bind fun t131 => ((num_Add.f t121 (Int.tmod (wrap64 (a1)) t122) (wrap64 (a2))).bind fun t132 => (some (t131 == t132)))) else (some false)) else (some false)) else (some false)) else (if t126 > (wrap64 (-(wrap64 (Int.tdiv t122 2)))) then (if t126 ≤ (wrap64 (Int.tdiv t122 2)) then ((num_Add.f t121 (Int.tmod (wrap64 (a1)) t122) t126).bind fun t133 => ((num_Add.f t121 (Int.tmod (wrap64 (a1)) t122) (wrap64 (a2))).bind fun t134 => (some (t133 == t134)))) else (some false)) else (some false))) else (some false))) else (some false))) else (some false))) = some r := by rw [if_pos rfl] at H; exact H
            clear H
            have H := H1
            clear H1
            replace H := Option.bind_eq_some_iff.mp H
            obtain ⟨t128, A220, H⟩ := H
            replace H : (if t124 = t128 then ((num_Add.f t121 (Int.tmod (wrap64 (a1)) t122) t122).bind fun t129 => (if t129 = (Int.tmod (wrap64 (a1)) t122) then ((num_Add.f t121 (Int.tmod (wrap64 (a1)) t122) 0).bind fun t130 => (if t130 = (Int.tmod (wrap64 (a1)) t122) then (if x16_11 = true then (if t126 = (wrap64 (a2)) then (if t126 > (wrap64 (-(wrap64 (Int.tdiv t122 2)))) then (if t126 ≤ (wrap64 (Int.tdiv t122 2)) then ((num_Add.f t121 (Int.tmod (wrap64 (a1)) t122) t126).bind fun t131 => ((num_Add.f t121 (Int.tmod (wrap64 (a1)) t122) (wrap64 (a2))).bind fun t132 => (some (t131 == t132)))) else (some false)) else (some false)) else (some false)) else (if t126 > (wrap64 (-(wrap64 (Int.tdiv t122 2)))) then (if t126 ≤ (wrap64 (Int.tdiv t122 2)) then ((num_Add.f t121 (Int.tmod (wrap64 (a1)) t122) t126).bind fun t133 => ((num_Add.f t121 (Int.tmod (wrap64 (a1)) t122) (wrap64 (a2))).bind fun t134 => (some (t133 == t134)))) else (some false)) else (some false))) else (some false))) else (some false))) else (some false)) = some r := H
            have A22 := Aside0.mk A220
            clear A220
            by_cases c23 : t124 = t128
            · rw [if_pos c23] at H
              have c23b0 : (t124 == t128) = true := beq_iff_eq.mpr c23
              have c23b1 : (t124 != t128) = false := bne_eq_false_iff_eq.mpr c23
              clear c23
              replace H := Option.bind_eq_some_iff.mp H
              obtain ⟨t129, A240, H⟩ := H
              replace H : (if t129 = (Int.tmod (wrap64 (a1)) t122) then ((num_Add.f t121 (Int.tmod (wrap64 (a1)) t122) 0).bind fun t130 => (if t130 = (Int.tmod (wrap64 (a1)) t122) then (if x16_11 = true then (if t126 = (wrap64 (a2)) then (if t126 > (wrap64 (-(wrap64 (Int.tdiv t122 2)))) then (if t126 ≤ (wrap64 (Int.tdiv t122 2)) then ((num_Add.f t121 (Int.tmod (wrap64 (a1)) t122) t126).bind fun t131 => ((num_Add.f t121 (Int.tmod (wrap64 (a1)) t122) (wrap64 (a2))).bind fun t132 => (some (t131 == t132)))) else (some false)) else (some false)) else (some false)) else (if t126 > (wrap64 (-(wrap64 (Int.tdiv t122 2)))) then (if t126 ≤ (wrap64 (Int.tdiv t122 2)) then ((num_Add.f t121 (Int.tmod (wrap64 (a1)) t122) t126).bind fun t133 => ((num_Add.f t121 (Int.tmod (wrap64 (a1)) t122) (wrap64 (a2))).bind fun t134 => (some (t133 == t134)))) else (some false)) else (some false))) else (some false))) else (some false)) = some r := H
              have A24 := Aside0.mk A240
              clear A240
              by_cases c25 : t129 = (Int.tmod (wrap64 (a1)) t122)
              · rw [if_pos c25] at H
                have c25b0 : (t129 == (Int.tmod (wrap64 (a1)) t122)) = true := beq_iff_eq.mpr c25
                have c25b1 : (t129 != (Int.tmod (wrap64 (a1)) t122)) = false := bne_eq_false_iff_eq.mpr c25
                clear c25
                replace H := Option.bind_eq_some_iff.mp H
                obtain ⟨t130, A260, H⟩ := H
                replace H : (if t130 = (Int.tmod (wrap64 (a1)) t122) then (if x16_11 = true then (if t126 = (wrap64 (a2)) then (if t126 > (wrap64 (-(wrap64 (Int.tdiv t122 2)))) then (if t126 ≤ (wrap64 (Int.tdiv t122 2)) then ((num_Add.f t121 (Int.tmod (wrap64 (a1)) t122) t126).bind fun t131 => ((num_Add.f t121 (Int.tmod (wrap64 (a1)) t122) (wrap64 (a2))).bind fun t132 => (some (t131 == t132)))) else (some false)) else (some false)) else (some false)) else (if t126 > (wrap64 (-(wrap64 (Int.tdiv t122 2)))) then (if t126 ≤ (wrap64 (Int.tdiv t122 2)) then ((num_Add.f t121 (Int.tmod (wrap64 (a1)) t122) t126).bind fun t133 => ((num_Add.f t121 (Int.tmod (wrap64 (a1)) t122) (wrap64 (a2))).bind fun t134 => (some (t133 == t134)))) else (some false)) else (some false))) else (some false)) = some r := H
                have A26 := Aside0.mk A260
                clear A260
                by_cases c27 : t130 = (Int.tmod (wrap64 (a1)) t122)
                · rw [if_pos c27] at H
                  have c27b0 : (t130 == (Int.tmod (wrap64 (a1)) t122)) = true := beq_iff_eq.mpr c27
                  have c27b1 : (t130 != (Int.tmod (wrap64 (a1)) t122)) = false := bne_eq_false_iff_eq.mpr c27
                  clear c27
                  by_cases c28 : x16_11 = true
                  · subst c28
                    have H1 : (if t126 = (wrap64 (a2)) then (if t126 > (wrap64 (-(wrap64 (Int.tdiv t122 2)))) then (if t126 ≤ (wrap64 (Int.tdiv t122 2)) then ((num_Add.f t121 (Int.tmod (wrap64 (a1)) t122) t126).bind fun t131 => ((num_Add.f t121 (Int.tmod (wrap64 (a1)) t122) (wrap64 (a2))).bind fun t132 => (some (t131 == t132)))) else (some false)) else (some false)) else (some false)) = some r := by rw [if_pos rfl] at H; exact H
                    clear H
                    have H := H1
                    clear H1
                    by_cases c29 : t126 = (wrap64 (a2))
                    · rw [if_pos c29] at H
                      have c29b0 : (t126 == (wrap64 (a2))) = true := beq_iff_eq.mpr c29
                      have c29b1 : (t126 != (wrap64 (a2))) = false := bne_eq_false_iff_eq.mpr c29
                      clear c29
                      by_cases c30 : t126 > (wrap64 (-(wrap64 (Int.tdiv t122 2))))
                      · rw [if_pos c30] at H
                        have c30b0 : decide ((wrap64 (-(wrap64 (Int.tdiv t122 2)))) < t126) = true := decide_eq_true c30
                        clear c30
                        by_cases c31 : t126 ≤ (wrap64 (Int.tdiv t122 2))
                        · rw [if_pos c31] at H
                          have c31b0 : decide (t126 ≤ (wrap64 (Int.tdiv t122 2))) = true := decide_eq_true c31
                          clear c31
                          replace H := Option.bind_eq_some_iff.mp H
                          obtain ⟨t131, A320, H⟩ := H
                          replace H : ((num_Add.f t121 (Int.tmod (wrap64 (a1)) t122) (wrap64 (a2))).bind fun t132 => (some (t131 == t132))) = some r := H
                          have A32 := Aside0.mk A320
                          clear A320
                          replace H := Option.bind_eq_some_iff.mp H
                          obtain ⟨t132, A330, H⟩ := H
                          replace H : (some (t131 == t132)) = some r := H
                          have A33 := Aside0.mk A330
                          clear A330
                          first
                            | exact absurd ((Option.some.inj H).trans hr.out) (by decide)
                            | (obtain rfl := Option.some.inj H
                               go_wp2_with (first | (go_at_call 10; (with_reducible refine (num_Right.calls t121 (Int.tmod (wrap64 (a1)) t122) true _ A20.out).mono ?_); rintro e w' ⟨rfl, ⟨nd, rfl⟩⟩) | (go_at_call 12; (with_reducible refine (num_Add.calls t121 (Int.tmod (wrap64 (a1)) t122) (wrap64 ((wrap64 (a2)) + (wrap64 (a3)))) t128 _ A22.out).mono ?_); rintro e w34 ⟨rfl, hb⟩; have n0_ := Aside0.mk (below_step (by repeat (first | (with_reducible first | exact HB.out | apply below_alloc | apply pw_below_drewN | apply below_drew1) | exact HB.out)) hb); clear HB; have HB := n0_; clear n0_; (try clear hb); (try clear hb2); (try clear hk); (try clear hi)) | (go_at_call 12; (with_reducible refine (num_Add.calls t121 (Int.tmod (wrap64 (a1)) t122) t122 t129 _ A24.out).mono ?_); rintro e w35 ⟨rfl, hb⟩; have n0_ := Aside0.mk (below_step (by repeat (first | (with_reducible first | exact HB.out | apply below_alloc | apply pw_below_drewN | apply below_drew1) | exact HB.out)) hb); clear HB; have HB := n0_; clear n0_; (try clear hb); (try clear hb2); (try clear hk); (try clear hi)) | (go_at_call 12; (with_reducible refine (num_Add.calls t121 (Int.tmod (wrap64 (a1)) t122) 0 t130 _ A26.out).mono ?_); rintro e w36 ⟨rfl, hb⟩; have n0_ := Aside0.mk (below_step (by repeat (first | (with_reducible first | exact HB.out | apply below_alloc | apply pw_below_drewN | apply below_drew1) | exact HB.out)) hb); clear HB; have HB := n0_; clear n0_; (try clear hb); (try clear hb2); (try clear hk); (try clear hi)) | (go_at_call 12; (with_reducible refine (num_Add.calls t121 (Int.tmod (wrap64 (a1)) t122) t126 t131 _ A32.out).mono ?_); rintro e w37 ⟨rfl, hb⟩; have n0_ := Aside0.mk (below_step (by repeat (first | (with_reducible first | exact HB.out | apply below_alloc | apply pw_below_drewN | apply below_drew1) | exact HB.out)) hb); clear HB; have HB := n0_; clear n0_; (try clear hb); (try clear hb2); (try clear hk); (try clear hi)) | (go_at_call 12; (with_reducible refine (num_Add.calls t121 (Int.tmod (wrap64 (a1)) t122) (wrap64 (a2)) t132 _ A33.out).mono ?_); rintro e w38 ⟨rfl, hb⟩; have n0_ := Aside0.mk (below_step (by repeat (first | (with_reducible first | exact HB.out | apply below_alloc | apply pw_below_drewN | apply below_drew1) | exact HB.out)) hb); clear HB; have HB := n0_; clear n0_; (try clear hb); (try clear hb2); (try clear hk); (try clear hi)))
                               go_ret
                               exact ⟨by first | rfl | (simp [errW_none, errW_some] <;> rfl) | (simp [*, errW_none, errW_some] <;> rfl), by repeat (first | (with_reducible first | exact HB.out | apply below_alloc | apply pw_below_drewN | apply below_drew1) | exact HB.out)⟩)
                        · rw [if_neg c31] at H
                          have c31b0 : decide (t126 ≤ (wrap64 (Int.tdiv t122 2))) = false := decide_eq_false c31
                          clear c31
                          first
                            | exact absurd ((Option.some.inj H).trans hr.out) (by decide)
                            | (obtain rfl := Option.some.inj H
                               go_wp2_with (first | (go_at_call 10; (with_reducible refine (num_Right.calls t121 (Int.tmod (wrap64 (a1)) t122) true _ A20.out).mono ?_); rintro e w' ⟨rfl, ⟨nd, rfl⟩⟩) | (go_at_call 12; (with_reducible refine (num_Add.calls t121 (Int.tmod (wrap64 (a1)) t122) (wrap64 ((wrap64 (a2)) + (wrap64 (a3)))) t128 _ A22.out).mono ?_); rintro e w39 ⟨rfl, hb⟩; have n0_ := Aside0.mk (below_step (by repeat (first | (with_reducible first | exact HB.out | apply below_alloc | apply pw_below_drewN | apply below_drew1) | exact HB.out)) hb); clear HB; have HB := n0_; clear n0_; (try clear hb); (try clear hb2); (try clear hk); (try clear hi)) | (go_at_call 12; (with_reducible refine (num_Add.calls t121 (Int.tmod (wrap64 (a1)) t122) t122 t129 _ A24.out).mono ?_); rintro e w40 ⟨rfl, hb⟩; have n0_ := Aside0.mk (below_step (by repeat (first | (with_reducible first | exact HB.out | apply below_alloc | apply pw_below_drewN | apply below_drew1) | exact HB.out)) hb); clear HB; have HB := n0_; clear n0_; (try clear hb); (try clear hb2); (try clear hk); (try clear hi)) | (go_at_call 12; (with_reducible refine (num_Add.calls t121 (Int.tmod (wrap64 (a1)) t122) 0 t130 _ A26.out).mono ?_); rintro e w41 ⟨rfl, hb⟩; have n0_ := Aside0.mk (below_step (by repeat (first | (with_reducible first | exact HB.out | apply below_alloc | apply pw_below_drewN | apply below_drew1) | exact HB.out)) hb); clear HB; have HB := n0_; clear n0_; (try clear hb); (try clear hb2); (try clear hk); (try clear hi)))
                               go_ret
                               exact ⟨by first | rfl | (simp [errW_none, errW_some] <;> rfl) | (simp [*, errW_none, errW_some] <;> rfl), by repeat (first | (with_reducible first | exact HB.out | apply below_alloc | apply pw_below_drewN | apply below_drew1) | exact HB.out)⟩)
                      · rw [if_neg c30] at H
                        have c30b0 : decide ((wrap64 (-(wrap64 (Int.tdiv t122 2)))) < t126) = false := decide_eq_false c30
                        clear c30
                        first
                          | exact absurd ((Option.some.inj H).trans hr.out) (by decide)
                          | (obtain rfl := Option.some.inj H
                             go_wp2_with (first | (go_at_call 10; (with_reducible refine (num_Right.calls t121 (Int.tmod (wrap64 (a1)) t122) true _ A20.out).mono ?_); rintro e w' ⟨rfl, ⟨nd, rfl⟩⟩) | (go_at_call 12; (with_reducible refine (num_Add.calls t121 (Int.tmod (wrap64 (a1)) t122) (wrap64 ((wrap64 (a2)) + (wrap64 (a3)))) t128 _ A22.out).mono ?_); rintro e w42 ⟨rfl, hb⟩; have n0_ := Aside0.mk (below_step (by repeat (first | (with_reducible first | exact HB.out | apply below_alloc | apply pw_below_drewN | apply below_drew1) | exact HB.out)) hb); clear HB; have HB := n0_; clear n0_; (try clear hb); (try clear hb2); (try clear hk); (try clear hi)) | (go_at_call 12; (with_reducible refine (num_Add.calls t121 (Int.tmod (wrap64 (a1)) t122) t122 t129 _ A24.out).mono ?_); rintro e w43 ⟨rfl, hb⟩; have n0_ := Aside0.mk (below_step (by repeat (first | (with_reducible first | exact HB.out | apply below_alloc | apply pw_below_drewN | apply below_drew1) | exact HB.out)) hb); clear HB; have HB := n0_; clear n0_; (try clear hb); (try clear hb2); (try clear hk); (try clear hi)) | (go_at_call 12; (with_reducible refine (num_Add.calls t121 (Int.tmod (wrap64 (a1)) t122) 0 t130 _ A26.out).mono ?_); rintro e w44 ⟨rfl, hb⟩; have n0_ := Aside0.mk (below_step (by repeat (first | (with_reducible first | exact HB.out | apply below_alloc | apply pw_below_drewN | apply below_drew1) | exact HB.out)) hb); clear HB; have HB := n0_; clear n0_; (try clear hb); (try clear hb2); (try clear hk); (try clear hi)))
                             go_ret
                             exact ⟨by first | rfl | (simp [errW_none, errW_some] <;> rfl) | (simp [*, errW_none, errW_some] <;> rfl), by repeat (first | (with_reducible first | exact HB.out | apply below_alloc | apply pw_below_drewN | apply below_drew1) | exact HB.out)⟩)
                    · rw [if_neg c29] at H
                      have c29b0 : (t126 == (wrap64 (a2))) = false := beq_eq_false_iff_ne.mpr c29
                      have c29b1 : (t126 != (wrap64 (a2))) = true := bne_iff_ne.mpr c29
                      first
                        | exact absurd ((Option.some.inj H).trans hr.out) (by decide)
                        | (obtain rfl := Option.some.inj H
                           go_wp2_with (first | (go_at_call 10; (with_reducible refine (num_Right.calls t121 (Int.tmod (wrap64 (a1)) t122) true _ A20.out).mono ?_); rintro e w' ⟨rfl, ⟨nd, rfl⟩⟩) | (go_at_call 12; (with_reducible refine (num_Add.calls t121 (Int.tmod (wrap64 (a1)) t122) (wrap64 ((wrap64 (a2)) + (wrap64 (a3)))) t128 _ A22.out).mono ?_); rintro e w45 ⟨rfl, hb⟩; have n0_ := Aside0.mk (below_step (by repeat (first | (with_reducible first | exact HB.out | apply below_alloc | apply pw_below_drewN | apply below_drew1) | exact HB.out)) hb); clear HB; have HB := n0_; clear n0_; (try clear hb); (try clear hb2); (try clear hk); (try clear hi)) | (go_at_call 12; (with_reducible refine (num_Add.calls t121 (Int.tmod (wrap64 (a1)) t122) t122 t129 _ A24.out).mono ?_); rintro e w46 ⟨rfl, hb⟩; have n0_ := Aside0.mk (below_step (by repeat (first | (with_reducible first | exact HB.out | apply below_alloc | apply pw_below_drewN | apply below_drew1) | exact HB.out)) hb); clear HB; have HB := n0_; clear n0_; (try clear hb); (try clear hb2); (try clear hk); (try clear hi)) | (go_at_call 12; (with_reducible refine (num_Add.calls t121 (Int.tmod (wrap64 (a1)) t122) 0 t130 _ A26.out).mono ?_); rintro e w47 ⟨rfl, hb⟩; have n0_ := Aside0.mk (below_step (by repeat (first | (with_reducible first | exact HB.out | apply below_alloc | apply pw_below_drewN | apply below_drew1) | exact HB.out)) hb); clear HB; have HB := n0_; clear n0_; (try clear hb); (try clear hb2); (try clear hk); (try clear hi)))
                           go_ret
                           exact ⟨by first | rfl | (simp [errW_none, errW_some] <;> rfl) | (simp [*, errW_none, errW_some] <;> rfl), by repeat (first | (with_reducible first | exact HB.out | apply below_alloc | apply pw_below_drewN | apply below_drew1) | exact HB.out)⟩)
                  · replace c28 := Bool.eq_false_iff.mpr c28
                    subst c28
                    have H1 : (if t126 > (wrap64 (-(wrap64 (Int.tdiv t122 2)))) then (if t126 ≤ (wrap64 (Int.tdiv t122 2)) then ((num_Add.f t121 (Int.tmod (wrap64 (a1)) t122) t126).bind fun t133 => ((num_Add.f t121 (Int.tmod (wrap64 (a1)) t122) (wrap64 (a2))).bind fun t134 => (some (t133 == t134)))) else (some false)) else (some false)) = some r := by rw [if_neg (show ¬ (false = true) by decide)] at H; exact H
                    clear H
                    have H := H1
                    clear H1
                    by_cases c48 : t126 > (wrap64 (-(wrap64 (Int.tdiv t122 2))))
                    · rw [if_pos c48] at H
                      have c48b0 : decide ((wrap64 (-(wrap64 (Int.tdiv t122 2)))) < t126) = true := decide_eq_true c48
                      clear c48
                      by_cases c49 : t126 ≤ (wrap64 (Int.tdiv t122 2))
                      · rw [if_pos c49] at H
                        have c49b0 : decide (t126 ≤ (wrap64 (Int.tdiv t122 2))) = true := decide_eq_true c49
                        clear c49
                        replace H := Option.bind_eq_some_iff.mp H
                        obtain ⟨t133, A500, H⟩ := H
                        replace H : ((num_Add.f t121 (Int.tmod (wrap64 (a1)) t122) (wrap64 (a2))).bind fun t134 => (some (t133 == t134))) = some r := H
                        have A50 := Aside0.mk A500
                        clear A500
                        replace H := Option.bind_eq_some_iff.mp H
                        obtain ⟨t134, A510, H⟩ := H
                        replace H : (some (t133 == t134)) = some r := H
                        have A51 := Aside0.mk A510
                        clear A510
                        first
                          | exact absurd ((Option.some.inj H).trans hr.out) (by decide)
                          | (obtain rfl := Option.some.inj H
                             go_wp2_with (first | (go_at_call 10; (with_reducible refine (num_Right.calls t121 (Int.tmod (wrap64 (a1)) t122) true _ A20.out).mono ?_); rintro e w' ⟨rfl, ⟨nd, rfl⟩⟩) | (go_at_call 12; (with_reducible refine (num_Add.calls t121 (Int.tmod (wrap64 (a1)) t122) (wrap64 ((wrap64 (a2)) + (wrap64 (a3)))) t128 _ A22.out).mono ?_); rintro e w52 ⟨rfl, hb⟩; have n0_ := Aside0.mk (below_step (by repeat (first | (with_reducible first | exact HB.out | apply below_alloc | apply pw_below_drewN | apply below_drew1) | exact HB.out)) hb); clear HB; have HB := n0_; clear n0_; (try clear hb); (try clear hb2); (try clear hk); (try clear hi)) | (go_at_call 12; (with_reducible refine (num_Add.calls t121 (Int.tmod (wrap64 (a1)) t122) t122 t129 _ A24.out).mono ?_); rintro e w53 ⟨rfl, hb⟩; have n0_ := Aside0.mk (below_step (by repeat (first | (with_reducible first | exact HB.out | apply below_alloc | apply pw_below_drewN | apply below_drew1) | exact HB.out)) hb); clear HB; have HB := n0_; clear n0_; (try clear hb); (try clear hb2); (try clear hk); (try clear hi)) | (go_at_call 12; (with_reducible refine (num_Add.calls t121 (Int.tmod (wrap64 (a1)) t122) 0 t130 _ A26.out).mono ?_); rintro e w54 ⟨rfl, hb⟩; have n0_ := Aside0.mk (below_step (by repeat (first | (with_reducible first | exact HB.out | apply below_alloc | apply pw_below_drewN | apply below_drew1) | exact HB.out)) hb); clear HB; have HB := n0_; clear n0_; (try clear hb); (try clear hb2); (try clear hk); (try clear hi)) | (go_at_call 12; (with_reducible refine (num_Add.calls t121 (Int.tmod (wrap64 (a1)) t122) t126 t133 _ A50.out).mono ?_); rintro e w55 ⟨rfl, hb⟩; have n0_ := Aside0.mk (below_step (by repeat (first | (with_reducible first | exact HB.out | apply below_alloc | apply pw_below_drewN | apply below_drew1) | exact HB.out)) hb); clear HB; have HB := n0_; clear n0_; (try clear hb); (try clear hb2); (try clear hk); (try clear hi)) | (go_at_call 12; (with_reducible refine (num_Add.calls t121 (Int.tmod (wrap64 (a1)) t122) (wrap64 (a2)) t134 _ A51.out).mono ?_); rintro e w56 ⟨rfl, hb⟩; have n0_ := Aside0.mk (below_step (by repeat (first | (with_reducible first | exact HB.out | apply below_alloc | apply pw_below_drewN | apply below_drew1) | exact HB.out)) hb); clear HB; have HB := n0_; clear n0_; (try clear hb); (try clear hb2); (try clear hk); (try clear hi)))
                             go_ret
                             exact ⟨by first | rfl | (simp [errW_none, errW_some] <;> rfl) | (simp [*, errW_none, errW_some] <;> rfl), by repeat (first | (with_reducible first | exact HB.out | apply below_alloc | apply pw_below_drewN | apply below_drew1) | exact HB.out)⟩)
                      · rw [if_neg c49] at H
                        have c49b0 : decide (t126 ≤ (wrap64 (Int.tdiv t122 2))) = false := decide_eq_false c49
                        clear c49
                        first
                          | exact absurd ((Option.some.inj H).trans hr.out) (by decide)
                          | (obtain rfl := Option.some.inj H
                             go_wp2_with (first | (go_at_call 10; (with_reducible refine (num_Right.calls t121 (Int.tmod (wrap64 (a1)) t122) true _ A20.out).mono ?_); rintro e w' ⟨rfl, ⟨nd, rfl⟩⟩) | (go_at_call 12; (with_reducible refine (num_Add.calls t121 (Int.tmod (wrap64 (a1)) t122) (wrap64 ((wrap64 (a2)) + (wrap64 (a3)))) t128 _ A22.out).mono ?_); rintro e w57 ⟨rfl, hb⟩; have n0_ := Aside0.mk (below_step (by repeat (first | (with_reducible first | exact HB.out | apply below_alloc | apply pw_below_drewN | apply below_drew1) | exact HB.out)) hb); clear HB; have HB := n0_; clear n0_; (try clear hb); (try clear hb2); (try clear hk); (try clear hi)) | (go_at_call 12; (with_reducible refine (num_Add.calls t121 (Int.tmod (wrap64 (a1)) t122) t122 t129 _ A24.out).mono ?_); rintro e w58 ⟨rfl, hb⟩; have n0_ := Aside0.mk (below_step (by repeat (first | (with_reducible first | exact HB.out | apply below_alloc | apply pw_below_drewN | apply below_drew1) | exact HB.out)) hb); clear HB; have HB := n0_; clear n0_; (try clear hb); (try clear hb2); (try clear hk); (try clear hi)) | (go_at_call 12; (with_reducible refine (num_Add.calls t121 (Int.tmod (wrap64 (a1)) t122) 0 t130 _ A26.out).mono ?_); rintro e w59 ⟨rfl, hb⟩; have n0_ := Aside0.mk (below_step (by repeat (first | (with_reducible first | exact HB.out | apply below_alloc | apply pw_below_drewN | apply below_drew1) | exact HB.out)) hb); clear HB; have HB := n0_; clear n0_; (try clear hb); (try clear hb2); (try clear hk); (try clear hi)))
                             go_ret
                             exact ⟨by first | rfl | (simp [errW_none, errW_some] <;> rfl) | (simp [*, errW_none, errW_some] <;> rfl), by repeat (first | (with_reducible first | exact HB.out | apply below_alloc | apply pw_below_drewN | apply below_drew1) | exact HB.out)⟩)
                    · rw [if_neg c48] at H
                      have c48b0 : decide ((wrap64 (-(wrap64 (Int.tdiv t122 2)))) < t126) = false := decide_eq_false c48
                      clear c48
                      first
                        | exact absurd ((Option.some.inj H).trans hr.out) (by decide)
                        | (obtain rfl := Option.some.inj H
                           go_wp2_with (first | (go_at_call 10; (with_reducible refine (num_Right.calls t121 (Int.tmod (wrap64 (a1)) t122) true _ A20.out).mono ?_); rintro e w' ⟨rfl, ⟨nd, rfl⟩⟩) | (go_at_call 12; (with_reducible refine (num_Add.calls t121 (Int.tmod (wrap64 (a1)) t122) (wrap64 ((wrap64 (a2)) + (wrap64 (a3)))) t128 _ A22.out).mono ?_); rintro e w60 ⟨rfl, hb⟩; have n0_ := Aside0.mk (below_step (by repeat (first | (with_reducible first | exact HB.out | apply below_alloc | apply pw_below_drewN | apply below_drew1) | exact HB.out)) hb); clear HB; have HB := n0_; clear n0_; (try clear hb); (try clear hb2); (try clear hk); (try clear hi)) | (go_at_call 12; (with_reducible refine (num_Add.calls t121 (Int.tmod (wrap64 (a1)) t122) t122 t129 _ A24.out).mono ?_); rintro e w61 ⟨rfl, hb⟩; have n0_ := Aside0.mk (below_step (by repeat (first | (with_reducible first | exact HB.out | apply below_alloc | apply pw_below_drewN | apply below_drew1) | exact HB.out)) hb); clear HB; have HB := n0_; clear n0_; (try clear hb); (try clear hb2); (try clear hk); (try clear hi)) | (go_at_call 12; (with_reducible refine (num_Add.calls t121 (Int.tmod (wrap64 (a1)) t122) 0 t130 _ A26.out).mono ?_); rintro e w62 ⟨rfl, hb⟩; have n0_ := Aside0.mk (below_step (by repeat (first | (with_reducible first | exact HB.out | apply below_alloc | apply pw_below_drewN | apply below_drew1) | exact HB.out)) hb); clear HB; have HB := n0_; clear n0_; (try clear hb); (try clear hb2); (try clear hk); (try clear hi)))
                           go_ret
                           exact ⟨by first | rfl | (simp [errW_none, errW_some] <;> rfl) | (simp [*, errW_none, errW_some] <;> rfl), by repeat (first | (with_reducible first | exact HB.out | apply below_alloc | apply pw_below_drewN | apply below_drew1) | exact HB.out)⟩)
                · rw [if_neg c27] at H
                  have c27b0 : (t130 == (Int.tmod (wrap64 (a1)) t122)) = false := beq_eq_false_iff_ne.mpr c27
                  have c27b1 : (t130 != (Int.tmod (wrap64 (a1)) t122)) = true := bne_iff_ne.mpr c27
                  first
                    | exact absurd ((Option.some.inj H).trans hr.out) (by decide)
                    | (obtain rfl := Option.some.inj H
                       go_wp2_with (first | (go_at_call 10; (with_reducible refine (num_Right.calls t121 (Int.tmod (wrap64 (a1)) t122) true _ A20.out).mono ?_); rintro e w' ⟨rfl, ⟨nd, rfl⟩⟩) | (go_at_call 12; (with_reducible refine (num_Add.calls t121 (Int.tmod (wrap64 (a1)) t122) (wrap64 ((wrap64 (a2)) + (wrap64 (a3)))) t128 _ A22.out).mono ?_); rintro e w63 ⟨rfl, hb⟩; have n0_ := Aside0.mk (below_step (by repeat (first | (with_reducible first | exact HB.out | apply below_alloc | apply pw_below_drewN | apply below_drew1) | exact HB.out)) hb); clear HB; have HB := n0_; clear n0_; (try clear hb); (try clear hb2); (try clear hk); (try clear hi)) | (go_at_call 12; (with_reducible refine (num_Add.calls t121 (Int.tmod (wrap64 (a1)) t122) t122 t129 _ A24.out).mono ?_); rintro e w64 ⟨rfl, hb⟩; have n0_ := Aside0.mk (below_step (by repeat (first | (with_reducible first | exact HB.out | apply below_alloc | apply pw_below_drewN | apply below_drew1) | exact HB.out)) hb); clear HB; have HB := n0_; clear n0_; (try clear hb); (try clear hb2); (try clear hk); (try clear hi)) | (go_at_call 12; (with_reducible refine (num_Add.calls t121 (Int.tmod (wrap64 (a1)) t122) 0 t130 _ A26.out).mono ?_); rintro e w65 ⟨rfl, hb⟩; have n0_ := Aside0.mk (below_step (by repeat (first | (with_reducible first | exact HB.out | apply below_alloc | apply pw_below_drewN | apply below_drew1) | exact HB.out)) hb); clear HB; have HB := n0_; clear n0_; (try clear hb); (try clear hb2); (try clear hk); (try clear hi)))
                       go_ret
                       exact ⟨by first | rfl | (simp [errW_none, errW_some] <;> rfl) | (simp [*, errW_none, errW_some] <;> rfl), by repeat (first | (with_reducible first | exact HB.out | apply below_alloc | apply pw_below_drewN | apply below_drew1) | exact HB.out)⟩)
              · rw [if_neg c25] at H
                have c25b0 : (t129 == (Int.tmod (wrap64 (a1)) t122)) = false := beq_eq_false_iff_ne.mpr c25
                have c25b1 : (t129 != (Int.tmod (wrap64 (a1)) t122)) = true := bne_iff_ne.mpr c25
                first
                  | exact absurd ((Option.some.inj H).trans hr.out) (by decide)
                  | (obtain rfl := Option.some.inj H
                     go_wp2_with (first | (go_at_call 10; (with_reducible refine (num_Right.calls t121 (Int.tmod (wrap64 (a1)) t122) true _ A20.out).mono ?_); rintro e w' ⟨rfl, ⟨nd, rfl⟩⟩) | (go_at_call 12; (with_reducible refine (num_Add.calls t121 (Int.tmod (wrap64 (a1)) t122) (wrap64 ((wrap64 (a2)) + (wrap64 (a3)))) t128 _ A22.out).mono ?_); rintro e w66 ⟨rfl, hb⟩; have n0_ := Aside0.mk (below_step (by repeat (first | (with_reducible first | exact HB.out | apply below_alloc | apply pw_below_drewN | apply below_drew1) | exact HB.out)) hb); clear HB; have HB := n0_; clear n0_; (try clear hb); (try clear hb2); (try clear hk); (try clear hi)) | (go_at_call 12; (with_reducible refine (num_Add.calls t121 (Int.tmod (wrap64 (a1)) t122) t122 t129 _ A24.out).mono ?_); rintro e w67 ⟨rfl, hb⟩; have n0_ := Aside0.mk (below_step (by repeat (first | (with_reducible first | exact HB.out | apply below_alloc | apply pw_below_drewN | apply below_drew1) | exact HB.out)) hb); clear HB; have HB := n0_; clear n0_; (try clear hb); (try clear hb2); (try clear hk); (try clear hi)))
                     go_ret
                     exact ⟨by first | rfl | (simp [errW_none, errW_some] <;> rfl) | (simp [*, errW_none, errW_some] <;> rfl), by repeat (first | (with_reducible first | exact HB.out | apply below_alloc | apply pw_below_drewN | apply below_drew1) | exact HB.out)⟩)
            · rw [if_neg c23] at H
              have c23b0 : (t124 == t128) = false := beq_eq_false_iff_ne.mpr c23
              have c23b1 : (t124 != t128) = true := bne_iff_ne.mpr c23
              first
                | exact absurd ((Option.some.inj H).trans hr.out) (by decide)
                | (obtain rfl := Option.some.inj H
                   go_wp2_with (first | (go_at_call 10; (with_reducible refine (num_Right.calls t121 (Int.tmod (wrap64 (a1)) t122) true _ A20.out).mono ?_); rintro e w' ⟨rfl, ⟨nd, rfl⟩⟩) | (go_at_call 12; (with_reducible refine (num_Add.calls t121 (Int.tmod (wrap64 (a1)) t122) (wrap64 ((wrap64 (a2)) + (wrap64 (a3)))) t128 _ A22.out).mono ?_); rintro e w68 ⟨rfl, hb⟩; have n0_ := Aside0.mk (below_step (by repeat (first | (with_reducible first | exact HB.out | apply below_alloc | apply pw_below_drewN | apply below_drew1) | exact HB.out)) hb); clear HB; have HB := n0_; clear n0_; (try clear hb); (try clear hb2); (try clear hk); (try clear hi)))
                   go_ret
                   exact ⟨by first | rfl | (simp [errW_none, errW_some] <;> rfl) | (simp [*, errW_none, errW_some] <;> rfl), by repeat (first | (with_reducible first | exact HB.out | apply below_alloc | apply pw_below_drewN | apply below_drew1) | exact HB.out)⟩)
          · replace c21 := Bool.eq_false_iff.mpr c21
            subst c21
            have H1 : (some false) = some r := by rw [if_neg (show ¬ (false = true) by decide)] at H; exact H
            clear H
            have H := H1
            clear H1
            first
              | exact absurd ((Option.some.inj H).trans hr.out) (by decide)
              | (obtain rfl := Option.some.inj H
                 go_wp2_with (first | (go_at_call 10; (with_reducible refine (num_Right.calls t121 (Int.tmod (wrap64 (a1)) t122) false _ A20.out).mono ?_); rintro e w' ⟨rfl, ⟨nd, rfl⟩⟩))
                 go_ret
                 exact ⟨by first | rfl | (simp [errW_none, errW_some] <;> rfl) | (simp [*, errW_none, errW_some] <;> rfl), by repeat (first | (with_reducible first | exact HB.out | apply below_alloc | apply pw_below_drewN | apply below_drew1) | exact HB.out)⟩)
        · replace c19 := Bool.eq_false_iff.mpr c19
          subst c19
          have H1 : (some false) = some r := by rw [if_neg (show ¬ (false = true) by decide)] at H; exact H
          clear H
          have H := H1
          clear H1
          first
            | exact absurd ((Option.some.inj H).trans hr.out) (by decide)
            | (obtain rfl := Option.some.inj H
               go_wp2
               go_ret
               exact ⟨by first | rfl | (simp [errW_none, errW_some] <;> rfl) | (simp [*, errW_none, errW_some] <;> rfl), by repeat (first | (with_reducible first | exact HB.out | apply below_alloc | apply pw_below_drewN | apply below_drew1) | exact HB.out)⟩)

/-- THE ONE PURE STATEMENT of bowlinelaw01_NumRound: yours. -/
def bowlinelaw01_NumRound.Pure : Prop := ∀ (a0 : Bool) (a1 : Int) (a2 : Int) (a3 : Int), (Lit.int .u32 a1).wf = true → (Lit.int .i32 a2).wf = true → (Lit.int .i32 a3).wf = true → ∃ k, bowlinelaw01_NumRound.f k a0 a1 a2 a3 = some true
theorem bowlinelaw01_NumRound.walk (P : bowlinelaw01_NumRound.Pure) (a0 : Bool) (a1 : Int) (a2 : Int) (a3 : Int) (w : World) (w1 : (Lit.int .u32 a1).wf = true) (w2 : (Lit.int .i32 a2).wf = true) (w3 : (Lit.int .i32 a3).wf = true) :
    Calls Try.prog 4 #[.bool a0, .int .u32 a1, .int .i32 a2, .int .i32 a3] w fun e w' => e = .returned (.bool true) ∧ Below w.heap.size w w' := by
  obtain ⟨k, h⟩ := P a0 a1 a2 a3 w1 w2 w3
  refine (bowlinelaw01_NumRound.calls k a0 a1 a2 a3 true (Aside0.mk rfl) w h).mono ?_
  rintro e w' ⟨rfl, hd⟩
  exact ⟨rfl, hd⟩

end Go.Proofs.Ytocgpldiihhhiaa.PNumRound
