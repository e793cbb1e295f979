/- The contracts of package marker's inner functions, by hand's walk. -/
import Derived.Test.YtelpnlpbjenmkaaProg
import Derived.WalkKit
import Derived.Lib.Hide
import Derived.LoopN
import Derived.WalkSpells
import Derived.Test.YtelpnlpbjenmkaaWWords
import Derived.Test.YtelpnlpbjenmkaaWLast
import Derived.Test.YtelpnlpbjenmkaaWMore
namespace Go.Proofs.Ytelpnlpbjenmkaa.Hand
open Go.RowKit Go.Proofs.YtelpnlpbjenmkaaW.PrintWords Go.Proofs.YtelpnlpbjenmkaaW.PrintLast Go.Proofs.YtelpnlpbjenmkaaW.PrintMore
set_option linter.unusedVariables false
set_option linter.unusedSimpArgs false

theorem ret_bool {a b : Bool} (h : a = b) : Ending.returned (.bool a) = .returned (.bool b) := by rw [h]

theorem within64 (n a b : Int) (w : World) : Calls Try.prog 23 #[.int .i64 n, .int .i64 a, .int .i64 b] w fun e w' => e = .returned (.bool (decide (a ≤ n) && decide (n ≤ b))) ∧ w = w' := by
  by_cases h : a ≤ n
  · go_enter Try.func23, Try.ntmps23
    go_wp2
    go_ret
    exact ⟨by simp [h], rfl⟩
  · go_enter Try.func23, Try.ntmps23
    go_wp2
    go_ret
    exact ⟨by simp; omega, rfl⟩

theorem withinI (n a b : Int) (w : World) : Calls Try.prog 24 #[.int .i64 n, .int .i64 a, .int .i64 b] w fun e w' => e = .returned (.bool (decide (a ≤ n) && decide (n ≤ b))) ∧ w = w' := by
  by_cases h : a ≤ n
  · go_enter Try.func24, Try.ntmps24
    go_wp2
    go_ret
    exact ⟨by simp [h], rfl⟩
  · go_enter Try.func24, Try.ntmps24
    go_wp2
    go_ret
    exact ⟨by simp; omega, rfl⟩

/-- What a marker's Left may not hold. -/
def bad (n : Int) : Bool := !(decide (-2047 ≤ n) && decide (n ≤ 65536000))

theorem wrong_any (n : Int) (w : World) : Calls Try.prog 22 #[.int .i64 n] w fun e w' => e = .returned (.bool (bad n)) ∧ w = w' := by
  go_enter Try.func22, Try.ntmps22
  go_wp2_with (go_at_call 23; refine (within64 n (-2047) 65536000 _).mono ?_; rintro e w' ⟨rfl, rfl⟩)
  go_ret
  exact ⟨ret_bool (by simp [bad]), rfl⟩

def IdxPost (l : List Int) (w : World) (e : Ending) (w' : World) : Prop := ∃ i : Int, e = .returned (.int .i64 i) ∧ decide (0 ≤ i) = l.any bad ∧ w = w'

theorem take_any (l : List Int) (k : Nat) (hk : k < l.length) (h : (l.take k).any bad = false) : (l.take (k + 1)).any bad = bad (rd l k) := by
  rw [List.take_add_one, List.any_append, h]
  simp [rd, List.getElem?_eq_getElem hk]

theorem any_of (l : List Int) (k : Nat) (hk : k < l.length) (h : bad (rd l k) = true) : l.any bad = true := by
  rw [List.any_eq_true]
  refine ⟨l[k], List.getElem_mem hk, ?_⟩
  simpa [rd, List.getElem?_eq_getElem hk] using h

set_option maxHeartbeats 400000 in
theorem index_any (l : List Int) (A : Option Addr) (c : Nat) (w : World) (hr : Kd.C (Kd.int .i64) w A l.length l) :
    Calls Try.prog 29 #[.slice A l.length c, .func (Fn.func 22) #[] #[]] w (IdxPost l w) := by
  have hlen : l.length ≤ 9223372036854775807 := hr.2.1
  have HR := Aside0.mk hr
  clear hr
  go_enter Try.func29, Try.ntmps29
  go_wp2_with fail
  go_loop [8] (fun i => ∃ k : Nat, k ≤ l.length ∧ i = .int .i64 k ∧ Hid ((l.take k).any bad = false)) (fun i => l.length - (intOf i).toNat)
  case atStart => exact ⟨0, Nat.zero_le _, rfl, Lib.hid (by simp)⟩
  case round =>
    obtain ⟨k, hk, rfl, hno⟩ := hrel
    by_cases hlt : k < l.length
    · obtain ⟨ad, e, hc⟩ := Kd.at_int HR.out (k : Int) (by omega) (by omega)
      subst e
      rw [Int.toNat_natCast] at hc
      cases hb : bad (rd l k)
      · have HN := Lib.hid ((take_any l k hlt hno.out).trans hb)
        have HB := Lib.hid hb
        clear hb
        go_wp2_with (go_at_call 22; refine (wrong_any (rd l k) _).mono ?_; rintro e w' ⟨rfl, rfl⟩; rw [HB.out])
        go_round
        case rel => exact ⟨k + 1, by omega, by go_num, HN⟩
        case measure => simp [intOf]; omega
      · have HN := Lib.hid (any_of l k hlt hb)
        have HB := Lib.hid hb
        clear hb
        go_wp2_with (go_at_call 22; refine (wrong_any (rd l k) _).mono ?_; rintro e w' ⟨rfl, rfl⟩; rw [HB.out])
        go_ret
        exact ⟨k, rfl, by rw [HN.out]; simp, rfl⟩
    · have HN : Hid (l.any bad = false) := by
        have := hno.out
        rwa [List.take_of_length_le (by omega)] at this
      go_wp2_with fail
      go_ret
      exact ⟨-1, rfl, by rw [HN.out]; decide, rfl⟩

def AnyPost (l : List Int) (w : World) (e : Ending) (w' : World) : Prop := e = .returned (.bool (l.any bad)) ∧ w = w'

theorem contains_any (l : List Int) (A : Option Addr) (c : Nat) (w : World) (hr : Kd.C (Kd.int .i64) w A l.length l) :
    Calls Try.prog 21 #[.slice A l.length c, .func (Fn.func 22) #[] #[]] w (AnyPost l w) := by
  have HR := Aside0.mk hr
  clear hr
  go_enter Try.func21, Try.ntmps21
  go_wp2_with (go_at_call 29; refine (index_any l A c _ HR.out).mono ?_; rintro e w' ⟨i, rfl, hi, rfl⟩; have HI := Lib.hid hi; clear hi)
  go_ret
  exact ⟨ret_bool HI.out, rfl⟩

/-- May a marker be so? -/
def right (e b l a : Int) (left : List Int) : Bool :=
  !(left.any bad) && (decide (1 ≤ (left.length : Int)) && decide ((left.length : Int) ≤ 8)) && (decide (0 ≤ e) && decide (e ≤ 65535)) && (decide (0 ≤ b) && decide (b ≤ 1099511627776)) &&
    (decide (0 ≤ l) && decide (l ≤ (left.length : Int) - 1)) && (decide (0 ≤ a) && decide (a ≤ (left.length : Int) - 1))

set_option maxHeartbeats 1000000 in
theorem right_any (e b l a : Int) (A : Option Addr) (c : Nat) (left : List Int) (w : World) (hr : Kd.C (Kd.int .i64) w A left.length left) :
    Calls Try.prog 11 #[.agg #[.int .i64 e, .int .i64 b, .int .i64 l, .int .i64 a, .slice A left.length c]] w fun en w' => en = .returned (.bool (right e b l a left)) ∧ Below w.heap.size w w' := by
  have hlen : left.length ≤ 9223372036854775807 := hr.2.1
  have HR := Aside0.mk hr
  clear hr
  go_enter Try.func11, Try.ntmps11
  go_wp2_with (first
    | (go_at_call 21; refine (contains_any left A c _ (Kd.C_below HR.out (below_alloc (Below.refl _ _) _))).mono ?_; rintro en w' ⟨rfl, rfl⟩)
    | (go_at_call 24; refine (withinI _ _ _ _).mono ?_; rintro en w' ⟨rfl, rfl⟩)
    | (go_at_call 23; refine (within64 _ _ _ _).mono ?_; rintro en w' ⟨rfl, rfl⟩))
  all_goals
    go_ret
    refine ⟨ret_bool ?_, (Below.refl _ _).alloc (Nat.le_refl _) _⟩
    simp_all [right]
    try first | omega | (rename_i h; obtain ⟨x, hx, hb⟩ := h; intro h; have := h x hx; simp [hb] at this)
end Go.Proofs.Ytelpnlpbjenmkaa.Hand
