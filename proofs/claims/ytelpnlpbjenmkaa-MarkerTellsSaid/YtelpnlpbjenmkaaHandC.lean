/- The contract of slices.Clone at []int64, by hand's walk. -/
import Derived.Test.YtelpnlpbjenmkaaHand
namespace Go.Proofs.Ytelpnlpbjenmkaa.Hand
open Go.RowKit Go.Proofs.YtelpnlpbjenmkaaW.PrintWords Go.Proofs.YtelpnlpbjenmkaaW.PrintLast Go.Proofs.YtelpnlpbjenmkaaW.PrintMore
set_option linter.unusedVariables false
set_option linter.unusedSimpArgs false

theorem info2' : (Try.prog.info? 2).map (fun i => (i.zero, i.size, i.bytes)) = some (some (.int .i64 0), 1, 8) := by kernel_rfl
theorem ints_of_C' {k : IntKind} {w : World} {A : Option Addr} {n : Nat} {xs : List Int} (h : (Kd.int k).C w A n xs) : ReadsInt w k A n xs :=
  readsInt_of.2 (Kd.reads_of_C (enc := Value.int k) (d := (0 : Int)) (h1 := fun _ => rfl) h)

def ClonePost (l : List Int) (w : World) (e : Ending) (w' : World) : Prop := ∃ v0_ : Value, e = .returned v0_ ∧ Kd.R (Kd.int .i64) 2 w' w.heap.size (fun _ => True) v0_ l ∧ Below w.heap.size w w'

set_option maxHeartbeats 800000 in
theorem clone_any (l : List Int) (A : Option Addr) (c : Nat) (w : World) (hr : Kd.C (Kd.int .i64) w A l.length l) (hc : l.length ≤ c) (hbig : l.length * 8 ≤ 140737488355328) :
    Calls Try.prog 28 #[.slice A l.length c] w (ClonePost l w) := by
  have hq : ∀ (w : World) (a : Option Addr) (n c n' c' : Nat), (binOp .eql 22 (.slice a n c) (.slice none n' c')).run Try.prog w = .ok (.bool a.isNone) w := fun w a n c n' c' => Lib.run_eql_slice_nil w _ _ a n c n' c' Try.underlying22
  have hri := ints_of_C' hr
  have HR := Aside0.mk hri
  have HB := Aside0.mk hbig
  clear hr hri hbig
  cases A with
  | none =>
    have h0 : l = [] := by
      rcases Nat.eq_zero_or_pos l.length with h | h
      · exact List.eq_nil_of_length_eq_zero h
      · obtain ⟨ad, he, _⟩ := HR.out.2.2 h
        cases he
    subst h0
    go_enter Try.func28, Try.ntmps28
    go_wp2_with fail
    go_ret
    exact ⟨.slice none 0 0, rfl, Kd.R_nil _ _ _ _ _, Below.refl _ _⟩
  | some ad =>
    go_enter Try.func28, Try.ntmps28
    go_wp2_with (at_builtin; refine print_append_row (w0 := w) w.heap.size rfl (.tmp 5) (.tmp 6) 22 2 .i64 8 rfl Try.underlying22 info2' (by omega) _ [] l (some ad) l.length c rfl rfl (own_lit w w.heap.size 2 .i64 [] (Nat.le_refl _) (by simp)) (HR.out.allocS _) (below_alloc (Below.refl _ _) _) (by simp) (by have := HB.out; simp; omega) ?_; intro v1 w1 hown hb hg hat)
    go_ret
    exact ⟨v1, rfl, Kd.R_of_own (enc := Value.int .i64) (h1 := fun _ => rfl) hown (fun _ _ => trivial), hb⟩
end Go.Proofs.Ytelpnlpbjenmkaa.Hand
