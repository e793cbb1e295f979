/- MarkerTells: Right, Put, Get and Batch are the document's. No condition. -/
import Derived.Test.YtelpnlpbjenmkaaPMarkerTellsx10
import Derived.Test.YtelpnlpbjenmkaaTellsD
import Derived.Test.YtelpnlpbjenmkaaPutMarkerTells
namespace Go.Proofs.Ytelpnlpbjenmkaa.Pure
set_option linter.unusedVariables false
open Go.RowKit Go.Proofs.Ytelpnlpbjenmkaa.PMarkerTells Go.Proofs.YtelpnlpbjenmkaaW.PrintWords Go.Proofs.YtelpnlpbjenmkaaW.PrintLast

theorem get_len (bs : List Int) : (Hand.get bs).2.2.2.2.1.length ≤ 900 := by
  unfold Hand.get
  split
  · simp
  · split
    · split
      · rename_i hA hB hC
        have := (Mk.right_parts hC).2.2.1
        show (Hand.said bs).2.2.2.2.length ≤ 900
        omega
      · simp
    · simp

theorem tells_j0 (k : Nat) (hk : 2000 ≤ k) (l1 : List Int) (a2 e b n a tat tr : Int) (xs tl : List Int) (hb : Hand.bytesB l1 = true) (hx : xs.length ≤ 900) (ht : tl.length ≤ 900) :
    bowlinelaw17_MarkerTells.j0 (k + 1) l1 a2 true false e b n a xs tat tr tl = some true := by
  simp only [bowlinelaw17_MarkerTells.j0]
  have hg1 : marker_Get.f k l1 = some (Hand.get l1) := by
    unfold marker_Get.f
    rw [if_pos hb]
  have hq5 := get_len l1
  rw [if_neg (by simp), hg1, Tells.ref_get_f l1 hb k (by omega)]
  simp only [Option.bind_some]
  unfold marker_Right.f
  rw [if_pos trivial, Tells.right_f e b n a xs (by omega) k (by omega)]
  simp only [Option.bind_some]
  rw [if_pos (by simp), put_f k (by omega), Tells.ref_put_f e b n a xs (by omega) k (by omega)]
  simp only [Option.bind_some]
  rw [if_pos trivial, Tells.same_f _ _ _ _ _ k hq5 (by omega)]
  simp only [Option.bind_some]
  rw [if_pos trivial, if_pos (by simp), Tells.batch_f a2 tr tat tl ht k (by omega), Tells.ref_batch_f a2 tr tat tl k (by omega)]
  simp only [Option.bind_some]
  rw [Tells.sameall_f a2 tr tat tl k (by omega) _ rfl]
  rfl

theorem MarkerTells (e b n a tat tr a2 : Int) (xs tl l1 : List Int) (hb : Hand.bytesB l1 = true) (hm1 : xs.length * 8 ≤ 140737488351232) (hm2 : tl.length * 8 ≤ 140737488351232) :
    ∃ k, bowlinelaw17_MarkerTells.f k e b n a xs l1 a2 tat tr tl = some true := by
  refine ⟨3001, ?_⟩
  unfold bowlinelaw17_MarkerTells.f bowlinelaw17_head.f
  have e1 : wrap64 ((xs.length : Int) + (tl.length : Int)) = (xs.length : Int) + tl.length := by unfold wrap64; omega
  rw [e1]
  clear e1
  simp only [Option.bind_some]
  by_cases h9 : (xs.length : Int) + tl.length > 900
  · rw [if_pos h9]
    simp only [bowlinelaw17_MarkerTells.j0]
    rw [if_pos trivial]
  · rw [if_neg h9]
    by_cases h0 : (l1.length : Int) > 9000
    · rw [decide_eq_true h0]
      simp only [bowlinelaw17_MarkerTells.j0]
      rw [if_pos trivial]
    · rw [decide_eq_false h0]
      exact tells_j0 3000 (by omega) l1 a2 e b n a tat tr xs tl hb (by omega) (by omega)

theorem bytes_wf {l : List Int} (h : ∀ x ∈ l, (Lit.int .u8 x).wf = true) : Hand.bytesB l = true := by
  unfold Hand.bytesB
  rw [List.all_eq_true]
  intro x hx
  have := h x hx
  simp [Lit.wf] at this
  have e0 : IntKind.u8.min = 0 := rfl
  have e1 : IntKind.u8.max = 255 := rfl
  simp
  omega

theorem marker_tells_walk (a0_0 a0_1 a0_2 a0_3 : Int) (a0_4 : Option Addr) (len0_4 cap0_4 : Nat) (z0_4 : List Int) (a1 : Option Addr) (len1 cap1 : Nat) (z1 : List Int) (a2 a3_0 a3_1 : Int) (a3_2 : Option Addr) (len3_2 cap3_2 : Nat) (z3_2 : List Int) (w : World)
    (w0_0 : (Lit.int .i64 a0_0).wf = true) (w0_1 : (Lit.int .i64 a0_1).wf = true) (w0_2 : (Lit.int .i64 a0_2).wf = true) (w0_3 : (Lit.int .i64 a0_3).wf = true)
    (w0_4 : (a0_4 = none ∧ len0_4 = 0 ∧ cap0_4 = 0 ∧ z0_4 = []) ∨ ∃ x, a0_4 = some x ∧ len0_4 ≤ cap0_4 ∧ cap0_4 ≤ maxLen ∧ z0_4.length = cap0_4 ∧ (∀ i, i < z0_4.length → w.cell? (x.add i) = some (.int .i64 (z0_4.getD i 0))) ∧ ∀ n ∈ z0_4, (Lit.int .i64 n).wf = true) (y0_4 : len0_4 * 8 ≤ 140737488351232)
    (w1 : (a1 = none ∧ len1 = 0 ∧ cap1 = 0 ∧ z1 = []) ∨ ∃ x, a1 = some x ∧ len1 ≤ cap1 ∧ cap1 ≤ maxLen ∧ z1.length = cap1 ∧ (∀ i, i < z1.length → w.cell? (x.add i) = some (.int .u8 (z1.getD i 0))) ∧ ∀ n ∈ z1, (Lit.int .u8 n).wf = true) (y1 : len1 * 1 ≤ 140737488351232) (w2 : (Lit.int .i64 a2).wf = true) (w3_0 : (Lit.int .i64 a3_0).wf = true) (w3_1 : (Lit.int .i64 a3_1).wf = true)
    (w3_2 : (a3_2 = none ∧ len3_2 = 0 ∧ cap3_2 = 0 ∧ z3_2 = []) ∨ ∃ x, a3_2 = some x ∧ len3_2 ≤ cap3_2 ∧ cap3_2 ≤ maxLen ∧ z3_2.length = cap3_2 ∧ (∀ i, i < z3_2.length → w.cell? (x.add i) = some (.int .i64 (z3_2.getD i 0))) ∧ ∀ n ∈ z3_2, (Lit.int .i64 n).wf = true) (y3_2 : len3_2 * 8 ≤ 140737488351232) :
    Calls Try.prog 3 #[.agg #[.int .i64 a0_0, .int .i64 a0_1, .int .i64 a0_2, .int .i64 a0_3, .slice a0_4 len0_4 cap0_4], .slice a1 len1 cap1, .int .i64 a2, .agg #[.int .i64 a3_0, .int .i64 a3_1, .slice a3_2 len3_2 cap3_2]] w fun e w' => e = .returned (.bool true) ∧ Below w.heap.size w w' := by
  obtain ⟨l0, rfl, hr0, hm0, hw0, hc0⟩ := ReadsInt.ofRowC w0_4
  obtain ⟨l1, rfl, hr1, hm1, hw1, hc1⟩ := ReadsInt.ofRowC w1
  obtain ⟨l2, rfl, hr2, hm2, hw2, hc2⟩ := ReadsInt.ofRowC w3_2
  obtain ⟨k, h⟩ := MarkerTells a0_0 a0_1 a0_2 a0_3 a3_0 a3_1 a2 l0 l2 l1 (bytes_wf hw1) y0_4 y3_2
  refine (bowlinelaw17_MarkerTells.calls k a0_0 a0_1 a0_2 a0_3 _ _ l0 _ _ l1 a2 a3_0 a3_1 _ _ l2 true (Aside0.mk rfl) w (Kd.C_of_reads (d := (0 : Int)) (h1 := fun _ => rfl) hr0) hc0 (Kd.C_of_reads (d := (0 : Int)) (h1 := fun _ => rfl) hr1) hc1 (Kd.C_of_reads (d := (0 : Int)) (h1 := fun _ => rfl) hr2) hc2 h).mono ?_
  rintro e w' ⟨rfl, hd⟩
  exact ⟨rfl, hd⟩
end Go.Proofs.Ytelpnlpbjenmkaa.Pure
