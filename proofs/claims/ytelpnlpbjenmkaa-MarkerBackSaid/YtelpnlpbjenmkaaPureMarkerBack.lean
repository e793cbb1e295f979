/- MarkerBack: what is put comes back, and what is told right is put as it stood. No condition. -/
import Derived.Test.YtelpnlpbjenmkaaPMarkerBackx7
import Derived.Test.YtelpnlpbjenmkaaPutMarkerBack
import Derived.Test.YtelpnlpbjenmkaaMkBack
namespace Go.Proofs.Ytelpnlpbjenmkaa.Pure
set_option linter.unusedVariables false
open Go.RowKit Go.Proofs.Ytelpnlpbjenmkaa.PMarkerBack Go.Proofs.YtelpnlpbjenmkaaW.PrintWords Go.Proofs.YtelpnlpbjenmkaaW.PrintLast

theorem same_l (e b l a : Int) (xs : List Int) (hx : xs.length ≤ 900) (d : Nat) : ∀ (k i : Nat), i ≤ xs.length → xs.length - i = d → d < k →
    bowlineref17_Same.l0 k i e b l a xs e b l a xs = some true := by
  induction d with
  | zero =>
    intro k i hi hd hk
    obtain ⟨k, rfl⟩ : ∃ m, k = m + 1 := ⟨k - 1, by omega⟩
    simp only [bowlineref17_Same.l0]
    rw [if_neg (by omega)]
  | succ d ih =>
    intro k i hi hd hk
    obtain ⟨k, rfl⟩ : ∃ m, k = m + 1 := ⟨k - 1, by omega⟩
    simp only [bowlineref17_Same.l0]
    have e4 : wrap64 ((i : Int) + 1) = ((i + 1 : Nat) : Int) := by unfold wrap64; omega
    rw [e4]
    clear e4
    rw [if_pos (by omega), if_pos (by omega), if_pos (by omega), if_pos trivial]
    exact ih k (i + 1) (by omega) (by omega) (by omega)
theorem same_f (e b l a : Int) (xs : List Int) (k : Nat) (hx : xs.length ≤ 900) (hk : xs.length + 2 ≤ k) : bowlineref17_Same.f k e b l a xs e b l a xs = some true := by
  obtain ⟨k, rfl⟩ : ∃ m, k = m + 1 := ⟨k - 1, by omega⟩
  unfold bowlineref17_Same.f
  rw [if_pos rfl, if_pos rfl, if_pos rfl, if_pos rfl]
  simp only [bowlineref17_Same.j0]
  rw [if_neg (by simp)]
  exact same_l e b l a xs hx xs.length k 0 (by omega) (by omega) (by omega)

theorem j2_true (k : Nat) (hk : 60 ≤ k) (l : List Int) (hb : Hand.bytesB l = true) : bowlinelaw17_MarkerBack.j2 (k + 1) l true = some true := by
  simp only [bowlinelaw17_MarkerBack.j2]
  unfold marker_Get.f
  rw [if_pos hb]
  simp only [Option.bind_some]
  cases h : (Hand.get l).2.2.2.2.2 with
  | true =>
    obtain ⟨hr, hp⟩ := Mk.put_get l hb h
    rw [if_pos rfl, if_pos trivial]
    unfold marker_Right.f
    simp only [Option.bind_some]
    rw [if_pos hr, put_f k hk, if_pos hr, hp]
    simp
  | false =>
    rw [Mk.get_wrong l h]
    rw [if_neg (by simp), if_pos trivial, same_f 0 0 0 0 [] k (by simp) (by simp; omega)]
    rfl

theorem j1_true (k : Nat) (hk : 70 ≤ k) (l : List Int) (hb : Hand.bytesB l = true) (e b t a : Int) (xs : List Int) (hx : xs.length ≤ 900) :
    bowlinelaw17_MarkerBack.j1 (k + 1) l true (if Hand.right e b t a xs = true then Mk.put e b t a xs else []) false e b t a xs = some true := by
  obtain ⟨k, rfl⟩ : ∃ m, k = m + 1 := ⟨k - 1, by omega⟩
  simp only [bowlinelaw17_MarkerBack.j1]
  rw [if_neg (by simp)]
  by_cases h : Hand.right e b t a xs = true
  · obtain ⟨_, _, h3, _⟩ := Mk.right_parts h
    have hlen := Mk.put_length e b t a xs
    have e4 : wrap64 (11 + (wrap64 (4 * (xs.length : Int)))) = ((Mk.put e b t a xs).length : Int) := by
      rw [hlen]
      unfold wrap64
      omega
    rw [if_pos h, e4]
    clear e4
    rw [if_pos (by omega)]
    unfold marker_Get.f
    rw [if_pos (Mk.put_bytes _ _ _ _ _), Mk.get_put _ _ _ _ _ h]
    simp only [Option.bind_some]
    rw [if_pos trivial, same_f e b t a xs (k + 1) hx (by omega)]
    simp only [Option.bind_some]
    rw [if_pos trivial, if_pos trivial]
    exact j2_true k (by omega) l hb
  · rw [if_neg h, if_neg (by simp)]
    exact j2_true k (by omega) l hb

theorem MarkerBack (e b t a : Int) (xs l : List Int) (hb : Hand.bytesB l = true) : ∃ k, bowlinelaw17_MarkerBack.f k e b t a xs l = some true := by
  refine ⟨200, ?_⟩
  unfold bowlinelaw17_MarkerBack.f bowlinelaw17_head.f
  simp only [Option.bind_some]
  by_cases h9 : (xs.length : Int) > 900
  · rw [if_pos h9]
    simp only [bowlinelaw17_MarkerBack.j0]
    rw [if_pos trivial]
  · rw [if_neg h9]
    simp only [bowlinelaw17_MarkerBack.j0]
    by_cases h0 : (l.length : Int) > 9000
    · rw [if_pos (by simpa using h0)]
    · rw [if_neg (by simpa using h0), put_f 199 (by omega)]
      unfold marker_Right.f
      simp only [Option.bind_some]
      by_cases h : Hand.right e b t a xs = true
      · obtain ⟨_, _, h3, _⟩ := Mk.right_parts h
        have hlen := Mk.put_length e b t a xs
        have hj := j1_true 198 (by omega) l hb e b t a xs (by omega)
        rw [if_pos h] at hj ⊢
        rw [if_neg (by rw [h, decide_eq_true (by omega)]; simp), decide_eq_false (by omega)]
        exact hj
      · have hj := j1_true 198 (by omega) l hb e b t a xs (by omega)
        rw [if_neg h] at hj ⊢
        rw [if_neg (by rw [Bool.eq_false_iff.mpr h]; simp), decide_eq_false (by simp)]
        exact hj

theorem bytes_wf {l : List Int} (h : ∀ x ∈ l, (Lit.int .u8 x).wf = true) : Hand.bytesB l = true := by
  unfold Hand.bytesB
  rw [List.all_eq_true]
  intro x hx
  have := h x hx
  simp [Lit.wf] at this
  have e0 : IntKind.u8.min = 0 := rfl
  have e1 : IntKind.u8.max = 255 := rfl
  simp
  omega

theorem marker_back_walk (a0_0 a0_1 a0_2 a0_3 : Int) (a0_4 : Option Addr) (len0_4 cap0_4 : Nat) (z0_4 : List Int) (a1 : Option Addr) (len1 cap1 : Nat) (z1 : List Int) (w : World)
    (w0_0 : (Lit.int .i64 a0_0).wf = true) (w0_1 : (Lit.int .i64 a0_1).wf = true) (w0_2 : (Lit.int .i64 a0_2).wf = true) (w0_3 : (Lit.int .i64 a0_3).wf = true)
    (w0_4 : (a0_4 = none ∧ len0_4 = 0 ∧ cap0_4 = 0 ∧ z0_4 = []) ∨ ∃ x, a0_4 = some x ∧ len0_4 ≤ cap0_4 ∧ cap0_4 ≤ maxLen ∧ z0_4.length = cap0_4 ∧ (∀ i, i < z0_4.length → w.cell? (x.add i) = some (.int .i64 (z0_4.getD i 0))) ∧ ∀ n ∈ z0_4, (Lit.int .i64 n).wf = true)
    (w1 : (a1 = none ∧ len1 = 0 ∧ cap1 = 0 ∧ z1 = []) ∨ ∃ x, a1 = some x ∧ len1 ≤ cap1 ∧ cap1 ≤ maxLen ∧ z1.length = cap1 ∧ (∀ i, i < z1.length → w.cell? (x.add i) = some (.int .u8 (z1.getD i 0))) ∧ ∀ n ∈ z1, (Lit.int .u8 n).wf = true) (y1 : len1 * 1 ≤ 140737488351232) :
    Calls Try.prog 4 #[.agg #[.int .i64 a0_0, .int .i64 a0_1, .int .i64 a0_2, .int .i64 a0_3, .slice a0_4 len0_4 cap0_4], .slice a1 len1 cap1] w fun e w' => e = .returned (.bool true) ∧ Below w.heap.size w w' := by
  obtain ⟨l0, rfl, hr0, hm0, hw0, hc0⟩ := ReadsInt.ofRowC w0_4
  obtain ⟨l1, rfl, hr1, hm1, hw1, hc1⟩ := ReadsInt.ofRowC w1
  obtain ⟨k, h⟩ := MarkerBack a0_0 a0_1 a0_2 a0_3 l0 l1 (bytes_wf hw1)
  refine (bowlinelaw17_MarkerBack.calls k a0_0 a0_1 a0_2 a0_3 _ _ l0 _ _ l1 true w (Kd.C_of_reads (d := (0 : Int)) (h1 := fun _ => rfl) hr0) hc0 (Kd.C_of_reads (d := (0 : Int)) (h1 := fun _ => rfl) hr1) hc1 h).mono ?_
  rintro e w' ⟨rfl, hd⟩
  exact ⟨rfl, hd⟩
end Go.Proofs.Ytelpnlpbjenmkaa.Pure
