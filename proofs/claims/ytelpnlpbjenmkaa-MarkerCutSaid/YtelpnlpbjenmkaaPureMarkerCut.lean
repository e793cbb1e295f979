/- MarkerCut: bytes that are cut, or have one more, are no marker: by hand's walk over what is printed of its callees. No condition. -/
import Derived.Test.YtelpnlpbjenmkaaPMarkerSignsx6
import Derived.Test.YtelpnlpbjenmkaaPutMarkerSigns
import Derived.Test.YtelpnlpbjenmkaaMkBack
namespace Go.Proofs.Ytelpnlpbjenmkaa.Pure
open Go.RowKit Go.Proofs.Ytelpnlpbjenmkaa.PMarkerSigns Go.Proofs.YtelpnlpbjenmkaaW.PrintWords Go.Proofs.YtelpnlpbjenmkaaW.PrintLast Go.Proofs.YtelpnlpbjenmkaaW.PrintMore
set_option linter.unusedVariables false

theorem info5' : (Try.prog.info? 5).map (fun i => (i.zero, i.size, i.bytes)) = some (some (.int .u8 0), 1, 1) := by kernel_rfl
theorem get_false (xs : List Int) (hb : Hand.bytesB xs = true) (h : ((xs.length : Int) < 11 ∨ (xs.length : Int) ≠ 11 + 4 * rd xs 10)) (k : Nat) : marker_Get.f k xs = some (0, 0, 0, 0, [], false) := by
  unfold marker_Get.f
  rw [if_pos hb]
  unfold Hand.get
  by_cases h0 : (xs.length : Int) < 11
  · rw [if_pos h0]
  · rw [if_neg h0, if_neg (by omega)]

theorem put_ten (e b l a : Int) (left : List Int) (h : left.length ≤ 8) : rd (Mk.put e b l a left) 10 = left.length := by
  simp [Mk.put, Mk.be2, Mk.be6, rd]
  omega

theorem cut_calls (e b l a at_ more : Int) (A : Option Addr) (c : Nat) (left : List Int) (w : World) (hr : Kd.C (Kd.int .i64) w A left.length left) (hc : left.length ≤ c) (ha0 : 0 ≤ at_) (ha1 : at_ ≤ 255) (hm0 : 0 ≤ more) (hm1 : more ≤ 255) :
    Calls Try.prog 6 #[.agg #[.int .i64 e, .int .i64 b, .int .i64 l, .int .i64 a, .slice A left.length c], .int .u8 at_, .int .u8 more] w fun en w' => en = .returned (.bool true) ∧ Below w.heap.size w w' := by
  go_enter Try.func6, Try.ntmps6
  have HR := Aside0.mk hr
  have HC := Aside0.mk hc
  clear hr hc
  go_wp2_with fail
  refine (bowlinelaw17_head.calls true _ rfl).mono ?_
  rintro en W0 ⟨rfl, hb0⟩
  have hs0 := hb0.size
  simp only [World.size_alloc] at hs0
  have hm : W0.heap[w.heap.size]? = some (Obj.cells #[Value.int IntKind.i64 e, Value.int IntKind.i64 b, Value.int IntKind.i64 l, Value.int IntKind.i64 a, Value.slice A left.length c] 24 (0, 0)) := (hb0.block _ (by simp)).trans (heap_alloc_new _ _)
  have HM := Aside0.mk hm
  have HB0 := Aside0.mk ((below_alloc (Below.refl _ _) _).trans (hb0.mono (by simp)) : Below w.heap.size w W0)
  have m0 : W0.cell? ⟨w.heap.size, 0, none⟩ = some (.int .i64 e) := (blk_cell hm 0).trans rfl
  have m1 : W0.cell? ⟨w.heap.size, 1, none⟩ = some (.int .i64 b) := (blk_cell hm 1).trans rfl
  have m2 : W0.cell? ⟨w.heap.size, 2, none⟩ = some (.int .i64 l) := (blk_cell hm 2).trans rfl
  have m3 : W0.cell? ⟨w.heap.size, 3, none⟩ = some (.int .i64 a) := (blk_cell hm 3).trans rfl
  have m4 : W0.cell? ⟨w.heap.size, 4, none⟩ = some (.slice A left.length c) := (blk_cell hm 4).trans rfl
  clear hm hb0
  go_wp2_with fail
  have hput := put_f 60 (by omega) e b l a left
  generalize hP : (if Hand.right e b l a left = true then Mk.put e b l a left else []) = P at hput
  refine (marker_Put.calls 60 e b l a A c left P W0 (Kd.C_below HR.out HB0.out) HC.out hput).mono ?_
  clear m0 m1 m2 m3 m4 hput
  rintro en W1 ⟨v1, rfl, hR1, hb1⟩
  obtain ⟨A1, c1, rfl, hcl1, hC1⟩ := Kd.R_reads hR1
  have HC1 := Aside0.mk hC1
  have HB1 := Aside0.mk hb1
  have HP := Aside0.mk hP
  have hs1 := hb1.size
  have hm := (hb1.block _ hs0).trans HM.out
  have HM1 := Aside0.mk hm
  have m0 : W1.cell? ⟨w.heap.size, 0, none⟩ = some (.int .i64 e) := (blk_cell hm 0).trans rfl
  have m1 : W1.cell? ⟨w.heap.size, 1, none⟩ = some (.int .i64 b) := (blk_cell hm 1).trans rfl
  have m2 : W1.cell? ⟨w.heap.size, 2, none⟩ = some (.int .i64 l) := (blk_cell hm 2).trans rfl
  have m3 : W1.cell? ⟨w.heap.size, 3, none⟩ = some (.int .i64 a) := (blk_cell hm 3).trans rfl
  have m4 : W1.cell? ⟨w.heap.size, 4, none⟩ = some (.slice A left.length c) := (blk_cell hm 4).trans rfl
  clear hm hC1 hb1 hR1 hP HM
  by_cases h9 : 900 < left.length
  · go_wp2_with fail
    go_ret
    exact ⟨rfl, HB0.out.trans (HB1.out.mono (by omega))⟩
  · by_cases h0 : P.length = 0
    · have h00 : (P.length : Int) = 0 := by omega
      go_wp2_with fail
      go_ret
      exact ⟨rfl, HB0.out.trans (HB1.out.mono (by omega))⟩
    · have h00 : ¬ (P.length : Int) = 0 := by omega
      have hq0 : 0 ≤ at_ % (P.length : Int) := Int.emod_nonneg _ h00
      have hq1 : at_ % (P.length : Int) < P.length := Int.emod_lt_of_pos _ (by omega)
      have hq2 : at_ % (P.length : Int) ≤ c1 := by omega
      go_wp2_with fail
      · rename_i hy hz
        exfalso
        rcases hz with hz | hz
        · omega
        · exact h00 (beq_iff_eq.1 hz)
      obtain ⟨hright, hPe⟩ : Hand.right e b l a left = true ∧ P = Mk.put e b l a left := by
        have hh := HP.out
        by_cases hr : Hand.right e b l a left = true
        · rw [if_pos hr] at hh
          exact ⟨hr, hh.symm⟩
        · rw [if_neg hr] at hh
          rw [← hh] at h0
          exact absurd rfl h0
      have hPl := Mk.put_length e b l a left
      have hPb := Mk.put_bytes e b l a left
      have hPg := Mk.get_put e b l a left hright
      have hPr := put_ten e b l a left (Mk.right_parts hright).2.2.1
      have hn8 := (Mk.right_parts hright).2.2.1
      rw [← hPe] at hPl hPb hPr
      have HPL := Aside0.mk hPl
      have HPB := Aside0.mk hPb
      clear hPg hPe HP
      generalize hq : (at_ % (P.length : Int)).toNat = q
      have hqP : q < P.length := by omega
      have hql : (P.take q).length = q := by rw [List.length_take]; omega
      have hqb : Hand.bytesB (P.take q) = true := by
        unfold Hand.bytesB at hPb ⊢
        rw [List.all_eq_true] at hPb ⊢
        exact fun x hx => hPb x (List.mem_of_mem_take hx)
      have hqr : 11 ≤ q → rd (P.take q) 10 = rd P 10 := by
        intro h11
        simp [rd, show (10 : Nat) < q by omega]
      have hqf := get_false (P.take q) hqb (by
        rw [hql]
        by_cases h11 : 11 ≤ q
        · right
          rw [hqr h11, hPr]
          omega
        · left
          omega) 60
      have hg := marker_Get.calls 60 A1 c1 (P.take q) _ _ _ _ _ _ W1 (Kd.C_take HC1.out (show q ≤ _ by omega)) (by omega) hqf
      rw [hql] at hg
      refine hg.mono ?_
      have HPR := Aside0.mk hPr
      clear hg hqf hqr hqb m0 m1 m2 m3 m4 hPb hPl hPr hql
      rintro en W2 ⟨v2, rfl, hR2, hb2⟩
      obtain ⟨A2, c2, rfl, hcl2, hC2⟩ := Kd.R_reads hR2
      have hs2 := hb2.size
      have HB2 := Aside0.mk hb2
      have HC2 := Aside0.mk (Kd.C_below HC1.out hb2)
      have hP100 : P.length ≤ 43 := by
        rw [HPL.out]
        omega
      clear hR2 hC2 hb2
      have HRI := Aside0.mk (Hand.ints_of_C' HC2.out)
      have HP100 := Aside0.mk hP100
      go_wp2_with (at_builtin; first
        | (refine print_append_row (w0 := W2) W2.heap.size rfl _ _ 25 5 .u8 1 rfl Try.underlying25 info5' (by omega) _ [] P A1 P.length c1 rfl rfl (by have h := own_lit (W2.alloc (Obj.cells #[Value.int IntKind.i64 0, Value.int IntKind.i64 0, Value.int IntKind.i64 0, Value.int IntKind.i64 0, Value.slice A2 0 c2] 24)) W2.heap.size 5 .u8 [] (by simp) (by simp); rw [World.size_alloc] at h; exact h) ((HRI.out.allocS _).allocS _) (below_alloc (below_alloc (Below.refl _ _) _) _) (by simp only [World.size_alloc]; omega) (by have := HP100.out; simp; omega) ?_; intro v3 W3 hown3 hb3 hg3 hat3)
        | ((refine print_append_num (w0 := W2) W2.heap.size rfl (.tmp 40) (.tmp 42) 25 5 .u8 1 rfl Try.underlying25 info5' (by omega) v3 ([] ++ P) more rfl rfl hown3 hb3 hb3.size (by have := HP100.out; simp; omega) ?_); intro v4 W4 hown4 hb4 hg4 hat4))
      rw [List.nil_append] at hown4
      obtain ⟨A4, c4, e4, hcl4, hC4⟩ := Kd.R_reads (Kd.R_of_own (enc := Value.int .u8) (h1 := fun _ => rfl) hown4 (fun _ _ => trivial) : Kd.R (Kd.int .u8) 5 W4 W2.heap.size (fun _ => True) v4 (P ++ [more]))
      subst e4
      have hxb : Hand.bytesB (P ++ [more]) = true := by
        have hb := HPB.out
        unfold Hand.bytesB at hb ⊢
        rw [List.all_append, hb]
        simp
        omega
      have hxr : rd (P ++ [more]) 10 = rd P 10 := by
        simp [rd, List.getElem?_append, show (10 : Nat) < P.length by have := HPL.out; omega]
      have hxf := get_false (P ++ [more]) hxb (by
        right
        rw [hxr, HPR.out, List.length_append, HPL.out]
        simp
        omega) 60
      refine (marker_Get.calls 60 A4 c4 (P ++ [more]) _ _ _ _ _ _ W4 hC4 hcl4 hxf).mono ?_
      clear hxf hxr hxb hC4 hown4 hg4 hat4 hg3 hat3 hown3 hb3
      rintro en W5 ⟨v5, rfl, hR5, hb5⟩
      obtain ⟨A5, c5, rfl, hcl5, hC5⟩ := Kd.R_reads hR5
      have HB5 := Aside0.mk (HB0.out.trans ((HB1.out.mono (by omega)).trans ((HB2.out.mono (by omega)).trans ((hb4.mono (by omega)).trans (hb5.mono (by have := hb4.size; omega))))))
      clear hR5 hC5 hb5 hb4
      go_wp2_with fail
      go_ret
      exact ⟨rfl, below_alloc HB5.out _⟩

set_option linter.unusedVariables false in
theorem marker_cut_walk (a0_0 a0_1 a0_2 a0_3 : Int) (a0_4 : Option Addr) (len0_4 cap0_4 : Nat) (z0_4 : List Int) (a1 a2 : Int) (w : World)
    (w0_0 : (Lit.int .i64 a0_0).wf = true) (w0_1 : (Lit.int .i64 a0_1).wf = true) (w0_2 : (Lit.int .i64 a0_2).wf = true) (w0_3 : (Lit.int .i64 a0_3).wf = true)
    (w0_4 : (a0_4 = none ∧ len0_4 = 0 ∧ cap0_4 = 0 ∧ z0_4 = []) ∨ ∃ x, a0_4 = some x ∧ len0_4 ≤ cap0_4 ∧ cap0_4 ≤ maxLen ∧ z0_4.length = cap0_4 ∧ (∀ i, i < z0_4.length → w.cell? (x.add i) = some (.int .i64 (z0_4.getD i 0))) ∧ ∀ n ∈ z0_4, (Lit.int .i64 n).wf = true)
    (w1 : (Lit.int .u8 a1).wf = true) (w2 : (Lit.int .u8 a2).wf = true) :
    Calls Try.prog 6 #[.agg #[.int .i64 a0_0, .int .i64 a0_1, .int .i64 a0_2, .int .i64 a0_3, .slice a0_4 len0_4 cap0_4], .int .u8 a1, .int .u8 a2] w fun e w' => e = .returned (.bool true) ∧ Below w.heap.size w w' := by
  obtain ⟨l0, rfl, hr0, hm0, hw0, hc0⟩ := ReadsInt.ofRowC w0_4
  have e0 : IntKind.u8.min = 0 := rfl
  have e1 : IntKind.u8.max = 255 := rfl
  simp [Lit.wf] at w1 w2
  exact cut_calls a0_0 a0_1 a0_2 a0_3 a1 a2 _ _ l0 w (Kd.C_of_reads (d := (0 : Int)) (h1 := fun _ => rfl) hr0) hc0 (by omega) (by omega) (by omega) (by omega)
end Go.Proofs.Ytelpnlpbjenmkaa.Pure
