/- The document's own guard: Issue, where the class has none yet. -/
import Derived.Test.YtbaebohhbnomoaaRefIssA
namespace Go.Proofs.Ytbaebohhbnomoaa.G
open Go.RowKit
set_option linter.unusedVariables false
set_option linter.unusedSimpArgs false

set_option maxRecDepth 100000 in
set_option maxHeartbeats 6400000 in
theorem rissue_nil (B r : Nat) (s : RSt) (own : Nat → Prop) (m : Nat) (now : Int) (w : World) (h : RHeld B w r s own) (ok : ROk s) (hr : rroom (rtick s now) m ≠ 0) (hm : m < s.nx.length) (hnil : s.ats m = []) :
    Calls Try.prog 15 #[.pointer (some ⟨r, 0, none⟩), .int .i64 (m : Int), .int .i64 now] w (RIssuePost B r s own m now w) := by
  obtain ⟨i0, hi0, hz0, hz1, hz2⟩ := info_parts info2
  obtain ⟨j0, hj0, hy0, hy1, hy2⟩ := info_parts info3
  obtain ⟨k0, hk0, hx0, hx1, hx2⟩ := info_parts info37
  have HNIL := Lib.hid hnil
  have HM := Lib.hid (rmay B r s own m now w h ok)
  have HH := Lib.hid h
  have HN : Hid (rissueN s m now = gi s.nx m) := Lib.hid (by unfold rissueN; rw [if_neg hr, Int.toNat_natCast])
  have HB : Hid (rissueB s m now = true) := Lib.hid (by unfold rissueB; simp [hr])
  have HS := Lib.hid (show rissueS s m now = _ from if_neg hr)
  rw [Int.toNat_natCast] at HS
  have hr0 : (rroom (rtick s now) m == 0) = false := beq_eq_false_iff_ne.2 hr
  have hm2 : (m : Int) < (s.nx.length : Int) := by omega
  have hm3 : (0 : Int) ≤ (m : Int) := by omega
  have hfew := ok.few m hm
  have hnx := ok.next m hm
  have hbits := ok.bits
  have HBT := Lib.hid hbits
  have hnx0 := hnx.1
  have hnx1 := Lib.hid hnx.2
  clear h ok hr hnx hbits
  go_enter Try.func15, Try.ntmps15
  go_wp2_with (first
    | (go_at_call 13; refine HM.out.mono ?_; rintro e w1 ⟨rfl, hg1, ht1⟩; obtain ⟨⟨gn, cn, ga, ca, vs, ha⟩, hl1, hlo1, hba1⟩ := hg1; have c3 : w1.cell? ⟨r, 3, none⟩ = some (.slice (some ⟨gn, 0, none⟩) s.nx.length cn) := (blk_at ha.head 3).trans rfl; have hcell : w1.cell? ⟨gn, m, none⟩ = some (.int .i64 (gi s.nx m)) := RowI.cellm ha.num hm; have HA := Lib.hid ha; have HL1 := Lib.hid hl1; have HLO := Lib.hid hlo1; have HT1 := Lib.hid ht1; have c3b : ∀ o : Obj, (w1.alloc o).cell? ⟨r, 3, none⟩ = some (.slice (some ⟨gn, 0, none⟩) s.nx.length cn) := fun o => cell_al c3; clear ha ht1 hl1 hlo1)
    | (at_builtin; refine wpList_append_lies _ rfl (.tmp 25) (.tmp 29) 38 rfl 0 3 j0 _ 1 8 Try.underlying38 hj0 hy0 hy1 hy2 rfl (by omega) (.slice (some ⟨w1.heap.size, 0, none⟩) 0 0) 0 [] rfl (own_empty (heap_alloc_new w1 _)) ⟨gn, 0, none⟩ s.nx.length cn (ints s.nx) rfl (by simp [ints]) (World.ownsRow.cells (World.ownsRow.alloc HA.out.num _) rfl) (by simp [ints, Value.oneCell']) (by omega) (by have := HA.out.cap; unfold maxLen; simp [rtick] at this; omega) (by have := HA.out.cap; simp [rtick] at this; omega) (by omega) _ rfl ?_; intro g2 cap2 w2 own2 grow2 at2 lt2; have B2 := Lib.hid (((Below.refl w1.heap.size w1).alloc (Nat.le_refl _) _).grown grow2 (by simp) (fun k e => by simp [Value.ownBlock] at e; omega)); have hg2 : w1.heap.size ≤ g2 := (by rcases at2 with h5 | h5 <;> simp [Value.ownBlock] at h5 <;> omega); have R2 := Lib.hid ((B2.out.block r (HL1.out r HA.out.ou)).trans HA.out.head); have OWN2 := Lib.hid (show RowI w2 (.slice (some ⟨g2, 0, none⟩) s.nx.length cap2) s.nx from by rw [Nat.zero_add, List.nil_append] at own2; exact own2); have e0 : w2.cell? ⟨r, 0, none⟩ = some (.int .i64 s.bits) := (blk_at R2.out 0).trans rfl; have f3 := blk_free R2.out 3; have e3 : w2.cell? ⟨r, 3, none⟩ = some (.slice (some ⟨gn, 0, none⟩) s.nx.length cn) := (blk_at R2.out 3).trans rfl; have cg := RowI.cellm OWN2.out hm; have fg := World.ownsRow.frozenAt OWN2.out m; have hrg : r ≠ g2 := (by have := HL1.out r HA.out.ou; omega); have T3 := Lib.hid (turned_r (m := m) (r := r) (x := .int .i64 ((gi s.nx m + 1) % NumPlain.all s.bits)) (y := .slice (some ⟨g2, 0, none⟩) s.nx.length cap2) B2.out hg2); have R3 := Lib.hid (head_r (m := m) (x := .int .i64 ((gi s.nx m + 1) % NumPlain.all s.bits)) R2.out hrg (.slice (some ⟨g2, 0, none⟩) s.nx.length cap2)); have N3 := Lib.hid (num_r (r := r) OWN2.out hrg m ((gi s.nx m + 1) % NumPlain.all s.bits) (.slice (some ⟨g2, 0, none⟩) s.nx.length cap2)); have V3 := Lib.hid (HA.out.rows.kept (w' := ((w2.setCell ⟨g2, m, none⟩ (.int .i64 ((gi s.nx m + 1) % NumPlain.all s.bits))).setCell ⟨r, 3, none⟩ (.slice (some ⟨g2, 0, none⟩) s.nx.length cap2))) (fun k e => T3.out.keep k (HA.out.rows.lt e) (fun e' => by obtain ⟨c1, h1⟩ := HA.out.rows.block e; exact ne_types HA.out.head h1 (by decide) e'.symm))); have S3 : ((w2.setCell ⟨g2, m, none⟩ (.int .i64 ((gi s.nx m + 1) % NumPlain.all s.bits))).setCell ⟨r, 3, none⟩ (.slice (some ⟨g2, 0, none⟩) s.nx.length cap2)).heap.size = w2.heap.size := (by simp [World.setCell]); have HS3 := Lib.hid S3; have e4b : ∀ o : Obj, (((w2.setCell ⟨g2, m, none⟩ (.int .i64 ((gi s.nx m + 1) % NumPlain.all s.bits))).setCell ⟨r, 3, none⟩ (.slice (some ⟨g2, 0, none⟩) s.nx.length cap2)).alloc o).cell? ⟨r, 4, none⟩ = some (.slice (some ⟨ga, 0, none⟩) s.nx.length ca) := (fun o => cell_al ((blk_at R3.out 4).trans rfl)); clear own2 grow2 at2 c3 c3b S3)
    | (go_at_call 19; refine (Hand.ref_add s.bits (gi s.nx m) _ HBT.out hnx0 hnx1.out).mono ?_; rintro e w' ⟨rfl, rfl⟩)
    | (at_builtin; refine wpList_append_lies _ rfl (.tmp 44) (.tmp 48) 53 rfl 0 37 k0 _ 1 24 Try.underlying53 hk0 hx0 hx1 hx2 rfl (by omega) (.slice (some ⟨w2.heap.size, 0, none⟩) 0 0) 0 [] rfl (own_empty2 _ HS3.out) ⟨ga, 0, none⟩ s.nx.length ca vs rfl (by have := HA.out.len; simp [rtick] at this; simp [this]) (World.ownsRow.cells (World.ownsRow.alloc (ga_row HA.out.len V3.out) _) rfl) HA.out.ones (by omega) (by have := HA.out.cap; unfold maxLen; simp [rtick] at this; omega) (by have := HA.out.cap; simp [rtick] at this; omega) (by omega) _ rfl ?_; intro g4 cap4 w4 own4 grow4 at4 lt4; have B4 := Lib.hid (((Below.refl ((w2.setCell ⟨g2, m, none⟩ (.int .i64 ((gi s.nx m + 1) % NumPlain.all s.bits))).setCell ⟨r, 3, none⟩ (.slice (some ⟨g2, 0, none⟩) s.nx.length cap2)).heap.size ((w2.setCell ⟨g2, m, none⟩ (.int .i64 ((gi s.nx m + 1) % NumPlain.all s.bits))).setCell ⟨r, 3, none⟩ (.slice (some ⟨g2, 0, none⟩) s.nx.length cap2))).alloc (Nat.le_refl _) _).grown grow4 (by simp) (fun k e => by simp [Value.ownBlock] at e; subst e; exact Nat.le_of_eq HS3.out)); have hg4 : w2.heap.size ≤ g4 := (by rcases at4 with h5 | h5 <;> simp [Value.ownBlock, World.setCell] at h5 <;> omega); have OWN4 := Lib.hid (show RowV w4 (.slice (some ⟨g4, 0, none⟩) vs.length cap4) vs from by rw [Nat.zero_add, List.nil_append] at own4; have hl : vs.length = s.nx.length := HA.out.len; unfold RowV; rw [hl]; exact own4); have R4 := Lib.hid ((B4.out.block r (by have := HL1.out r HA.out.ou; have := T3.out.size; omega)).trans R3.out); have N4 := Lib.hid (N3.out.kept (w' := w4) (fun k e => B4.out.block k (N3.out.lt e))); have T4 := Lib.hid (T3.out.trans (Turned.of_below (own := fun k => k = r) B4.out) (fun _ _ e => e)); clear own4 grow4 at4 e4b))
  have hvm : vs.getD m undef = vs[m]'(by have : vs.length = s.nx.length := HA.out.len; omega) := by
    rw [List.getD_eq_getElem?_getD, List.getElem?_eq_getElem (by have : vs.length = s.nx.length := HA.out.len; omega)]
    rfl
  have cm0 : w4.cell? ⟨g4, m, none⟩ = some (vs.getD m undef) := by
    rw [World.ownsRow.cellAt OWN4.out m (by have : vs.length = s.nx.length := HA.out.len; omega), hvm]
    exact List.getElem?_eq_getElem _
  have fm := World.ownsRow.frozenAt OWN4.out m
  have c5 : w4.cell? ⟨r, 5, none⟩ = some (.int .i64 (rtk s now)) := (blk_at R4.out 5).trans rfl
  have f4 := blk_free R4.out 4
  have hrow1 : Row w1 (vs.getD m undef) (s.ats m) := HA.out.row m hm
  have hrow4 : Row w4 (vs.getD m undef) (s.ats m) := hrow1.kept (fun k e => T4.out.keep k (hrow1.lt e) (fun e' => by obtain ⟨c1, h1⟩ := hrow1.block e; exact ne_types HA.out.head h1 (by decide) e'.symm))
  have hrg4 : r ≠ g4 := by have := HL1.out r HA.out.ou; have := B2.out.size; omega
  clear e0 f3 e3 cg fg hvm hrow1
  have HX : Hid ((gi s.nx m + 1) % NumPlain.all s.bits = NumPlain.add s.bits (gi s.nx m) 1) := Lib.hid (by unfold NumPlain.add; rw [if_pos (by unfold NumPlain.right; rw [decide_eq_true hnx0, decide_eq_true hnx1.out]; rfl)])
  have N4' := N4
  rw [HX.out] at N4'
  have N5 := Lib.hid N4'.out
  clear N4'
  have ev : vs.getD m undef = .slice none 0 0 := HA.out.nil m hm hnil
  rw [ev] at cm0
  have hap := append_empty
  have ca1 : ∀ o, (w4.alloc o).cell? ⟨g4, m, none⟩ = some (.slice none 0 0) := fun o => cell_al cm0
  have ca2 : ∀ o o', ((w4.alloc o).alloc o').cell? ⟨g4, m, none⟩ = some (.slice none 0 0) := fun o o' => cell_al (cell_al cm0)
  have c51 : ∀ o, (w4.alloc o).cell? ⟨r, 5, none⟩ = some (.int .i64 (rtk s now)) := fun o => cell_al c5
  have c52 : ∀ o o', ((w4.alloc o).alloc o').cell? ⟨r, 5, none⟩ = some (.int .i64 (rtk s now)) := fun o o' => cell_al (cell_al c5)
  have OE1 : ((w4.alloc (Obj.cells #[] 2)).alloc (Obj.cells #[.int .i64 (rtk s now)] 2)).drew.ownsRow 0 2 1 (.slice (some ⟨w4.heap.size, 0, none⟩) 0 0) 0 [] := own_empty ((Below.heap_alloc _ _ _ (by simp)).trans (heap_alloc_new w4 _))
  have NE1 : ∀ (j : Nat) u, ([.int .i64 (rtk s now)] : List Value)[j]? = some u → ((w4.alloc (Obj.cells #[] 2)).alloc (Obj.cells #[.int .i64 (rtk s now)] 2)).drew.cell? ((⟨w4.heap.size + 1, 0, none⟩ : Addr).add j) = some u := World.news_of_block (cs := #[.int .i64 (rtk s now)]) (t := 2) (fr := (0, 0)) (by have h := heap_alloc_new (w4.alloc (Obj.cells #[] 2)) (Obj.cells #[.int .i64 (rtk s now)] 2); rw [World.size_alloc] at h; exact h)
  have OE2 : ((w4.alloc (Obj.cells #[.int .i64 (rtk s now)] 2)).alloc (Obj.cells #[] 2)).drew.ownsRow 0 2 1 (.slice (some ⟨w4.heap.size + 1, 0, none⟩) 0 0) 0 [] := own_empty (by have h := heap_alloc_new (w4.alloc (Obj.cells #[.int .i64 (rtk s now)] 2)) (Obj.cells #[] 2); rw [World.size_alloc] at h; exact h)
  have NE2 : ∀ (j : Nat) u, ([.int .i64 (rtk s now)] : List Value)[j]? = some u → ((w4.alloc (Obj.cells #[.int .i64 (rtk s now)] 2)).alloc (Obj.cells #[] 2)).drew.cell? ((⟨w4.heap.size, 0, none⟩ : Addr).add j) = some u := World.news_of_block (cs := #[.int .i64 (rtk s now)]) (t := 2) (fr := (0, 0)) ((Below.heap_alloc _ _ _ (by simp)).trans (heap_alloc_new w4 _))
  have BE1 : Below w4.heap.size w4 ((w4.alloc (Obj.cells #[] 2)).alloc (Obj.cells #[.int .i64 (rtk s now)] 2)).drew := (((Below.refl w4.heap.size w4).alloc (Nat.le_refl _) _).alloc (by simp) _).drew
  have BE2 : Below w4.heap.size w4 ((w4.alloc (Obj.cells #[.int .i64 (rtk s now)] 2)).alloc (Obj.cells #[] 2)).drew := (((Below.refl w4.heap.size w4).alloc (Nat.le_refl _) _).alloc (by simp) _).drew
  have hmx : 0 + 1 ≤ maxLen := by unfold maxLen; omega
  have HOE1 := Lib.hid OE1
  have HOE2 := Lib.hid OE2
  have HNE1 := Lib.hid NE1
  have HNE2 := Lib.hid NE2
  have HBE1 := Lib.hid BE1
  have HBE2 := Lib.hid BE2
  have HMX := Lib.hid hmx
  clear OE1 OE2 NE1 NE2 BE1 BE2 hmx
  go_region_law (first
    | (refine step_append_lies _ (by rfl) _ _ _ (by rfl) 0 2 i0 _ 1 8 Try.underlying37 hi0 hz0 hz1 hz2 rfl (by omega) (.slice (some ⟨w4.heap.size, 0, none⟩) 0 0) 0 [] (by rfl) HOE1.out ⟨w4.heap.size + 1, 0, none⟩ 1 1 [.int .i64 (rtk s now)] (by rfl) (by rfl) HNE1.out (by simp [Value.oneCell']) (by omega) HMX.out (by omega) (by omega) _ rfl ?_
       intro g8 cap8 w8 own8 grow8 at8 lt8
       have B8 := Lib.hid (app8 HBE1.out grow8 (own_from (Nat.le_refl _)) at8)
       have d8 : w8.cell? ⟨g4, m, none⟩ = some (.slice none 0 0) := below_cell2 B8.out.1 rfl cm0
       have fm8 : w8.frozen? ⟨g4, m, none⟩ = false := below_free2 B8.out.1 rfl cm0 fm
       have f48 : w8.frozen? ⟨r, 4, none⟩ = false := below_free2 B8.out.1 rfl c5 f4
       have e48 : w8.cell? ⟨r, 4, none⟩ = some (.slice (some ⟨ga, 0, none⟩) s.nx.length ca) := below_cell2 B8.out.1 rfl ((blk_at R4.out 4).trans rfl)
       have OWN8 := Lib.hid own8
       clear own8 grow8 at8)
    | (refine step_append_lies _ (by rfl) _ _ _ (by rfl) 0 2 i0 _ 1 8 Try.underlying37 hi0 hz0 hz1 hz2 rfl (by omega) (.slice (some ⟨w4.heap.size + 1, 0, none⟩) 0 0) 0 [] (by rfl) HOE2.out ⟨w4.heap.size, 0, none⟩ 1 1 [.int .i64 (rtk s now)] (by rfl) (by rfl) HNE2.out (by simp [Value.oneCell']) (by omega) HMX.out (by omega) (by omega) _ rfl ?_
       intro g8 cap8 w8 own8 grow8 at8 lt8
       have B8 := Lib.hid (app8 HBE2.out grow8 (own_from (b := w4.heap.size + 1) (n := 0) (c := 0) (Nat.le_succ _)) at8)
       have d8 : w8.cell? ⟨g4, m, none⟩ = some (.slice none 0 0) := below_cell2 B8.out.1 rfl cm0
       have fm8 : w8.frozen? ⟨g4, m, none⟩ = false := below_free2 B8.out.1 rfl cm0 fm
       have f48 : w8.frozen? ⟨r, 4, none⟩ = false := below_free2 B8.out.1 rfl c5 f4
       have e48 : w8.cell? ⟨r, 4, none⟩ = some (.slice (some ⟨ga, 0, none⟩) s.nx.length ca) := below_cell2 B8.out.1 rfl ((blk_at R4.out 4).trans rfl)
       have OWN8 := Lib.hid own8
       clear own8 grow8 at8)
    | fail)
  all_goals
    clear ca1 ca2 c51 c52
    go_wp2_with fail
    go_ret2
    unfold RIssuePost
    rw [HN.out, HB.out, HS.out]
    have O8 : Row w8 (.slice (some ⟨g8, 0, none⟩) 1 cap8) (s.ats m ++ [rtk s now]) := by rw [HNIL.out]; exact OWN8.out
    refine ⟨ret_ib rfl rfl, ?_⟩
    exact rissue_end HA.out HL1.out HLO.out HH.out.lt HH.out.base HT1.out hm R4.out N5.out OWN4.out T4.out hg2 (Nat.le_trans B2.out.size hg4) B8.out lt8 O8
end Go.Proofs.Ytbaebohhbnomoaa.G
