/- The guard's Issue. -/
import Derived.Test.YtbaebohhbnomoaaLives
import Derived.OwnWalk
import Derived.WalkSpells
import Derived.Outline
import Derived.Deep.RegionLaw
namespace Go.Proofs.Ytbaebohhbnomoaa.G
open Go.RowKit
set_option linter.unusedVariables false
set_option linter.unusedSimpArgs false

theorem info2 : (Try.prog.info? 2).map (fun i => (i.zero, i.size, i.bytes)) = some (some (.int .i64 0), 1, 8) := by kernel_rfl

theorem ret_ib {a a' : Int} {b b' : Bool} (h : a = a') (h' : b = b') : Ending.returned (.tuple #[.int .i64 a, .bool b]) = .returned (.tuple #[.int .i64 a', .bool b']) := by rw [h, h']
/-- The state behind an Issue. -/
def issueS (s : St) (c now : Int) : St :=
  if room (mayS s c now) c = 0 then mayS s c now
  else { mayS s c now with next := upd (mayS s c now).next c.toNat (NumPlain.add s.bits ((mayS s c now).next c.toNat) 1), ats := upd (mayS s c now).ats c.toNat ((mayS s c now).ats c.toNat ++ [(mayS s c now).now]) }
def issueN (s : St) (c now : Int) : Int := if room (mayS s c now) c = 0 then 0 else (mayS s c now).next c.toNat
def issueB (s : St) (c now : Int) : Bool := !decide (room (mayS s c now) c = 0)

def IssuePost (g : Nat) (s : St) (own : Nat → Prop) (c now : Int) (w : World) (e : Ending) (w' : World) : Prop :=
  e = .returned (.tuple #[.int .i64 (issueN s c now), .bool (issueB s c now)]) ∧ GuardAt w' g (issueS s c now) (More own w w') ∧ Turned own w w'

theorem GuardAt.more {w w' : World} {g : Nat} {s : St} {own : Nat → Prop} (h : GuardAt w' g s own) (hl : ∀ k, own k → k < w.heap.size) (ht : Turned own w w') : GuardAt w' g s (More own w w') :=
  h.mono (fun k hk => .inl hk) (fun k hk => by exact hk.elim (fun h1 => Nat.lt_of_lt_of_le (hl k h1) ht.size) (fun h1 => h1.2))

set_option maxHeartbeats 800000 in
theorem issue_no (g : Nat) (s : St) (own : Nat → Prop) (c now : Int) (w : World) (h : GuardAt w g s own) (ok : Ok s) (hc : (Lit.int .i64 c).wf = true) (hr : room (mayS s c now) c = 0) :
    Calls Try.prog 14 #[.pointer (some ⟨g, 0, none⟩), .int .i64 c, .int .i64 now] w (IssuePost g s own c now w) := by
  have HM := Lib.hid (may_any g s own c now w h ok hc)
  have HL := Lib.hid h.1
  have HN : Hid (issueN s c now = 0) := Lib.hid (if_pos hr)
  have HB : Hid (issueB s c now = false) := Lib.hid (by unfold issueB; simp [hr])
  have HS : Hid (issueS s c now = mayS s c now) := Lib.hid (if_pos hr)
  have HR := Lib.hid hr
  clear h ok hc hr
  go_enter Try.func14, Try.ntmps14
  go_wp2_with (go_at_call 12; refine HM.out.mono ?_; rintro e w1 ⟨rfl, hg1, ht1⟩; rw [HR.out]; have HG1 := Lib.hid hg1; have HT1 := Lib.hid ht1; clear hg1 ht1)
  go_ret2
  exact ⟨ret_ib HN.out.symm HB.out.symm, by rw [HS.out]; exact HG1.out.more HL.out HT1.out, HT1.out⟩

theorem Row.alloc2 {w : World} {v : Value} {xs : List Int} (h : Row w v xs) (o : Obj) : Row (w.alloc o) v xs := World.ownsRow.alloc h o
theorem Row.below2 {w w' : World} {v : Value} {xs : List Int} (h : Row w v xs) (hb : Below w.heap.size w w') : Row w' v xs := h.kept (fun k e => hb.block k (h.lt e))
theorem grown_trans {a b c : World} {row : Option Nat} (h : a.grownBy b row) (k : b.grownBy c row) : a.grownBy c row :=
  ⟨k.os.trans h.os, k.tape.trans h.tape, k.output.trans h.output, Nat.le_trans h.size k.size, fun i hi hne => (k.block i (Nat.lt_of_lt_of_le hi h.size) hne).trans (h.block i hi hne)⟩
theorem grown_below {a b : World} {row : Option Nat} (h : Below a.heap.size a b) : a.grownBy b row := ⟨h.os, h.tape, h.output, h.size, fun i hi _ => h.block i hi⟩
theorem grown_undrew {a b : World} {row : Option Nat} (h : a.drew.grownBy b row) : a.grownBy b row := ⟨h.os, h.tape, h.output, h.size, h.block⟩

theorem issue_end {w w1 X : World} {g : Nat} {s1 : St} {own : Nat → Prop} {m : Nat} {bs : Nat → Nat} {vs : Nat → Value} {i gg cap : Nat} {q : Int} (ha : At w1 g s1 own m bs vs) (hl : ∀ k, own k → k < w1.heap.size) (hl0 : ∀ k, own k → k < w.heap.size) (ht : Turned own w w1) (hi : i < s1.n)
    (hB : X.heap[bs i]? = some (.cells #[.int .i64 (s1.next i), vs i] 52 (0, 0))) (hg : w1.grownBy X (vs i).ownBlock)
    (hr : X.ownsRow 0 2 1 (.slice (some ⟨gg, 0, none⟩) ((s1.ats i).length + 1) cap) ((s1.ats i).length + 1) (ints (s1.ats i) ++ [.int .i64 s1.now])) (hgg : (vs i).ownBlock = some gg ∨ w1.heap.size ≤ gg) (hlt : gg < X.heap.size) :
    GuardAt ((X.setCell ⟨bs i, 0, none⟩ (.int .i64 q)).setCell ⟨bs i, 1, none⟩ (.slice (some ⟨gg, 0, none⟩) ((s1.ats i).length + 1) cap)) g { s1 with next := upd s1.next i q, ats := upd s1.ats i (s1.ats i ++ [s1.now]) }
      (More own w ((X.setCell ⟨bs i, 0, none⟩ (.int .i64 q)).setCell ⟨bs i, 1, none⟩ (.slice (some ⟨gg, 0, none⟩) ((s1.ats i).length + 1) cap))) ∧
    Turned own w ((X.setCell ⟨bs i, 0, none⟩ (.int .i64 q)).setCell ⟨bs i, 1, none⟩ (.slice (some ⟨gg, 0, none⟩) ((s1.ats i).length + 1) cap)) := by
  have hT : Turned own w ((X.setCell ⟨bs i, 0, none⟩ (.int .i64 q)).setCell ⟨bs i, 1, none⟩ (.slice (some ⟨gg, 0, none⟩) ((s1.ats i).length + 1) cap)) :=
    ((ht.trans (Turned.of_grown (own := own) hg (fun k e => ha.ov i hi k e)) (fun _ _ h => h)).trans (Turned.setCell (own := own) _ ⟨bs i, 0, none⟩ _ (ha.ob i hi)) (fun _ _ h => h)).trans (Turned.setCell (own := own) _ ⟨bs i, 1, none⟩ _ (ha.ob i hi)) (fun _ _ h => h)
  refine ⟨⟨fun k hk => ?_, m, bs, upd vs i (.slice (some ⟨gg, 0, none⟩) ((s1.ats i).length + 1) cap), ?_⟩, hT⟩
  · rcases hk with h1 | h1
    · exact Nat.lt_of_lt_of_le (hl0 k h1) hT.size
    · exact h1.2
  have hne : gg ≠ bs i := by
    rcases hr.2 with ⟨h', _⟩ | ⟨g', cap', cur, h', _, hg', _⟩
    · simp at h'
    · simp only [Value.slice.injEq, Option.some.injEq, Addr.mk.injEq, and_true, true_and] at h'
      obtain ⟨rfl, rfl⟩ := h'
      exact ne_types hg' hB (by decide)
  have hlen : (s1.ats i ++ [s1.now]).length = (s1.ats i).length + 1 := by simp
  have hints : ints (s1.ats i) ++ [.int .i64 s1.now] = ints (s1.ats i ++ [s1.now]) := by simp [ints]
  refine ha.put hl i hi q (.slice (some ⟨gg, 0, none⟩) ((s1.ats i).length + 1) cap) (s1.ats i ++ [s1.now]) (fun k hk h1 h2 => ?_) ?_ ?_ (fun k e => ?_) _ (fun k hk => .inl hk) (fun k e => ?_)
  · rw [Below.heap_setCell _ _ _ _ h1, Below.heap_setCell _ _ _ _ h1]
    exact hg.block k (hl k hk) (fun e => h2 e.symm)
  · exact (blk_set (blk_set hB 0 (.int .i64 q)) 1 (.slice (some ⟨gg, 0, none⟩) ((s1.ats i).length + 1) cap)).trans rfl
  · unfold Row
    rw [hlen, ← hints]
    have hr' : Row X (.slice (some ⟨gg, 0, none⟩) ((s1.ats i).length + 1) cap) (s1.ats i ++ [s1.now]) := by
      unfold Row
      rw [hlen, ← hints]
      exact hr
    have hk := hr'.kept (w' := (X.setCell ⟨bs i, 0, none⟩ (.int .i64 q)).setCell ⟨bs i, 1, none⟩ (.slice (some ⟨gg, 0, none⟩) ((s1.ats i).length + 1) cap)) (fun k e => by
      simp [Value.ownBlock] at e
      subst e
      rw [Below.heap_setCell _ _ _ _ hne, Below.heap_setCell _ _ _ _ hne])
    unfold Row at hk
    rw [hlen, ← hints] at hk
    exact hk
  · simp [Value.ownBlock] at e
    subst e
    exact hgg
  · simp [Value.ownBlock] at e
    subst e
    rcases hgg with h1 | h1
    · exact .inl (ha.ov i hi _ h1)
    · exact .inr ⟨Nat.le_trans ht.size h1, by simpa [World.setCell] using hlt⟩

theorem cell_al {w : World} {a : Addr} {v : Value} {o : Obj} (h : w.cell? a = some v) : (w.alloc o).cell? a = some v := (World.cell?_of_block (Below.heap_alloc w o _ (World.block_lt_of_cell? w _ h))).trans h
/-- What a cell holds. -/
def cellOf (w : World) (a : Addr) : Value := (w.cell? a).getD undef
theorem cellOf_of {w : World} {a : Addr} {v : Value} (h : w.cell? a = some v) : w.cell? a = some (cellOf w a) := by unfold cellOf; rw [h]; rfl
theorem cellOf_is {w : World} {a : Addr} {v : Value} (h : w.cell? a = some v) : cellOf w a = v := by unfold cellOf; rw [h]; rfl
theorem cellOf_set {w : World} {a b : Addr} {u : Value} (h : w.cell? a = some (cellOf w a)) : (w.setCell b u).cell? a = some (cellOf (w.setCell b u) a) := by
  obtain ⟨v', hv⟩ := cell?_setCell_some (w := w) (p := b) (x := u) (q := a) (v := cellOf w a) h
  exact cellOf_of hv
theorem step_wanted {ops : Array Oper} {o : Oper} {a : Act} {X E : Prop} (hg : o.guard = none) (h : X) : if Region.wanted o (yielded ops a.tmps) = true then X else E := by
  have hw : Region.wanted o (yielded ops a.tmps) = true := by simp [Region.wanted, hg]
  rw [if_pos hw]
  exact h
theorem below_undrew {w w' : World} (h : Below w.drew.heap.size w.drew w') : Below w.heap.size w w' := ⟨h.os, h.tape, h.output, h.size, h.block⟩
theorem below_unalloc {w w' : World} {o : Obj} (h : Below (w.alloc o).drew.heap.size (w.alloc o).drew w') : Below w.heap.size w w' :=
  ((Below.refl _ w).alloc (Nat.le_refl _) o).trans ((⟨h.os, h.tape, h.output, h.size, h.block⟩ : Below (w.alloc o).heap.size (w.alloc o) w').mono (by simp))
set_option maxHeartbeats 3200000 in
theorem issue_yes (g : Nat) (s : St) (own : Nat → Prop) (c now : Int) (w : World) (h : GuardAt w g s own) (ok : Ok s) (hc : (Lit.int .i64 c).wf = true) (hr : room (mayS s c now) c ≠ 0) :
    Calls Try.prog 14 #[.pointer (some ⟨g, 0, none⟩), .int .i64 c, .int .i64 now] w (IssuePost g s own c now w) := by
  obtain ⟨i0, hi0, hz0, hz1, hz2⟩ := info_parts info2
  have HM := Lib.hid (may_any g s own c now w h ok hc)
  have HL := Lib.hid h.1
  have HN : Hid (issueN s c now = (mayS s c now).next c.toNat) := Lib.hid (if_neg hr)
  have HB : Hid (issueB s c now = true) := Lib.hid (by unfold issueB; simp [hr])
  have HS := Lib.hid (show issueS s c now = _ from if_neg hr)
  have hin : 0 ≤ c ∧ c < s.n := Classical.byContradiction fun hn => hr (by unfold room; rw [if_neg]; unfold mayS; rw [if_neg hn]; exact hn)
  have hms : mayS s c now = cutAt s (tk s now) c.toNat := if_pos hin
  have hr0 : (room (mayS s c now) c == 0) = false := beq_eq_false_iff_ne.2 hr
  generalize hS1 : mayS s c now = s1 at *
  have hn1 : s1.n = s.n := by rw [hms]; rfl
  have hb1 : s1.bits = s.bits := by rw [hms]; rfl
  have HC := Lib.hid hc
  have OK := Lib.hid ok
  have hlen : (s1.ats c.toNat).length ≤ 4194304 := by
    rw [hms]
    show (upd s.ats c.toNat (keep (tk s now) s.life (s.ats c.toNat)) c.toNat).length ≤ _
    rw [upd_same]
    have h1 := keep_le (tk s now) s.life (s.ats c.toNat)
    have h2 := OK.out.room c.toNat (by omega)
    have h3 := OK.out.w1
    omega
  have hi : c.toNat < s1.n := by omega
  have hin1 : 0 ≤ c ∧ c < s1.n := by omega
  have HIN := Lib.hid hin1
  have HB1 := Lib.hid hb1
  have HS1 := Lib.hid hS1
  clear h ok hc hr hin hms hS1 hn1 hin1 hb1
  go_enter Try.func14, Try.ntmps14
  go_wp2_with (go_at_call 12; refine HM.out.mono ?_; rintro e w1 ⟨rfl, hg1, ht1⟩; rw [HS1.out]; rw [HS1.out] at hg1; obtain ⟨hl1, m, bs, vs, ha1⟩ := hg1; have c4 : w1.cell? ⟨g, 4, none⟩ = some (.map (some m)) := (blk_at ha1.head 4).trans rfl; have hlook := run_look w1 m bs s1.n ha1.map c HC.out; rw [show ptr bs s1.n c = some ⟨bs c.toNat, 0, none⟩ from if_pos HIN.out] at hlook; have c0 : w1.cell? ⟨bs c.toNat, 0, none⟩ = some (.int .i64 (s1.next c.toNat)) := (blk_at (ha1.cls c.toNat hi) 0).trans rfl; have HA1 := Lib.hid ha1; have HL1 := Lib.hid hl1; have HT1 := Lib.hid ht1; clear ha1 ht1 hl1)
  have hgs := HL1.out g HA1.out.og
  have hbsz := HL1.out _ (HA1.out.ob c.toNat hi)
  have hne : g ≠ bs c.toNat := ne_types HA1.out.head (HA1.out.cls c.toNat hi) (by decide)
  have cb : w1.cell? ⟨g, 0, none⟩ = some (.int .i64 s1.bits) := (blk_at HA1.out.head 0).trans rfl
  have cn : w1.cell? ⟨g, 3, none⟩ = some (.int .i64 s1.now) := (blk_at HA1.out.head 3).trans rfl
  have ca : w1.cell? ⟨bs c.toNat, 1, none⟩ = some (vs c.toNat) := (blk_at (HA1.out.cls c.toNat hi) 1).trans rfl
  have fa := blk_free (HA1.out.cls c.toNat hi) 1
  have f0 := blk_free (HA1.out.cls c.toNat hi) 0
  have HROW := Lib.hid (HA1.out.row c.toNat hi)
  have ag : some g ≠ (vs c.toNat).ownBlock := fun e => by
    obtain ⟨cur, hcur⟩ := (HA1.out.row c.toNat hi).block e.symm
    exact ne_types HA1.out.head hcur (by decide) rfl
  have ab : some (bs c.toNat) ≠ (vs c.toNat).ownBlock := fun e => by
    obtain ⟨cur, hcur⟩ := (HA1.out.row c.toNat hi).block e.symm
    exact ne_types (HA1.out.cls c.toNat hi) hcur (by decide) rfl
  clear c4 hlook hr0
  have B1 := HA1.out.cls c.toNat hi
  have hs11 := Nat.le_refl w1.heap.size
  have na := World.new_ne w1 ⟨bs c.toNat, 1, none⟩ ca
  have nb := World.new_ne w1 ⟨g, 0, none⟩ cb
  have ca2 : ∀ o : Obj, (w1.alloc o).cell? ⟨bs c.toNat, 1, none⟩ = some (vs c.toNat) := fun o => cell_al ca
  have nn := World.new_ne w1 ⟨g, 3, none⟩ cn
  have cb2 : ∀ o : Obj, (w1.alloc o).cell? ⟨g, 0, none⟩ = some (.int .i64 s1.bits) := fun o => cell_al cb
  have cn2 : ∀ o : Obj, (w1.alloc o).cell? ⟨g, 3, none⟩ = some (.int .i64 s1.now) := fun o => cell_al cn
  go_region_law
    (first
      | (refine step_wanted (by rfl) ?_
         unfold Oper.wp
         go_simp
         go_at_call 24; refine (Hand.add_any _ _ _ _).mono ?_; rintro e w2 ⟨rfl, hb2⟩
         have hs2 : w1.heap.size ≤ w2.heap.size := by have h5 := hb2.size; first | (simp at h5; omega) | (have h4 := hgrow3.size; simp at h4 h5; omega)
         have q0 : w2.cell? ⟨g, 0, none⟩ = some (.int .i64 s1.bits) := (hb2.cell (p := ⟨g, 0, none⟩) (by first | (show g < w1.heap.size; omega) | (simp; omega))).trans (by first | assumption | exact cell_al cb)
         have q3 : w2.cell? ⟨g, 3, none⟩ = some (.int .i64 s1.now) := (hb2.cell (p := ⟨g, 3, none⟩) (by first | (show g < w1.heap.size; omega) | (simp; omega))).trans (by first | assumption | exact cell_al cn)
         have B2 : w2.heap[bs c.toNat]? = some (.cells #[.int .i64 (s1.next c.toNat), vs c.toNat] 52 (0, 0)) := (hb2.block _ (by first | (show bs c.toNat < w1.heap.size; omega) | (simp; omega))).trans (by first | exact B3 | exact B1 | exact (Below.heap_alloc _ _ _ hbsz).trans B1)
         have q1 : w2.cell? ⟨bs c.toNat, 1, none⟩ = some (vs c.toNat) := (blk_at B2 1).trans rfl
         have q12 : ∀ o : Obj, (w2.alloc o).cell? ⟨bs c.toNat, 1, none⟩ = some (vs c.toNat) := fun o => cell_al q1
         have q02 : ∀ o : Obj, (w2.alloc o).cell? ⟨g, 0, none⟩ = some (.int .i64 s1.bits) := fun o => cell_al q0
         have q32 : ∀ o : Obj, (w2.alloc o).cell? ⟨g, 3, none⟩ = some (.int .i64 s1.now) := fun o => cell_al q3
         have q10 : w2.cell? ⟨bs c.toNat, 0, none⟩ = some (.int .i64 (s1.next c.toNat)) := (blk_at B2 0).trans rfl
         have r1 := blk_free B2 1
         have r0 := blk_free B2 0)
      | (refine step_append_lies _ (by rfl) _ _ _ (by rfl) 0 2 i0 _ 1 8 Try.underlying37 hi0 hz0 hz1 hz2 rfl (by omega) (vs c.toNat) (s1.ats c.toNat).length (ints (s1.ats c.toNat)) (by rfl)
           (by first | exact (Row.alloc2 HROW.out _).drew | exact HROW.out.below2 (below_unalloc hb2))
           ⟨w1.heap.size, 0, none⟩ 1 1 [.int .i64 s1.now] (by rfl) (by rfl) (by first | exact World.news_of_block (cs := #[.int .i64 s1.now]) (t := 2) (fr := (0, 0)) (heap_alloc_new w1 _) | exact World.news_of_block (cs := #[.int .i64 s1.now]) (t := 2) (fr := (0, 0)) ((hb2.block w1.heap.size (by simp)).trans (heap_alloc_new w1 _)))
           (by simp [Value.oneCell']) (by omega) (by unfold maxLen; omega) (by omega) (by omega) _ rfl ?_
         intro gg cap w3 hown3 hgrow3 hat3 hlt3
         have p0 : w3.cell? ⟨g, 0, none⟩ = some (.int .i64 s1.bits) := (hgrow3.cell_far ⟨g, 0, none⟩ (by first | (show g < _; omega) | (simp; omega)) ag).trans (by first | exact cell_al q0 | exact q0 | exact cell_al cb)
         have p3 : w3.cell? ⟨g, 3, none⟩ = some (.int .i64 s1.now) := (hgrow3.cell_far ⟨g, 3, none⟩ (by first | (show g < _; omega) | (simp; omega)) ag).trans (by first | exact cell_al q3 | exact q3 | exact cell_al cn)
         have B3 : w3.heap[bs c.toNat]? = some (.cells #[.int .i64 (s1.next c.toNat), vs c.toNat] 52 (0, 0)) := (hgrow3.block _ (by first | omega | (simp; omega)) ab).trans (by first | exact B2 | exact (Below.heap_alloc _ _ _ hbsz).trans B1)
         have p1 : w3.cell? ⟨bs c.toNat, 1, none⟩ = some (vs c.toNat) := (blk_at B3 1).trans rfl
         have p10 : w3.cell? ⟨bs c.toNat, 0, none⟩ = some (.int .i64 (s1.next c.toNat)) := (blk_at B3 0).trans rfl
         have t1 := blk_free B3 1
         have t0 := blk_free B3 0)
      | (refine step_append_lies _ (by rfl) _ _ _ (by rfl) 0 2 i0 _ 1 8 Try.underlying37 hi0 hz0 hz1 hz2 rfl (by omega) (vs c.toNat) (s1.ats c.toNat).length (ints (s1.ats c.toNat)) (by rfl)
           (Row.alloc2 (HROW.out.below2 (below_undrew hb2)) _)
           ⟨w2.heap.size, 0, none⟩ 1 1 [.int .i64 s1.now] (by rfl) (by rfl) (World.news_of_block (cs := #[.int .i64 s1.now]) (t := 2) (fr := (0, 0)) (heap_alloc_new w2 _))
           (by simp [Value.oneCell']) (by omega) (by unfold maxLen; omega) (by omega) (by omega) _ rfl ?_
         intro gg cap w3 hown3 hgrow3 hat3 hlt3
         have p0 : w3.cell? ⟨g, 0, none⟩ = some (.int .i64 s1.bits) := (hgrow3.cell_far ⟨g, 0, none⟩ (by first | (show g < _; omega) | (simp; omega)) ag).trans (by first | exact cell_al q0 | exact q0 | exact cell_al cb)
         have p3 : w3.cell? ⟨g, 3, none⟩ = some (.int .i64 s1.now) := (hgrow3.cell_far ⟨g, 3, none⟩ (by first | (show g < _; omega) | (simp; omega)) ag).trans (by first | exact cell_al q3 | exact q3 | exact cell_al cn)
         have B3 : w3.heap[bs c.toNat]? = some (.cells #[.int .i64 (s1.next c.toNat), vs c.toNat] 52 (0, 0)) := (hgrow3.block _ (by first | omega | (simp; omega)) ab).trans ((Below.heap_alloc _ _ _ (by omega)).trans B2)
         have p1 : w3.cell? ⟨bs c.toNat, 1, none⟩ = some (vs c.toNat) := (blk_at B3 1).trans rfl
         have p10 : w3.cell? ⟨bs c.toNat, 0, none⟩ = some (.int .i64 (s1.next c.toNat)) := (blk_at B3 0).trans rfl
         have t1 := blk_free B3 1
         have t0 := blk_free B3 0))
  all_goals
    rw [show NumPlain.add s1.bits (s1.next c.toNat) 1 = NumPlain.add s.bits (s1.next c.toNat) 1 from by rw [HB1.out]]
    clear ca2 cb2 cn2
    go_wp2_with fail
    go_ret2
    unfold IssuePost
    rw [HN.out, HB.out, HS.out]
    refine ⟨ret_ib rfl rfl, ?_⟩
    have hG : w1.grownBy w3 (vs c.toNat).ownBlock := by
      first
        | exact grown_trans (grown_below ((below_undrew hb2).alloc hs2 _)) hgrow3
        | exact grown_trans (grown_below (below_unalloc hb2)) hgrow3
        | exact grown_trans (World.grownBy_alloc w1 _ _) (grown_undrew hgrow3)
        | exact grown_trans (World.grownBy_alloc w1 _ _) hgrow3
    have hgg : (vs c.toNat).ownBlock = some gg ∨ w1.heap.size ≤ gg := by
      rcases hat3 with h5 | h5
      · exact .inl h5
      · refine .inr ?_
        rw [h5]
        first | omega | (simp; omega)
    first
      | exact issue_end HA1.out HL1.out HL.out HT1.out hi B3 hG hown3 hgg hlt3
      | exact issue_end HA1.out HL1.out HL.out HT1.out hi B2 (grown_trans hG (grown_below hb2)) (Row.below2 (xs := s1.ats c.toNat ++ [s1.now]) (by simpa [Row, ints] using hown3) hb2 |> fun h => by simpa [Row, ints] using h) hgg (Nat.lt_of_lt_of_le hlt3 hb2.size)
end Go.Proofs.Ytbaebohhbnomoaa.G
