/- The document's own guard: Issue. -/
import Derived.Test.YtbaebohhbnomoaaRefNew
import Derived.Deep.AppendLies
import Derived.Deep.RegionLaw
import Derived.Outline
namespace Go.Proofs.Ytbaebohhbnomoaa.G
open Go.RowKit
set_option linter.unusedVariables false
set_option linter.unusedSimpArgs false

theorem append_empty (w : World) (b : Nat) : (Builtin.append_ #[37, 37] 37 #[.slice (some ⟨b, 0, none⟩) 0 0, .slice none 0 0]).run Try.prog w = .ok (.slice (some ⟨b, 0, none⟩) 0 0) w := by
  obtain ⟨i0, hi0, hz0, hz1, hz2⟩ := info_parts info2
  simp [Builtin.append_, run_underlying Try.underlying37, sizeOf, typeInfo, hi0, Builtin.lenOf, Builtin.firstCells, loadCells, loadCellsFrom, storeCells]
theorem own_empty {w : World} {b : Nat} {e : TypeId} (h : w.heap[b]? = some (.cells #[] e (0, 0))) : w.ownsRow 0 e 1 (.slice (some ⟨b, 0, none⟩) 0 0) 0 [] :=
  ⟨rfl, .inr ⟨b, 0, #[], rfl, Nat.zero_le _, h, Nat.le_refl _, Nat.zero_le _, rfl, rfl⟩⟩

theorem RowI.cellm {w : World} {g c : Nat} {xs : List Int} (h : RowI w (.slice (some ⟨g, 0, none⟩) xs.length c) xs) {j : Nat} (hj : j < xs.length) : w.cell? ⟨g, j, none⟩ = some (.int .i64 (gi xs j)) := by
  obtain ⟨b, eb, hc⟩ := h.at_ j hj
  simp only [Option.some.injEq, Addr.mk.injEq, and_true] at eb
  subst eb
  exact hc
theorem own_empty2 (w : World) {e : TypeId} {b : Nat} (h : w.heap.size = b) : (w.alloc (.cells #[] e)).ownsRow 0 e 1 (.slice (some ⟨b, 0, none⟩) 0 0) 0 [] := by
  subst h
  exact own_empty (heap_alloc_new w _)
theorem turned_r {w1 w2 : World} {g2 m r : Nat} {x y : Value} (hb : Below w1.heap.size w1 w2) (hg : w1.heap.size ≤ g2) : Turned (fun k => k = r) w1 ((w2.setCell ⟨g2, m, none⟩ x).setCell ⟨r, 3, none⟩ y) :=
  ((Turned.of_below (own := fun k => k = r) hb).trans (Turned.setCell (own := fun k => k = g2) w2 ⟨g2, m, none⟩ x rfl) (fun j hj e => by omega)).trans (Turned.setCell (own := fun k => k = r) _ ⟨r, 3, none⟩ y rfl) (fun _ _ e => e)
theorem head_r {w2 : World} {g2 m r : Nat} {x v0 v1 v2 v3 v4 v5 : Value} (h : w2.heap[r]? = some (.cells #[v0, v1, v2, v3, v4, v5] 55 (0, 0))) (hr : r ≠ g2) (y : Value) : ((w2.setCell ⟨g2, m, none⟩ x).setCell ⟨r, 3, none⟩ y).heap[r]? = some (.cells #[v0, v1, v2, y, v4, v5] 55 (0, 0)) :=
  (blk_set ((Below.heap_setCell w2 ⟨g2, m, none⟩ x r hr).trans h) 3 y).trans rfl
theorem RowI.put {w : World} {g cap : Nat} {xs : List Int} (h : RowI w (.slice (some ⟨g, 0, none⟩) xs.length cap) xs) (j : Nat) (x : Int) : RowI (w.setCell ⟨g, j, none⟩ (.int .i64 x)) (.slice (some ⟨g, 0, none⟩) (xs.set j x).length cap) (xs.set j x) := by
  have h2 := (World.ownsRow.stored h j (.int .i64 x)).1
  have e : (ints xs).set j (.int .i64 x) = ints (xs.set j x) := by unfold ints; rw [List.map_set]
  rw [e] at h2
  unfold RowI
  rw [List.length_set]
  exact h2
theorem num_r {w2 : World} {g2 r cap : Nat} {xs : List Int} (h : RowI w2 (.slice (some ⟨g2, 0, none⟩) xs.length cap) xs) (hr : r ≠ g2) (m : Nat) (x : Int) (y : Value) : RowI ((w2.setCell ⟨g2, m, none⟩ (.int .i64 x)).setCell ⟨r, 3, none⟩ y) (.slice (some ⟨g2, 0, none⟩) (xs.set m x).length cap) (xs.set m x) :=
  (h.put m x).kept (fun k e => by simp [Value.ownBlock] at e; subst e; exact Below.heap_setCell _ _ _ _ (fun e' => hr e'.symm))
theorem RAt.ones {w : World} {r : Nat} {s : RSt} {own : Nat → Prop} {gn cn ga ca : Nat} {vs : List Value} (h : RAt w r s own gn cn ga ca vs) : ∀ u ∈ vs, u.oneCell' = true := by
  intro u hu
  obtain ⟨i, hi, rfl⟩ := List.mem_iff_getElem.1 hu
  have hr := h.row i (by rw [← h.len]; exact hi)
  rw [List.getD_eq_getElem?_getD, List.getElem?_eq_getElem hi] at hr
  obtain ⟨A, c, e⟩ := hr.form
  simp at e
  rw [e]
  rfl
theorem ga_row {w : World} {ga n c : Nat} {vs : List Value} (hl : vs.length = n) (h : RowV w (.slice (some ⟨ga, 0, none⟩) vs.length c) vs) : w.ownsRow 0 37 1 (.slice (some ⟨ga, 0, none⟩) n c) n vs := by
  subst hl
  exact h
theorem app8 {w4 W w8 : World} {v : Value} {g8 : Nat} (hb : Below w4.heap.size w4 W) (hg : W.grownBy w8 v.ownBlock) (hv : ∀ k, v.ownBlock = some k → w4.heap.size ≤ k) (ha : v.ownBlock = some g8 ∨ g8 = W.heap.size) :
    Below w4.heap.size w4 w8 ∧ w4.heap.size ≤ g8 := by
  refine ⟨hb.grown hg hb.size hv, ?_⟩
  rcases ha with h | h
  · exact hv _ h
  · rw [h]
    exact hb.size
theorem own_from {B b : Nat} {n c : Nat} (h : B ≤ b) : ∀ k, (Value.slice (some ⟨b, 0, none⟩) n c).ownBlock = some k → B ≤ k := fun k e => by
  simp [Value.ownBlock] at e
  omega
theorem below_cell2 {B : Nat} {w w' : World} {b o : Nat} {v : Value} (h : Below B w w') (hb : B = w.heap.size) (hc : w.cell? ⟨b, o, none⟩ = some v) : w'.cell? ⟨b, o, none⟩ = some v := by
  subst hb
  exact (h.cell (p := ⟨b, o, none⟩) (World.block_lt_of_cell? w _ hc)).trans hc
theorem below_free2 {B : Nat} {w w' : World} {b o o' : Nat} {v : Value} {f : Bool} (h : Below B w w') (hb : B = w.heap.size) (hc : w.cell? ⟨b, o', none⟩ = some v) (hf : w.frozen? ⟨b, o, none⟩ = f) : w'.frozen? ⟨b, o, none⟩ = f := by
  subst hb
  exact (h.frozen (p := ⟨b, o, none⟩) (World.block_lt_of_cell? w ⟨b, o', none⟩ hc)).trans hf
def rissueS (s : RSt) (c now : Int) : RSt :=
  if rroom (rtick s now) c = 0 then rtick s now
  else { rtick s now with nx := s.nx.set c.toNat (NumPlain.add s.bits (gi s.nx c.toNat) 1), ats := upd s.ats c.toNat (s.ats c.toNat ++ [rtk s now]) }
def rissueN (s : RSt) (c now : Int) : Int := if rroom (rtick s now) c = 0 then 0 else gi s.nx c.toNat
def rissueB (s : RSt) (c now : Int) : Bool := !decide (rroom (rtick s now) c = 0)
def RIssuePost (B r : Nat) (s : RSt) (own : Nat → Prop) (c now : Int) (w : World) (e : Ending) (w' : World) : Prop :=
  e = .returned (.tuple #[.int .i64 (rissueN s c now), .bool (rissueB s c now)]) ∧ RHeld B w' r (rissueS s c now) (More own w w') ∧ Turned own w w'
theorem RHeld.more {B : Nat} {w w' : World} {r : Nat} {s : RSt} {own : Nat → Prop} (h : RHeld B w' r s own) (hl : ∀ k, own k → k < w.heap.size) (hb : B ≤ w.heap.size) (hs : w.heap.size ≤ w'.heap.size) : RHeld B w' r s (More own w w') := by
  obtain ⟨⟨gn, cn, ga, ca, vs, ha⟩, _, ho, _⟩ := h
  exact ⟨⟨gn, cn, ga, ca, vs, ha.head, ha.num, ha.len, ha.rows, ha.row, ha.cap, ha.pos, .inl ha.ou, .inl ha.on, .inl ha.oa, fun i hi k e => .inl (ha.ov i hi k e), ha.nil⟩, more_lt hl hs, fun k hk => hk.elim (ho k) (fun h1 => Nat.le_trans hb h1.1), Nat.le_trans hb hs⟩

set_option maxHeartbeats 800000 in
theorem rissue_no (B r : Nat) (s : RSt) (own : Nat → Prop) (c now : Int) (w : World) (h : RHeld B w r s own) (ok : ROk s) (hr : rroom (rtick s now) c = 0) :
    Calls Try.prog 15 #[.pointer (some ⟨r, 0, none⟩), .int .i64 c, .int .i64 now] w (RIssuePost B r s own c now w) := by
  have HM := Lib.hid (rmay B r s own c now w h ok)
  have HH := Lib.hid h
  have HN : Hid (rissueN s c now = 0) := Lib.hid (if_pos hr)
  have HB : Hid (rissueB s c now = false) := Lib.hid (by unfold rissueB; simp [hr])
  have HS : Hid (rissueS s c now = rtick s now) := Lib.hid (if_pos hr)
  have HR := Lib.hid hr
  clear h ok hr
  go_enter Try.func15, Try.ntmps15
  go_wp2_with (go_at_call 13; refine HM.out.mono ?_; rintro e w1 ⟨rfl, hg1, ht1⟩; rw [HR.out]; have HG1 := Lib.hid hg1; have HT1 := Lib.hid ht1; clear hg1 ht1)
  go_ret2
  exact ⟨ret_ib HN.out.symm HB.out.symm, by rw [HS.out]; exact HG1.out.more HH.out.lt HH.out.base HT1.out.size, HT1.out⟩


theorem RowV.put {w : World} {g cap : Nat} {xs : List Value} (h : RowV w (.slice (some ⟨g, 0, none⟩) xs.length cap) xs) (j : Nat) (x : Value) : RowV (w.setCell ⟨g, j, none⟩ x) (.slice (some ⟨g, 0, none⟩) (xs.set j x).length cap) (xs.set j x) := by
  have h2 := (World.ownsRow.stored h j x).1
  unfold RowV
  rw [List.length_set]
  exact h2
theorem getD_set {xs : List Value} {m i : Nat} {v d : Value} (hm : m < xs.length) : (xs.set m v).getD i d = if i = m then v else xs.getD i d := by
  rw [List.getD_eq_getElem?_getD, List.getElem?_set]
  by_cases h : i = m
  · subst h
    simp [hm]
  · rw [if_neg (fun e => h e.symm), if_neg h, List.getD_eq_getElem?_getD]
theorem rissue_end {B r : Nat} {s : RSt} {own : Nat → Prop} {m : Nat} {now x : Int} {w w1 w4 w8 : World} {gn cn ga ca : Nat} {vs : List Value} {g2 cap2 g4 cap4 g8 n8 cap8 : Nat}
    (HA : RAt w1 r (rtick s now) own gn cn ga ca vs) (HL1 : ∀ k, own k → k < w1.heap.size) (HLO : ∀ k, own k → B ≤ k) (HLW : ∀ k, own k → k < w.heap.size) (hB : B ≤ w.heap.size) (T1 : Turned own w w1) (hm : m < s.nx.length)
    (R4 : w4.heap[r]? = some (.cells #[.int .i64 s.bits, .int .i64 s.window, .int .i64 s.life, .slice (some ⟨g2, 0, none⟩) s.nx.length cap2, .slice (some ⟨ga, 0, none⟩) s.nx.length ca, .int .i64 (rtk s now)] 55 (0, 0)))
    (N4 : RowI w4 (.slice (some ⟨g2, 0, none⟩) (s.nx.set m x).length cap2) (s.nx.set m x)) (OWN4 : RowV w4 (.slice (some ⟨g4, 0, none⟩) vs.length cap4) vs) (T4 : Turned (fun k => k = r) w1 w4)
    (hg2 : w1.heap.size ≤ g2) (hg4 : w1.heap.size ≤ g4) (B8 : Below w4.heap.size w4 w8 ∧ w4.heap.size ≤ g8) (l8 : g8 < w8.heap.size)
    (O8 : Row w8 (.slice (some ⟨g8, 0, none⟩) n8 cap8) (s.ats m ++ [rtk s now])) :
    RHeld B ((w8.setCell ⟨g4, m, none⟩ (.slice (some ⟨g8, 0, none⟩) n8 cap8)).setCell ⟨r, 4, none⟩ (.slice (some ⟨g4, 0, none⟩) s.nx.length cap4)) r { rtick s now with nx := s.nx.set m x, ats := upd s.ats m (s.ats m ++ [rtk s now]) } (More own w ((w8.setCell ⟨g4, m, none⟩ (.slice (some ⟨g8, 0, none⟩) n8 cap8)).setCell ⟨r, 4, none⟩ (.slice (some ⟨g4, 0, none⟩) s.nx.length cap4)))
    ∧ Turned own w ((w8.setCell ⟨g4, m, none⟩ (.slice (some ⟨g8, 0, none⟩) n8 cap8)).setCell ⟨r, 4, none⟩ (.slice (some ⟨g4, 0, none⟩) s.nx.length cap4)) := by
  have hlen : vs.length = s.nx.length := HA.len
  have hr4 : r ≠ g4 := by have := HL1 r HA.ou; omega
  have hr2 : r ≠ g2 := by have := HL1 r HA.ou; omega
  have hgl4 : g4 < w4.heap.size := OWN4.lt rfl
  have hgl2 : g2 < w4.heap.size := N4.lt rfl
  have hrl : r < w4.heap.size := Nat.lt_of_lt_of_le (HL1 r HA.ou) T4.size
  have hg24 : g2 ≠ g4 := by
    obtain ⟨c1, h1⟩ := N4.block (k := g2) rfl
    obtain ⟨c2, h2⟩ := OWN4.block (k := g4) rfl
    exact ne_types h1 h2 (by decide)
  have hsz : ∀ (y z : Value), ((w8.setCell ⟨g4, m, none⟩ y).setCell ⟨r, 4, none⟩ z).heap.size = w8.heap.size := fun y z => by simp [World.setCell]
  have hfar : ∀ (y z : Value) k, k ≠ g4 → k ≠ r → ((w8.setCell ⟨g4, m, none⟩ y).setCell ⟨r, 4, none⟩ z).heap[k]? = w8.heap[k]? := fun y z k h1 h2 => (Below.heap_setCell _ _ _ _ h2).trans (Below.heap_setCell _ _ _ _ h1)
  have h14 := T4.size
  have h01 := T1.size
  have h48 := B8.1.size
  have hrow : ∀ i, i < s.nx.length → ∀ k, (vs.getD i undef).ownBlock = some k → k < w1.heap.size ∧ k ≠ r := fun i hi k e => by
    have h1 := HA.row i hi
    obtain ⟨c1, hc1⟩ := h1.block e
    exact ⟨h1.lt e, fun e' => ne_types HA.head hc1 (by decide) e'.symm⟩
  refine ⟨⟨⟨g2, cap2, g4, cap4, vs.set m (.slice (some ⟨g8, 0, none⟩) n8 cap8), ?_⟩, ?_, ?_, ?_⟩, ?_⟩
  · refine ⟨?_, ?_, ?_, ?_, ?_, ?_, ?_, .inl HA.ou, .inr ?_, .inr ?_, ?_, ?_⟩
    · show _ = some (Obj.cells #[.int .i64 s.bits, .int .i64 s.window, .int .i64 s.life, .slice (some ⟨g2, 0, none⟩) (s.nx.set m x).length cap2, .slice (some ⟨g4, 0, none⟩) (s.nx.set m x).length cap4, .int .i64 (rtk s now)] 55 (0, 0))
      rw [List.length_set]
      exact (blk_set ((Below.heap_setCell w8 _ _ _ hr4).trans ((B8.1.block r hrl).trans R4)) 4 _).trans rfl
    · exact N4.kept (fun k e => by
        simp [Value.ownBlock] at e
        subst e
        exact (hfar _ _ _ hg24 (fun e' => hr2 e'.symm)).trans (B8.1.block _ hgl2))
    · show (vs.set m _).length = (s.nx.set m x).length
      rw [List.length_set, List.length_set, hlen]
    · have h8 : RowV w8 (.slice (some ⟨g4, 0, none⟩) vs.length cap4) vs := OWN4.kept (fun k e => by
        simp [Value.ownBlock] at e
        subst e
        exact B8.1.block _ hgl4)
      exact (h8.put m _).kept (fun k e => by
        simp [Value.ownBlock] at e
        subst e
        exact Below.heap_setCell _ _ _ _ (fun e' => hr4 e'.symm))
    · intro i hi
      replace hi : i < s.nx.length := by
        have h : i < (s.nx.set m x).length := hi
        rwa [List.length_set] at h
      rw [getD_set (by omega)]
      show Row _ _ (upd s.ats m (s.ats m ++ [rtk s now]) i)
      by_cases hi2 : i = m
      · subst hi2
        rw [if_pos rfl, upd_same]
        exact O8.kept (fun k e => by
          simp [Value.ownBlock] at e
          subst e
          exact hfar _ _ _ (by omega) (by omega))
      · rw [if_neg hi2, upd_other _ _ hi2]
        exact (HA.row i hi).kept (fun k e => by
          have h := hrow i hi k e
          rw [hfar _ _ _ (by omega) h.2, B8.1.block _ (by omega)]
          exact T4.keep k h.1 h.2)
    · show (s.nx.set m x).length ≤ 16
      rw [List.length_set]
      exact HA.cap
    · show 1 ≤ (s.nx.set m x).length
      rw [List.length_set]
      exact HA.pos
    · rw [hsz]
      omega
    · rw [hsz]
      omega
    · intro i hi k
      replace hi : i < s.nx.length := by
        have h : i < (s.nx.set m x).length := hi
        rwa [List.length_set] at h
      rw [getD_set (by omega)]
      intro e
      by_cases hi2 : i = m
      · rw [if_pos hi2] at e
        simp [Value.ownBlock] at e
        subst e
        refine .inr ?_
        rw [hsz]
        omega
      · rw [if_neg hi2] at e
        exact .inl (HA.ov i hi k e)
    · intro i hi h0
      replace hi : i < s.nx.length := by
        have h : i < (s.nx.set m x).length := hi
        rwa [List.length_set] at h
      replace h0 : upd s.ats m (s.ats m ++ [rtk s now]) i = [] := h0
      rw [getD_set (by omega)]
      by_cases hi2 : i = m
      · subst hi2
        rw [upd_same] at h0
        simp at h0
      · rw [if_neg hi2]
        rw [upd_other _ _ hi2] at h0
        exact HA.nil i hi h0
  · exact more_lt HLW (by rw [hsz]; omega)
  · exact fun k hk => hk.elim (HLO k) (fun h1 => Nat.le_trans hB h1.1)
  · rw [hsz]
    omega
  · refine ((T1.trans T4 (fun j hj e => e ▸ HA.ou)).trans (Turned.of_below (own := own) B8.1) (fun j hj e => e)).trans ((Turned.setCell (own := fun k => k = g4 ∨ k = r) w8 ⟨g4, m, none⟩ _ (.inl rfl)).trans (Turned.setCell (own := fun k => k = g4 ∨ k = r) _ ⟨r, 4, none⟩ _ (.inr rfl)) (fun _ _ e => e)) (fun j hj e => ?_)
    rcases e with rfl | rfl
    · omega
    · exact HA.ou
end Go.Proofs.Ytbaebohhbnomoaa.G
