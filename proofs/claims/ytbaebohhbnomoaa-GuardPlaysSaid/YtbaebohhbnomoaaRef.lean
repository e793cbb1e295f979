/- The document's own guard: how it lies in memory; New, Next, May. -/
import Derived.Test.YtbaebohhbnomoaaMany
import Derived.Test.YtbaebohhbnomoaaApart
import Derived.Deep.RegionLaw
import Derived.Outline
namespace Go.Proofs.Ytbaebohhbnomoaa.G
open Go.RowKit
set_option linter.unusedVariables false
set_option linter.unusedSimpArgs false

/-- The state of the document's guard. -/
structure RSt where
  bits : Int
  window : Int
  life : Int
  nx : List Int
  ats : Nat → List Int
  now : Int
/-- Slices that lie in a row of their own. -/
def RowV (w : World) (v : Value) (xs : List Value) : Prop := w.ownsRow 0 37 1 v xs.length xs
theorem RowV.kept {w w' : World} {v : Value} {xs : List Value} (h : RowV w v xs) (hk : ∀ k, v.ownBlock = some k → w'.heap[k]? = w.heap[k]?) : RowV w' v xs := by
  refine ⟨h.1, ?_⟩
  rcases h.2 with h2 | ⟨g, cap, cur, rfl, hb, hg, r⟩
  · exact .inl h2
  · exact .inr ⟨g, cap, cur, rfl, hb, (hk g rfl).trans hg, r⟩
theorem RowV.lt {w : World} {v : Value} {xs : List Value} (h : RowV w v xs) {k : Nat} (hk : v.ownBlock = some k) : k < w.heap.size := (World.ownsRow.lt h k hk).2
theorem RowV.block {w : World} {v : Value} {xs : List Value} (h : RowV w v xs) {k : Nat} (hk : v.ownBlock = some k) : ∃ cur, w.heap[k]? = some (.cells cur 37 (0, 0)) := by
  rcases h.2 with ⟨rfl, _⟩ | ⟨g, cap, cur, rfl, hb, hg, r⟩
  · simp [Value.ownBlock] at hk
  · simp [Value.ownBlock] at hk
    subst hk
    exact ⟨cur, hg⟩
/-- How it lies: the block r, the row of numbers at gn, the row of rows at ga. -/
structure RAt (w : World) (r : Nat) (s : RSt) (own : Nat → Prop) (gn cn ga ca : Nat) (vs : List Value) : Prop where
  head : w.heap[r]? = some (.cells #[.int .i64 s.bits, .int .i64 s.window, .int .i64 s.life, .slice (some ⟨gn, 0, none⟩) s.nx.length cn, .slice (some ⟨ga, 0, none⟩) s.nx.length ca, .int .i64 s.now] 55 (0, 0))
  num : RowI w (.slice (some ⟨gn, 0, none⟩) s.nx.length cn) s.nx
  len : vs.length = s.nx.length
  rows : RowV w (.slice (some ⟨ga, 0, none⟩) vs.length ca) vs
  row : ∀ i, i < s.nx.length → Row w (vs.getD i undef) (s.ats i)
  cap : s.nx.length ≤ 16
  pos : 1 ≤ s.nx.length
  ou : own r
  on : own gn
  oa : own ga
  ov : ∀ i, i < s.nx.length → ∀ k, (vs.getD i undef).ownBlock = some k → own k
  nil : ∀ i, i < s.nx.length → s.ats i = [] → vs.getD i undef = .slice none 0 0
structure RHeld (B : Nat) (w : World) (r : Nat) (s : RSt) (own : Nat → Prop) : Prop where
  at_ : ∃ gn cn ga ca vs, RAt w r s own gn cn ga ca vs
  lt : ∀ k, own k → k < w.heap.size
  lo : ∀ k, own k → B ≤ k
  base : B ≤ w.heap.size
theorem RAt.kept {w w' : World} {r : Nat} {s : RSt} {own : Nat → Prop} {gn cn ga ca : Nat} {vs : List Value} (h : RAt w r s own gn cn ga ca vs) (hk : ∀ k, own k → w'.heap[k]? = w.heap[k]?) : RAt w' r s own gn cn ga ca vs :=
  ⟨(hk r h.ou).trans h.head, h.num.kept (fun k e => by simp [Value.ownBlock] at e; subst e; exact hk _ h.on), h.len, h.rows.kept (fun k e => by simp [Value.ownBlock] at e; subst e; exact hk _ h.oa), fun i hi => (h.row i hi).kept (fun k e => hk k (h.ov i hi k e)), h.cap, h.pos, h.ou, h.on, h.oa, h.ov, h.nil⟩
theorem RHeld.kept {B : Nat} {w w' : World} {r : Nat} {s : RSt} {own : Nat → Prop} (h : RHeld B w r s own) (hs : w.heap.size ≤ w'.heap.size) (hk : ∀ k, own k → w'.heap[k]? = w.heap[k]?) : RHeld B w' r s own := by
  obtain ⟨⟨gn, cn, ga, ca, vs, ha⟩, hl, ho, hb⟩ := h
  exact ⟨⟨gn, cn, ga, ca, vs, ha.kept hk⟩, fun k hk => Nat.lt_of_lt_of_le (hl k hk) hs, ho, Nat.le_trans hb hs⟩
theorem RHeld.below {B : Nat} {w w' : World} {r : Nat} {s : RSt} {own : Nat → Prop} (h : RHeld B w r s own) (t : Below w.heap.size w w') : RHeld B w' r s own := h.kept t.size (fun k hk => t.block k (h.lt k hk))
theorem RHeld.turned {B : Nat} {w w' : World} {r : Nat} {s : RSt} {own o2 : Nat → Prop} (h : RHeld B w r s own) (t : Turned o2 w w') (hd : ∀ k, own k → ¬ o2 k) : RHeld B w' r s own := h.kept t.size (fun k hk => t.keep k (h.lt k hk) (hd k hk))
theorem RAt.tick {w : World} {r : Nat} {s : RSt} {own : Nat → Prop} {gn cn ga ca : Nat} {vs : List Value} (h : RAt w r s own gn cn ga ca vs) (t : Int) : RAt (w.setCell ⟨r, 5, none⟩ (.int .i64 t)) r { s with now := t } own gn cn ga ca vs := by
  have ho : ∀ k, k ≠ r → (w.setCell ⟨r, 5, none⟩ (.int .i64 t)).heap[k]? = w.heap[k]? := fun k hk => Below.heap_setCell _ _ _ _ hk
  refine ⟨(blk_set h.head 5 (.int .i64 t)).trans rfl, h.num.kept (fun k e => ho k ?_), h.len, h.rows.kept (fun k e => ho k ?_), fun i hi => (h.row i hi).kept (fun k e => ho k ?_), h.cap, h.pos, h.ou, h.on, h.oa, h.ov, h.nil⟩
  · obtain ⟨cur, hc⟩ := h.num.block e
    exact ne_types hc h.head (by decide)
  · obtain ⟨cur, hc⟩ := h.rows.block e
    exact ne_types hc h.head (by decide)
  · obtain ⟨cur, hc⟩ := (h.row i hi).block e
    exact ne_types hc h.head (by decide)

def rtk (s : RSt) (now : Int) : Int := if 1099511627776 < if now < s.now then s.now else now then 1099511627776 else if now < s.now then s.now else now
def rtick (s : RSt) (now : Int) : RSt := { s with now := rtk s now }
def RPost (B r : Nat) (s' : RSt) (own : Nat → Prop) (v : Value) (w : World) (e : Ending) (w' : World) : Prop := e = .returned v ∧ RHeld B w' r s' own ∧ Turned own w w'

set_option maxHeartbeats 800000 in
theorem rtime (B r : Nat) (s : RSt) (own : Nat → Prop) (now : Int) (w : World) (h : RHeld B w r s own) :
    Calls Try.prog 22 #[.pointer (some ⟨r, 0, none⟩), .int .i64 now] w (RPost B r (rtick s now) own (.int .i64 (rtk s now)) w) := by
  obtain ⟨⟨gn, cn, ga, ca, vs, ha⟩, hl, ho, hb⟩ := h
  have c5 : w.cell? ⟨r, 5, none⟩ = some (.int .i64 s.now) := (blk_at ha.head 5).trans rfl
  have f5 := blk_free ha.head 5
  have c5b : ∀ t : Int, (w.setCell ⟨r, 5, none⟩ (.int .i64 t)).cell? ⟨r, 5, none⟩ = some (.int .i64 t) := fun t => (blk_at (ha.tick t).head 5).trans rfl
  have HA := Lib.hid ha
  have HL := Lib.hid hl
  have HO := Lib.hid ho
  clear ha hl ho
  go_enter Try.func22, Try.ntmps22
  go_wp2_with fail
  all_goals
    go_ret
    have fin : ∀ t : Int, RHeld B (w.setCell ⟨r, 5, none⟩ (.int .i64 t)) r { s with now := t } own ∧ Turned own w (w.setCell ⟨r, 5, none⟩ (.int .i64 t)) := fun t =>
      ⟨⟨⟨gn, cn, ga, ca, vs, HA.out.tick t⟩, fun k hk => by have := HL.out k hk; simpa [World.setCell] using this, HO.out, by simpa [World.setCell] using hb⟩, Turned.setCell (own := own) w ⟨r, 5, none⟩ _ HA.out.ou⟩
    have key : ∀ t : Int, t = rtk s now → RPost B r (rtick s now) own (.int .i64 (rtk s now)) w (.returned (.int .i64 t)) (w.setCell ⟨r, 5, none⟩ (.int .i64 t)) := fun t e => by subst e; exact ⟨rfl, fin _⟩
    refine key _ ?_
    unfold rtk
    split <;> split <;> omega

def rin (s : RSt) (c : Int) : Prop := 0 ≤ c ∧ c < (s.nx.length : Int)
set_option maxHeartbeats 800000 in
theorem rthere (B r : Nat) (s : RSt) (own : Nat → Prop) (c : Int) (w : World) (h : RHeld B w r s own) :
    Calls Try.prog 23 #[.pointer (some ⟨r, 0, none⟩), .int .i64 c] w fun e w' => e = .returned (.bool (decide (0 ≤ c) && decide (c < (s.nx.length : Int)))) ∧ w = w' := by
  obtain ⟨⟨gn, cn, ga, ca, vs, ha⟩, hl, ho, hb⟩ := h
  have c3 : w.cell? ⟨r, 3, none⟩ = some (.slice (some ⟨gn, 0, none⟩) s.nx.length cn) := (blk_at ha.head 3).trans rfl
  clear ha hl ho hb
  by_cases h0 : 0 ≤ c
  · go_enter Try.func23, Try.ntmps23
    go_wp2_with fail
    go_ret
    exact ⟨by simp [h0], rfl⟩
  · go_enter Try.func23, Try.ntmps23
    go_wp2_with fail
    go_ret
    exact ⟨by simp; omega, rfl⟩
theorem rthere_yes (B r : Nat) (s : RSt) (own : Nat → Prop) (c : Int) (w : World) (h : RHeld B w r s own) (hc : rin s c) : Calls Try.prog 23 #[.pointer (some ⟨r, 0, none⟩), .int .i64 c] w fun e w' => e = .returned (.bool true) ∧ w = w' := by
  have hh := rthere B r s own c w h
  rw [decide_eq_true hc.1, decide_eq_true hc.2] at hh
  exact hh
theorem rthere_no (B r : Nat) (s : RSt) (own : Nat → Prop) (c : Int) (w : World) (h : RHeld B w r s own) (hc : ¬ rin s c) : Calls Try.prog 23 #[.pointer (some ⟨r, 0, none⟩), .int .i64 c] w fun e w' => e = .returned (.bool false) ∧ w = w' := by
  have hh := rthere B r s own c w h
  have e : (decide (0 ≤ c) && decide (c < (s.nx.length : Int))) = false := by
    unfold rin at hc
    simp
    omega
  rw [e] at hh
  exact hh
def rnextS (s : RSt) (c : Int) : Int := if 0 ≤ c ∧ c < (s.nx.length : Int) then gi s.nx c.toNat else 0
set_option maxHeartbeats 800000 in
theorem rnext (B r : Nat) (s : RSt) (own : Nat → Prop) (c : Int) (w : World) (h : RHeld B w r s own) :
    Calls Try.prog 17 #[.pointer (some ⟨r, 0, none⟩), .int .i64 c] w fun e w' => e = .returned (.int .i64 (rnextS s c)) ∧ w = w' := by
  by_cases hc : rin s c
  · have HY := Lib.hid (rthere_yes B r s own c w h hc)
    obtain ⟨⟨gn, cn, ga, ca, vs, ha⟩, hl, ho, hb⟩ := h
    have c3 : w.cell? ⟨r, 3, none⟩ = some (.slice (some ⟨gn, 0, none⟩) s.nx.length cn) := (blk_at ha.head 3).trans rfl
    obtain ⟨m, rfl⟩ : ∃ m : Nat, c = (m : Int) := ⟨c.toNat, by have := hc.1; omega⟩
    have hm : m < s.nx.length := by have := hc.2; omega
    have hm2 : (m : Int) < (s.nx.length : Int) := by omega
    have hm3 : (0 : Int) ≤ (m : Int) := by omega
    obtain ⟨b, eb, hcell⟩ := ha.num.at_ m hm
    simp only [Option.some.injEq, Addr.mk.injEq, and_true] at eb
    subst eb
    have HE : Hid (rnextS s m = gi s.nx m) := Lib.hid (by unfold rnextS; rw [if_pos (show 0 ≤ (m : Int) ∧ (m : Int) < (s.nx.length : Int) from hc), Int.toNat_natCast])
    clear ha hl ho hb hc
    go_enter Try.func17, Try.ntmps17
    go_wp2_with (go_at_call 23; refine HY.out.mono ?_; rintro e w' ⟨rfl, rfl⟩)
    go_ret
    exact ⟨Hand.ret_int HE.out.symm, rfl⟩
  · have HY := Lib.hid (rthere_no B r s own c w h hc)
    have HE : Hid (rnextS s c = 0) := Lib.hid (if_neg hc)
    clear h hc
    go_enter Try.func17, Try.ntmps17
    go_wp2_with (go_at_call 23; refine HY.out.mono ?_; rintro e w' ⟨rfl, rfl⟩)
    go_ret
    exact ⟨Hand.ret_int HE.out.symm, rfl⟩

structure ROk (s : RSt) : Prop where
  bits : s.bits = 12 ∨ s.bits = 24
  w0 : 1 ≤ s.window
  w1 : s.window ≤ 4194304
  l0 : 1 ≤ s.life
  l1 : s.life ≤ 1099511627776
  n0 : 0 ≤ s.now
  n1 : s.now ≤ 1099511627776
  next : ∀ i, i < s.nx.length → 0 ≤ gi s.nx i ∧ gi s.nx i < NumPlain.all s.bits
  fine : ∀ i, i < s.nx.length → Fine (s.ats i)
  few : ∀ i, i < s.nx.length → (s.ats i).length ≤ 1000
/-- How many could be issued, once the clock is set. -/
def rroom (s : RSt) (c : Int) : Int := if 0 ≤ c ∧ c < (s.nx.length : Int) then s.window - (((s.ats c.toNat).filter (alive s.now s.life)).length : Int) else 0
def RMayPost (B r : Nat) (s' : RSt) (own : Nat → Prop) (c : Int) (w : World) (e : Ending) (w' : World) : Prop := e = .returned (.int .i64 (rroom s' c)) ∧ RHeld B w' r s' own ∧ Turned own w w'
theorem Row.form2 {w : World} {v : Value} {xs : List Int} (h : Row w v xs) : ∃ A c, v = .slice A xs.length c := h.form

theorem rtk_in {s : RSt} (ok : ROk s) (now : Int) : s.now ≤ rtk s now ∧ rtk s now ≤ 1099511627776 := by
  have := ok.n1
  unfold rtk
  split <;> split <;> omega

set_option maxRecDepth 100000 in
set_option maxHeartbeats 3200000 in
theorem rmay (B r : Nat) (s : RSt) (own : Nat → Prop) (c now : Int) (w : World) (h : RHeld B w r s own) (ok : ROk s) :
    Calls Try.prog 13 #[.pointer (some ⟨r, 0, none⟩), .int .i64 c, .int .i64 now] w (RMayPost B r (rtick s now) own c w) := by
  have HT := Lib.hid (rtime B r s own now w h)
  have hin := rtk_in ok now
  by_cases hc : rin s c
  · obtain ⟨m, rfl⟩ : ∃ m : Nat, c = (m : Int) := ⟨c.toNat, by have := hc.1; omega⟩
    have hm : m < s.nx.length := by have := hc.2; omega
    have hm2 : (m : Int) < (s.nx.length : Int) := by omega
    have hm3 : (0 : Int) ≤ (m : Int) := by omega
    have HE : Hid (rroom (rtick s now) m = s.window - (((s.ats m).filter (alive (rtk s now) s.life)).length : Int)) := Lib.hid (by unfold rroom; rw [if_pos (show 0 ≤ (m : Int) ∧ (m : Int) < ((rtick s now).nx.length : Int) from hc), Int.toNat_natCast]; rfl)
    have hfew := ok.few m hm
    have FN := Lib.hid (ok.fine m hm)
    have hw0 := ok.w0
    have hw1 := ok.w1
    have hl0 := ok.l0
    have hl1 := ok.l1
    have hn0 := ok.n0
    have HC := Lib.hid hc
    generalize hT : rtk s now = T at hin HE
    have HTT := Lib.hid hT
    have hi1 := hin.1
    have hi2 := hin.2
    clear h ok hc hin hT
    go_enter Try.func13, Try.ntmps13
    go_wp2_with (first
      | (go_at_call 22; refine HT.out.mono ?_; rintro e w1 ⟨rfl, H1, T1⟩; rw [HTT.out]; have HH1 := Lib.hid H1; have HT1 := Lib.hid T1; clear H1 T1)
      | (go_at_call 23; refine (rthere_yes B r _ own (m : Int) _ HH1.out HC.out).mono ?_; rintro e w2 ⟨rfl, rfl⟩; obtain ⟨⟨gn, cn, ga, ca, vs, ha⟩, _, _, _⟩ := HH1.out; have c1 : w1.cell? ⟨r, 1, none⟩ = some (.int .i64 s.window) := (blk_at ha.head 1).trans rfl; have HA := Lib.hid ha; clear ha))
    clear c1
    have hrw : Row w1 (vs.getD m undef) (s.ats m) := HA.out.row m hm
    have hln : vs.length = s.nx.length := HA.out.len
    obtain ⟨A, cc, ev⟩ := hrw.form
    have hcellA : w1.cell? ⟨ga, m, none⟩ = some (.slice A (s.ats m).length cc) := by
      have h1 := World.ownsRow.cellAt HA.out.rows m (by omega)
      rw [h1, ← ev, List.getD_eq_getElem?_getD, List.getElem?_eq_getElem (show m < vs.length by omega)]
      rfl
    have hrow : Row w1 (.slice A (s.ats m).length cc) (s.ats m) := ev ▸ hrw
    have c4 : w1.cell? ⟨r, 4, none⟩ = some (.slice (some ⟨ga, 0, none⟩) s.nx.length ca) := (blk_at HA.out.head 4).trans rfl
    have c2 : w1.cell? ⟨r, 2, none⟩ = some (.int .i64 s.life) := (blk_at HA.out.head 2).trans rfl
    have HRW := Lib.hid hrow
    clear hrw ev hrow hln
    have c4b : ∀ q, (w1.drewN q).cell? ⟨r, 4, none⟩ = some (.slice (some ⟨ga, 0, none⟩) s.nx.length ca) := fun q => c4
    clear c4b
    go_loopw [8, 9] (fun nv iv wr => ∃ k : Nat, k ≤ (s.ats m).length ∧ iv = .int .i64 k ∧ nv = .int .i64 (s.window - ((((s.ats m).take k).filter (alive T s.life)).length : Int)) ∧ Hid (∃ q, wr = w1.drewN q)) (fun _ iv _ => (s.ats m).length - (intOf iv).toNat)
    case atStart => exact ⟨0, Nat.zero_le _, rfl, by simp, Lib.hid ⟨0, rfl⟩⟩
    case round =>
      obtain ⟨k, hk, rfl, rfl, hq⟩ := hrel
      have d4 : wr.cell? ⟨r, 4, none⟩ = some (.slice (some ⟨ga, 0, none⟩) s.nx.length ca) := by obtain ⟨q, e⟩ := hq.out; rw [e]; exact c4
      have d2 : wr.cell? ⟨r, 2, none⟩ = some (.int .i64 s.life) := by obtain ⟨q, e⟩ := hq.out; rw [e]; exact c2
      have dA : wr.cell? ⟨ga, m, none⟩ = some (.slice A (s.ats m).length cc) := by obtain ⟨q, e⟩ := hq.out; rw [e]; exact hcellA
      have HRWr : Hid (Row wr (.slice A (s.ats m).length cc) (s.ats m)) := Lib.hid (by obtain ⟨q, e⟩ := hq.out; rw [e]; exact HRW.out.dn q)
      clear c4 c2 hcellA
      have hcnt := List.length_filter_le (alive T s.life) ((s.ats m).take k)
      have hcnt2 : ((s.ats m).take k).length ≤ k := List.length_take_le _ _
      by_cases hkl : k < (s.ats m).length
      · obtain ⟨b, eb, hcb⟩ := HRWr.out.at_ k hkl
        subst eb
        have hf := FN.out k hkl
        have hf0 := hf.1
        have hf1 := hf.2
        have CS := Lib.hid (count_snoc (now := T) (lf := s.life) hkl)
        clear hf
        by_cases hal : T - gi (s.ats m) k < s.life
        · generalize hg : gi (s.ats m) k = gk at *
          clear hg
          go_wp2_with fail
          go_quiet (fail)
          go_wp2_with fail
          go_roundw
          case rel => exact ⟨k + 1, by omega, by go_num, by rw [CS.out]; simp [hal]; omega, Lib.hid (by obtain ⟨q, e⟩ := hq.out; exact ⟨q + nq, by rw [e, World.drewN_drewN]⟩)⟩
          case measure => simp [intOf]; omega
        · have hal' : s.life ≤ T - gi (s.ats m) k := by omega
          generalize hg : gi (s.ats m) k = gk at *
          clear hg
          go_wp2_with fail
          go_quiet (fail)
          go_wp2_with fail
          go_roundw
          case rel => exact ⟨k + 1, by omega, by go_num, by rw [CS.out, if_neg (by omega), Nat.add_zero], Lib.hid (by obtain ⟨q, e⟩ := hq.out; exact ⟨q + nq, by rw [e, World.drewN_drewN]⟩)⟩
          case measure => simp [intOf]; omega
      · obtain rfl : k = (s.ats m).length := by omega
        rw [List.take_of_length_le (Nat.le_refl _)]
        go_wp2_with fail
        go_ret
        obtain ⟨q, e⟩ := hq.out
        rw [e]
        exact ⟨Hand.ret_int HE.out.symm, HH1.out.below (below_dn (Below.refl _ _) q), turned_dn HT1.out q⟩
  · have HE : Hid (rroom (rtick s now) c = 0) := Lib.hid (if_neg (show ¬ (0 ≤ c ∧ c < ((rtick s now).nx.length : Int)) from hc))
    have HC := Lib.hid hc
    clear h ok hc hin
    go_enter Try.func13, Try.ntmps13
    go_wp2_with (first
      | (go_at_call 22; refine HT.out.mono ?_; rintro e w1 ⟨rfl, H1, T1⟩; have HH1 := Lib.hid H1; have HT1 := Lib.hid T1; clear H1 T1)
      | (go_at_call 23; refine (rthere_no B r _ own c _ HH1.out HC.out).mono ?_; rintro e w2 ⟨rfl, rfl⟩))
    go_ret
    exact ⟨Hand.ret_int HE.out.symm, HH1.out, HT1.out⟩
end Go.Proofs.Ytbaebohhbnomoaa.G
