/- slices.DeleteFunc with the guard's own closure: what no longer lives is taken out, in place. -/
import Derived.Test.YtbaebohhbnomoaaGState
import Derived.Deep.QuietTactic
import Derived.BigQuiet
import Derived.LoopN
import Derived.Lib.SliceRun
namespace Go.Proofs.Ytbaebohhbnomoaa.G
open Go.RowKit
set_option linter.unusedVariables false
set_option linter.unusedSimpArgs false

/-- Does one no longer live? -/
def old (now life t : Int) : Bool := decide (life ≤ now - t)

set_option maxHeartbeats 400000 in
theorem closure_any (now life t : Int) (B g : Nat) (w : World) (hB : w.cell? ⟨B, 0, none⟩ = some (.pointer (some ⟨g, 0, none⟩))) (hl : w.cell? ⟨g, 2, none⟩ = some (.int .i64 life)) (hn : w.cell? ⟨g, 3, none⟩ = some (.int .i64 now))
    (h0 : 0 ≤ t) (h1 : t ≤ 1099511627776) (h2 : 0 ≤ now) (h3 : now ≤ 1099511627776) :
    Calls Try.prog 30 #[.int .i64 t, .pointer (some ⟨B, 0, none⟩)] w fun e w' => e = .returned (.bool (old now life t)) ∧ ∃ q, w' = w.drewN q := by
  go_enter Try.func30, Try.ntmps30
  go_wp2_with fail
  go_quiet (fail)
  go_wp2_with fail
  go_ret
  exact ⟨rfl, _, rfl⟩

theorem below_dn {B : Nat} {a w : World} (h : Below B a w) (q : Nat) : Below B a (w.drewN q) := ⟨h.os, h.tape, h.output, h.size, h.block⟩
theorem turned_dn {own : Nat → Prop} {a w : World} (h : Turned own a w) (q : Nat) : Turned own a (w.drewN q) := ⟨h.os, h.tape, h.output, h.size, h.keep⟩
theorem Row.dn {w : World} {v : Value} {xs : List Int} (h : Row w v xs) (q : Nat) : Row (w.drewN q) v xs := h
/-- What the closure reads: its guard, how long one lives, and what time it is. -/
structure Sees (w : World) (B g : Nat) (now life : Int) : Prop where
  box : w.cell? ⟨B, 0, none⟩ = some (.pointer (some ⟨g, 0, none⟩))
  life : w.cell? ⟨g, 2, none⟩ = some (.int .i64 life)
  now : w.cell? ⟨g, 3, none⟩ = some (.int .i64 now)
  lb : B < w.heap.size
  lg : g < w.heap.size
theorem Sees.dn {w : World} {B g : Nat} {now life : Int} (h : Sees w B g now life) (q : Nat) : Sees (w.drewN q) B g now life := ⟨h.box, h.life, h.now, h.lb, h.lg⟩
theorem Sees.turned {own : Nat → Prop} {w w' : World} {B g : Nat} {now life : Int} (h : Sees w B g now life) (t : Turned own w w') (h1 : ¬ own B) (h2 : ¬ own g) : Sees w' B g now life :=
  ⟨(World.cell?_of_block (t.keep B h.lb h1)).trans h.box, (World.cell?_of_block (t.keep g h.lg h2)).trans h.life, (World.cell?_of_block (t.keep g h.lg h2)).trans h.now, Nat.lt_of_lt_of_le h.lb t.size, Nat.lt_of_lt_of_le h.lg t.size⟩

def gi (xs : List Int) (j : Nat) : Int := xs.getD j 0
theorem Row.cell {w : World} {g n cap : Nat} {xs : List Int} (h : Row w (.slice (some ⟨g, 0, none⟩) xs.length cap) xs) (j : Nat) (hj : j < xs.length) : w.cell? ⟨g, j, none⟩ = some (.int .i64 (gi xs j)) := by
  rw [World.ownsRow.cellAt h j (by omega)]
  unfold ints gi
  simp [List.getElem?_eq_getElem hj]
def Fine (xs : List Int) : Prop := ∀ j, j < xs.length → 0 ≤ gi xs j ∧ gi xs j ≤ 1099511627776

def IdxPost (now life : Int) (xs : List Int) (w : World) (e : Ending) (w' : World) : Prop :=
  ∃ i : Int, e = .returned (.int .i64 i) ∧ ((i = -1 ∧ ∀ j, j < xs.length → old now life (gi xs j) = false) ∨ ∃ k : Nat, k < xs.length ∧ i = k ∧ old now life (gi xs k) = true ∧ ∀ j, j < k → old now life (gi xs j) = false) ∧ ∃ q, w' = w.drewN q

set_option maxHeartbeats 800000 in
theorem index_any (now life : Int) (B g blk cap : Nat) (xs : List Int) (w : World) (hr : Row w (.slice (some ⟨blk, 0, none⟩) xs.length cap) xs) (hs : Sees w B g now life) (hf : Fine xs) (hn : xs.length ≤ 9223372036854775807)
    (h2 : 0 ≤ now) (h3 : now ≤ 1099511627776) :
    Calls Try.prog 33 #[.slice (some ⟨blk, 0, none⟩) xs.length cap, .func (Fn.func 30) #[] #[.pointer (some ⟨B, 0, none⟩)]] w (IdxPost now life xs w) := by
  have HR := Lib.hid hr
  have HS := Lib.hid hs
  have HF := Lib.hid hf
  clear hr hs hf
  go_enter Try.func33, Try.ntmps33
  go_wp2_with fail
  go_loopw [8] (fun i wr => ∃ k : Nat, k ≤ xs.length ∧ i = .int .i64 k ∧ Hid (∀ j, j < k → old now life (gi xs j) = false) ∧ ∃ q, wr = w.drewN q) (fun i _ => xs.length - (intOf i).toNat)
  case atStart => exact ⟨0, Nat.zero_le _, rfl, Lib.hid (fun j hj => by omega), 0, rfl⟩
  case round =>
    obtain ⟨k, hk, rfl, hno, q, rfl⟩ := hrel
    by_cases hlt : k < xs.length
    · have hc := (HR.out.dn q).cell (n := xs.length) k hlt
      have hf := HF.out k hlt
      have hf0 := hf.1
      have hf1 := hf.2
      clear hf
      have hs := HS.out.dn q
      cases hb : old now life (gi xs k)
      · have HN : Hid (∀ j, j < k + 1 → old now life (gi xs j) = false) := Lib.hid (fun j hj => by
          rcases Nat.lt_succ_iff_lt_or_eq.1 hj with h | rfl
          · exact hno.out j h
          · exact hb)
        have HB := Lib.hid hb
        have HSS := Lib.hid hs
        clear hb hs
        go_wp2_with (go_at_call 30; refine (closure_any now life (gi xs k) B g _ HSS.out.box HSS.out.life HSS.out.now hf0 hf1 h2 h3).mono ?_; rintro e w' ⟨rfl, q2, rfl⟩; rw [HB.out])
        go_roundw
        case rel => exact ⟨k + 1, by omega, by go_num, HN, q + q2, rfl⟩
        case measure => simp [intOf]; omega
      · have HB := Lib.hid hb
        have HSS := Lib.hid hs
        clear hb hs
        go_wp2_with (go_at_call 30; refine (closure_any now life (gi xs k) B g _ HSS.out.box HSS.out.life HSS.out.now hf0 hf1 h2 h3).mono ?_; rintro e w' ⟨rfl, q2, rfl⟩; rw [HB.out])
        go_ret
        exact ⟨k, rfl, .inr ⟨k, hlt, rfl, HB.out, hno.out⟩, q + q2, rfl⟩
    · obtain rfl : k = xs.length := by omega
      go_wp2_with fail
      go_ret
      exact ⟨-1, rfl, .inl ⟨rfl, hno.out⟩, q, rfl⟩

theorem Row.cut {w : World} {g n cap : Nat} {xs : List Int} (h : Row w (.slice (some ⟨g, 0, none⟩) xs.length cap) xs) (i : Nat) (hi : i ≤ xs.length) : Row w (.slice (some ⟨g, 0, none⟩) (xs.take i).length cap) (xs.take i) := by
  have hl : (xs.take i).length = i := by simp; omega
  rcases h.2 with ⟨h', _⟩ | ⟨g', cap', cur, h', hb, hg, hnc, hcm, hcs, htake⟩
  · simp at h'
  · simp only [Value.slice.injEq, Option.some.injEq, Addr.mk.injEq, and_true, true_and] at h'
    obtain ⟨rfl, rfl⟩ := h'
    refine ⟨by simp [ints], .inr ⟨g, cap, cur, rfl, hb, hg, by omega, hcm, hcs, ?_⟩⟩
    have e : cur.toList.take ((xs.take i).length * 1) = (cur.toList.take (xs.length * 1)).take i := by rw [List.take_take, hl]; congr 1; omega
    rw [e, htake]
    unfold ints
    rw [List.map_take]
theorem Row.set {w : World} {g cap : Nat} {xs : List Int} (h : Row w (.slice (some ⟨g, 0, none⟩) xs.length cap) xs) (j : Nat) (x : Int) : Row (w.setCell ⟨g, j, none⟩ (.int .i64 x)) (.slice (some ⟨g, 0, none⟩) (xs.set j x).length cap) (xs.set j x) := by
  have h2 := (World.ownsRow.stored h j (.int .i64 x)).1
  have e : (ints xs).set j (.int .i64 x) = ints (xs.set j x) := by unfold ints; rw [List.map_set]
  rw [e] at h2
  unfold Row
  rw [List.length_set]
  exact h2
theorem Row.sets {g cap i : Nat} (x : Int) : ∀ (n o : Nat) (w : World) (xs : List Int), Row w (.slice (some ⟨g, 0, none⟩) xs.length cap) xs → i ≤ o →
    ∃ ys : List Int, ys.length = xs.length ∧ ys.take i = xs.take i ∧ Row (w.setCells g o (List.replicate n (.int .i64 x))) (.slice (some ⟨g, 0, none⟩) ys.length cap) ys := by
  intro n
  induction n with
  | zero => intro o w xs h _; exact ⟨xs, rfl, rfl, h⟩
  | succ n ih =>
    intro o w xs h ho
    obtain ⟨ys, h1, h2, h3⟩ := ih (o + 1) (w.setCell ⟨g, o, none⟩ (.int .i64 x)) (xs.set o x) (h.set o x) (by omega)
    refine ⟨ys, by simpa using h1, ?_, h3⟩
    rw [h2, List.take_set_of_le ho]
theorem turned_sets {own : Nat → Prop} {g : Nat} (hg : own g) (x : Value) : ∀ (n o : Nat) (w : World), Turned own w (w.setCells g o (List.replicate n x)) := by
  intro n
  induction n with
  | zero => intro o w; exact Turned.refl _ _
  | succ n ih => intro o w; exact (Turned.setCell (own := own) w ⟨g, o, none⟩ x hg).trans (ih (o + 1) _) (fun _ _ h => h)

def keep (now life : Int) (xs : List Int) : List Int := xs.filter fun t => !old now life t
structure KInv (now life : Int) (xs : List Int) (j i : Nat) (L : List Int) : Prop where
  len : L.length = xs.length
  lt : i < j
  low : L.take i = keep now life (xs.take j)
  high : ∀ m, j ≤ m → gi L m = gi xs m
theorem take_one (xs : List Int) (j : Nat) (h : j < xs.length) : xs.take (j + 1) = xs.take j ++ [gi xs j] := by
  rw [List.take_succ_eq_append_getElem h]
  simp [gi, List.getElem?_eq_getElem h]
theorem KInv.start {now life : Int} {xs : List Int} {k : Nat} (hk : k < xs.length) (h1 : old now life (gi xs k) = true) (h2 : ∀ j, j < k → old now life (gi xs j) = false) : KInv now life xs (k + 1) k xs := by
  refine ⟨rfl, by omega, ?_, fun _ _ => rfl⟩
  have hno : ∀ j, j ≤ k → keep now life (xs.take j) = xs.take j := by
    intro j
    induction j with
    | zero => intro _; simp [keep]
    | succ j ih =>
      intro hj
      rw [take_one xs j (by omega)]
      unfold keep at ih ⊢
      rw [List.filter_append, ih (by omega)]
      simp [h2 j (by omega)]
  rw [take_one xs k hk]
  have := hno k (Nat.le_refl _)
  unfold keep at this ⊢
  rw [List.filter_append, this]
  simp [h1]
theorem KInv.skip {now life : Int} {xs L : List Int} {j i : Nat} (h : KInv now life xs j i L) (hj : j < xs.length) (h1 : old now life (gi xs j) = true) : KInv now life xs (j + 1) i L := by
  refine ⟨h.len, by have := h.lt; omega, ?_, fun m hm => h.high m (by omega)⟩
  rw [take_one xs j hj, h.low]
  unfold keep
  rw [List.filter_append]
  simp [h1]
theorem KInv.keep {now life : Int} {xs L : List Int} {j i : Nat} (h : KInv now life xs j i L) (hj : j < xs.length) (h1 : old now life (gi xs j) = false) : KInv now life xs (j + 1) (i + 1) (L.set i (gi xs j)) := by
  have hlt := h.lt
  have hl := h.len
  refine ⟨by simpa using hl, by omega, ?_, fun m hm => ?_⟩
  · rw [take_one (L.set i (gi xs j)) i (by simp; omega), List.take_set_of_le (Nat.le_refl _), h.low, take_one xs j hj]
    unfold G.keep
    rw [List.filter_append]
    have e : gi (L.set i (gi xs j)) i = gi xs j := by unfold gi; simp [List.getElem?_set, show i < L.length by omega]
    rw [e]
    simp [h1]
  · rw [← h.high m (by omega)]
    unfold gi
    simp [List.getElem?_set, show ¬ i = m by omega]
theorem keep_all {now life : Int} {xs : List Int} (h : ∀ j, j < xs.length → old now life (gi xs j) = false) : keep now life xs = xs := by
  unfold keep
  rw [List.filter_eq_self]
  intro t ht
  obtain ⟨j, hj, rfl⟩ := List.mem_iff_getElem.1 ht
  have := h j hj
  unfold gi at this
  simp [List.getElem?_eq_getElem hj] at this
  simp [this]

def DelePost (v : Value) (ys : List Int) (w : World) (e : Ending) (w' : World) : Prop :=
  ∃ v' : Value, e = .returned v' ∧ Row w' v' ys ∧ v'.ownBlock = v.ownBlock ∧ Turned (fun k => v.ownBlock = some k) w w'

set_option maxHeartbeats 1600000 in
theorem dele_some (now life : Int) (B g blk cap : Nat) (xs : List Int) (w : World) (hr : Row w (.slice (some ⟨blk, 0, none⟩) xs.length cap) xs) (hs : Sees w B g now life) (hf : Fine xs) (hn : xs.length ≤ 9223372036854775807) (hcap : xs.length ≤ cap)
    (hB : B ≠ blk) (hg : g ≠ blk) (h2 : 0 ≤ now) (h3 : now ≤ 1099511627776) :
    Calls Try.prog 29 #[.slice (some ⟨blk, 0, none⟩) xs.length cap, .func (Fn.func 30) #[] #[.pointer (some ⟨B, 0, none⟩)]] w (DelePost (.slice (some ⟨blk, 0, none⟩) xs.length cap) (keep now life xs) w) := by
  have HI := Lib.hid (index_any now life B g blk cap xs w hr hs hf hn h2 h3)
  have HR := Lib.hid hr
  have HS := Lib.hid hs
  have HF := Lib.hid hf
  clear hr hs hf
  go_enter Try.func29, Try.ntmps29
  go_wp2_with fail
  refine HI.out.mono ?_
  rintro e w1 ⟨i, rfl, hi, q, rfl⟩
  rcases hi with ⟨rfl, hall⟩ | ⟨k, hk, rfl, hold, hno⟩
  · have HA := Lib.hid (keep_all hall)
    clear hall
    go_wp2_with fail
    go_ret
    exact ⟨_, rfl, by rw [HA.out]; exact HR.out.dn q, rfl, turned_dn (Turned.refl _ _) q⟩
  · have HK := Lib.hid (KInv.start hk hold hno)
    clear hold hno
    have hk1 : ((k : Int) == -1) = false := beq_eq_false_iff_ne.2 (by omega)
    go_wp2_with fail
    go_loopw [5, 6] (fun a b wr => ∃ (i j : Nat) (L : List Int), a = .int .i64 i ∧ b = .int .i64 j ∧ j ≤ xs.length ∧ Hid (KInv now life xs j i L) ∧ Hid (Row wr (.slice (some ⟨blk, 0, none⟩) L.length cap) L) ∧ Hid (Turned (fun k => some blk = some k) w wr)) (fun _ b _ => xs.length - (intOf b).toNat)
    case atStart => exact ⟨k, k + 1, xs, rfl, by go_num, by omega, HK, Lib.hid (HR.out.dn q), Lib.hid (turned_dn (Turned.refl _ _) q)⟩
    case round =>
      obtain ⟨i, j, L, rfl, rfl, hj, hI, hR, hT⟩ := hrel
      have hij := hI.out.lt
      have hll := hI.out.len
      by_cases hlt : j < xs.length
      · have hcj := hR.out.cell (n := L.length) j (by omega)
        rw [hI.out.high j (Nat.le_refl _)] at hcj
        have hf := HF.out j hlt
        have hf0 := hf.1
        have hf1 := hf.2
        clear hf
        have hci := hR.out.cell (n := L.length) i (by omega)
        have hfi := World.ownsRow.frozenAt hR.out i
        have hss := HS.out.turned hT.out (fun e => hB (Option.some.inj e).symm) (fun e => hg (Option.some.inj e).symm)
        have HSS := Lib.hid hss
        clear hss hll
        have hij2 : (i : Int) < (xs.length : Int) := by omega
        have hij3 : (0 : Int) ≤ (i : Int) := by omega
        cases hb : old now life (gi xs j)
        · have HN := Lib.hid (hI.out.keep hlt hb)
          have HB := Lib.hid hb
          clear hb
          go_wp2_with (go_at_call 30; refine (closure_any now life (gi xs j) B g _ HSS.out.box HSS.out.life HSS.out.now hf0 hf1 h2 h3).mono ?_; rintro e w' ⟨rfl, q2, rfl⟩; rw [HB.out])
          go_roundw
          case rel => exact ⟨i + 1, j + 1, L.set i (gi xs j), by go_num, by go_num, by omega, HN, Lib.hid ((hR.out.dn q2).set i _), Lib.hid ((turned_dn hT.out q2).trans (Turned.setCell (own := fun k => some blk = some k) _ _ _ rfl) (fun _ _ h => h))⟩
          case measure => simp [intOf]; omega
        · have HN := Lib.hid (hI.out.skip hlt hb)
          have HB := Lib.hid hb
          clear hb
          go_wp2_with (go_at_call 30; refine (closure_any now life (gi xs j) B g _ HSS.out.box HSS.out.life HSS.out.now hf0 hf1 h2 h3).mono ?_; rintro e w' ⟨rfl, q2, rfl⟩; rw [HB.out])
          go_roundw
          case rel => exact ⟨i, j + 1, L, rfl, by go_num, by omega, HN, Lib.hid (hR.out.dn q2), Lib.hid (turned_dn hT.out q2)⟩
          case measure => simp [intOf]; omega
      · obtain rfl : j = xs.length := by omega
        have hcl : ∀ ty, (Builtin.clear_ #[37] ty #[.slice (some ⟨blk, i, none⟩) (xs.length - i) (cap - i)]).run Try.prog wr = .ok (.tuple #[]) (wr.setCells blk i (List.replicate (xs.length - i) (.int .i64 0))) :=
          fun ty => Lib.run_clear_slice wr _ _ ty _ Try.underlying37 Try.zeroValue2 rfl rfl blk i _ _ (by omega) (fun t ht => by rw [hR.out.cell (n := L.length) (i + t) (by omega)]; rfl) (fun t ht => World.ownsRow.frozenAt hR.out (i + t))
        have HLL := Lib.hid hll
        clear hll
        go_wp2_with fail
        go_ret
        have hll := HLL.out
        obtain ⟨ys, y1, y2, y3⟩ := Row.sets (i := i) 0 (xs.length - i) i wr L hR.out (Nat.le_refl _)
        have hlow := hI.out.low
        rw [List.take_of_length_le (Nat.le_refl _)] at hlow
        have hcut := Row.cut (n := ys.length) y3 i (by omega)
        have e : (ys.take i).length = i := by simp; omega
        refine ⟨.slice (some ⟨blk, 0, none⟩) i cap, rfl, ?_, rfl, hT.out.trans (turned_sets (own := fun k => some blk = some k) rfl _ _ _ _) (fun _ _ h => h)⟩
        rw [← hlow, ← y2]
        rw [e] at hcut
        have h3 : Row (wr.setCells blk i (List.replicate (xs.length - i) (.int .i64 0))) (.slice (some ⟨blk, 0, none⟩) i cap) (ys.take i) := hcut
        exact h3

set_option maxHeartbeats 400000 in
theorem index_nil (lb : Array Value) (w : World) : Calls Try.prog 33 #[.slice none 0 0, .func (Fn.func 30) #[] lb] w fun e w' => e = .returned (.int .i64 (-1)) ∧ w = w' := by
  go_enter Try.func33, Try.ntmps33
  go_wp2_with fail
  refine wp_loop_rounds 1 ?_
  rw [rounds_succ]
  go_wp2_with fail
  go_ret
  exact ⟨rfl, rfl⟩
set_option maxHeartbeats 400000 in
theorem dele_nil (lb : Array Value) (w : World) : Calls Try.prog 29 #[.slice none 0 0, .func (Fn.func 30) #[] lb] w fun e w' => e = .returned (.slice none 0 0) ∧ w = w' := by
  go_enter Try.func29, Try.ntmps29
  go_wp2_with (go_at_call 33; refine (index_nil lb _).mono ?_; rintro e w' ⟨rfl, rfl⟩)
  go_ret
  exact ⟨rfl, rfl⟩
theorem Row.form {w : World} {v : Value} {xs : List Int} (h : Row w v xs) : ∃ A c, v = .slice A xs.length c := by
  rcases h.2 with ⟨rfl, h0⟩ | ⟨g, cap, cur, rfl, _⟩
  · exact ⟨none, 0, by rw [h0]⟩
  · exact ⟨_, _, rfl⟩
/-- What no longer lives is taken out of a row. -/
theorem dele_any (now life : Int) (B g : Nat) (v : Value) (xs : List Int) (w : World) (hr : Row w v xs) (hs : Sees w B g now life) (hf : Fine xs)
    (hB : ∀ k, v.ownBlock = some k → B ≠ k ∧ g ≠ k) (h2 : 0 ≤ now) (h3 : now ≤ 1099511627776) :
    Calls Try.prog 29 #[v, .func (Fn.func 30) #[] #[.pointer (some ⟨B, 0, none⟩)]] w (DelePost v (keep now life xs) w) := by
  rcases hr.2 with ⟨rfl, h0⟩ | ⟨blk, cap, cur, rfl, hb, hg, hnc, hcm, hcs, htake⟩
  · obtain rfl : xs = [] := List.eq_nil_of_length_eq_zero h0
    refine (dele_nil _ w).mono ?_
    rintro e w' ⟨rfl, rfl⟩
    exact ⟨_, rfl, hr, rfl, Turned.refl _ _⟩
  · have h := hB blk rfl
    unfold maxLen at hcm
    exact dele_some now life B g blk cap xs w hr hs hf (by omega) hnc h.1 h.2 h2 h3
end Go.Proofs.Ytbaebohhbnomoaa.G
