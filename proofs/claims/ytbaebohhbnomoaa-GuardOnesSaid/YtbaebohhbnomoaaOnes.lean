/- GuardOnes: numbers are issued one by one, each class its own, whatever others do. No condition. -/
import Derived.Test.YtbaebohhbnomoaaApart
import Derived.Test.YtbaebohhbnomoaaMany
import Derived.Deep.QuietTactic
import Derived.BigQuiet
import Derived.OwnWalk
import Derived.Deep.RegionHeld3
namespace Go.Proofs.Ytbaebohhbnomoaa.G
open Go.RowKit
set_option linter.unusedVariables false
set_option linter.unusedSimpArgs false

/-- The numbers that come next, of each class. -/
structure OInv (s : St) (N : Nat) (X : List Int) : Prop where
  n : s.n = N
  bits : s.bits = 12
  len : X.length = N
  nx : ∀ k, k < N → gi X k = s.next k

theorem OInv.may {s : St} {N : Nat} {X : List Int} (h : OInv s N X) (c x : Int) : OInv (mayS s c x) N X := by
  have hm := mayS_bits s c x
  exact ⟨hm.2.1.trans h.n, hm.1.trans h.bits, h.len, fun k hk => by rw [hm.2.2.2.2.2]; exact h.nx k hk⟩
theorem OInv.no {s : St} {N : Nat} {X : List Int} (h : OInv s N X) {c x : Int} (hb : issueB s c x = false) : OInv (issueS s c x) N X := by
  have he : room (mayS s c x) c = 0 := by unfold issueB at hb; simpa using hb
  unfold issueS
  rw [if_pos he]
  exact h.may c x
theorem issue_in {s : St} {c x : Int} (hb : issueB s c x = true) : 0 ≤ c ∧ c < s.n := by
  have hne : room (mayS s c x) c ≠ 0 := by
    unfold issueB at hb
    intro e
    rw [decide_eq_true e] at hb
    cases hb
  have := room_in hne
  rw [(mayS_bits s c x).2.1] at this
  exact this
theorem OInv.yes {s : St} (ok : Ok s) {N : Nat} {X : List Int} (h : OInv s N X) {m : Nat} {x : Int} (hb : issueB s m x = true) :
    m < N ∧ issueN s m x = gi X m ∧ 0 ≤ gi X m ∧ gi X m < NumPlain.all 12 ∧ OInv (issueS s m x) N (X.set m ((gi X m + 1) % NumPlain.all 12)) := by
  have hin := issue_in hb
  have hm : m < N := by have := h.n; omega
  have hne : ¬ room (mayS s m x) m = 0 := by
    unfold issueB at hb
    intro e
    rw [decide_eq_true e] at hb
    cases hb
  have hms := mayS_bits s m x
  have hx : (mayS s m x).next m = gi X m := by rw [hms.2.2.2.2.2]; exact (h.nx m hm).symm
  have hn := ok.next m (by have := h.n; omega)
  rw [h.bits, ← h.nx m hm] at hn
  refine ⟨hm, ?_, hn.1, hn.2, ?_⟩
  · unfold issueN
    rw [if_neg hne]
    exact hx
  · unfold issueS
    rw [if_neg hne]
    refine ⟨hms.2.1.trans h.n, hms.1.trans h.bits, by simpa using h.len, fun k hk => ?_⟩
    show gi (X.set m ((gi X m + 1) % NumPlain.all 12)) k = upd (mayS s m x).next (m : Int).toNat (NumPlain.add s.bits ((mayS s m x).next (m : Int).toNat) 1) k
    rw [Int.toNat_natCast]
    by_cases e : k = m
    · subst e
      rw [upd_same, hx, h.bits, (add_in (.inl rfl) hn.1 hn.2).1]
      unfold gi
      simp [List.getElem?_set, show k < X.length by rw [h.len]; exact hk]
    · rw [upd_other _ _ e, hms.2.2.2.2.2, ← h.nx k hk]
      unfold gi
      simp [List.getElem?_set, show ¬ m = k from fun e' => e e'.symm]
theorem OInv.next {s : St} {N : Nat} {X : List Int} (h : OInv s N X) {k : Nat} (hk : k < N) : nextS s k = gi X k := by
  unfold nextS
  rw [h.n, if_pos ⟨by omega, by omega⟩, Int.toNat_natCast, h.nx k hk]
theorem RowI.set {w : World} {g cap : Nat} {xs : List Int} (h : RowI w (.slice (some ⟨g, 0, none⟩) xs.length cap) xs) (j : Nat) (x : Int) : RowI (w.setCell ⟨g, j, none⟩ (.int .i64 x)) (.slice (some ⟨g, 0, none⟩) (xs.set j x).length cap) (xs.set j x) := by
  have h2 := (World.ownsRow.stored h j (.int .i64 x)).1
  have e : (ints xs).set j (.int .i64 x) = ints (xs.set j x) := by unfold ints; rw [List.map_set]
  rw [e] at h2
  unfold RowI
  rw [List.length_set]
  exact h2

theorem World.ownsRow.mono0 {w : World} {base : Nat} {e : TypeId} {size : Nat} {v : Value} {n : Nat} {xs : List Value} (h : w.ownsRow base e size v n xs) : w.ownsRow 0 e size v n xs := by
  refine ⟨h.1, ?_⟩
  rcases h.2 with h2 | ⟨g, cap, cur, hv, hb, r⟩
  · exact .inl h2
  · exact .inr ⟨g, cap, cur, hv, Nat.zero_le _, r⟩
/-- A guard beside a row of the call's own. -/
structure GX (B : Nat) (w : World) (g : Nat) (s : St) (ow : Nat → Prop) (gb N : Nat) (X : List Int) : Prop where
  held : Held B w g s ow
  row : RowI w (.slice (some ⟨gb, 0, none⟩) X.length N) X
  far : ¬ ow gb
  lo : B ≤ gb
theorem GX.turned {B : Nat} {w w' : World} {g : Nat} {s s' : St} {ow : Nat → Prop} {gb N : Nat} {X : List Int} (h : GX B w g s ow gb N X) (hh : Held B w' g s' (More ow w w')) (t : Turned ow w w') : GX B w' g s' (More ow w w') gb N X :=
  ⟨hh, h.row.kept (fun k e => t.keep k (h.row.lt e) (fun ho => by simp [Value.ownBlock] at e; subst e; exact h.far ho)), fun ho => ho.elim h.far (fun h2 => by have := h.row.lt (k := gb) rfl; omega), h.lo⟩
theorem GX.below {B : Nat} {w w' : World} {g : Nat} {s : St} {ow : Nat → Prop} {gb N : Nat} {X : List Int} (h : GX B w g s ow gb N X) (hb : Below w.heap.size w w') : GX B w' g s ow gb N X :=
  ⟨h.held.below hb, h.row.kept (fun k e => hb.block k (h.row.lt e)), h.far, h.lo⟩
theorem GX.store {B : Nat} {w : World} {g : Nat} {s : St} {ow : Nat → Prop} {gb N : Nat} {X : List Int} (h : GX B w g s ow gb N X) (j : Nat) (x : Int) : GX B (w.setCell ⟨gb, j, none⟩ (.int .i64 x)) g s ow gb N (X.set j x) :=
  ⟨h.held.turned (Turned.setCell (own := fun k => k = gb) w ⟨gb, j, none⟩ _ rfl) (fun k ho e => h.far (e ▸ ho)), h.row.set j x, h.far, h.lo⟩
def GXPost (B g : Nat) (s' : St) (ow : Nat → Prop) (gb N : Nat) (X : List Int) (v : Value) (w : World) (e : Ending) (w' : World) : Prop := e = .returned v ∧ GX B w' g s' (More ow w w') gb N X ∧ Turned ow w w' ∧ Below B w w'
theorem GX.issue {B : Nat} {w : World} {g : Nat} {s : St} {ow : Nat → Prop} {gb N : Nat} {X : List Int} (h : GX B w g s ow gb N X) (c x : Int) (hc : (Lit.int .i64 c).wf = true) :
    Calls Try.prog 14 #[.pointer (some ⟨g, 0, none⟩), .int .i64 c, .int .i64 x] w (GXPost B g (issueS s c x) ow gb N X (.tuple #[.int .i64 (issueN s c x), .bool (issueB s c x)]) w) :=
  (h.held.issue c x hc).mono fun e w' ⟨he, hh, ht, hb⟩ => ⟨he, h.turned hh ht, ht, hb⟩
theorem GX.may {B : Nat} {w : World} {g : Nat} {s : St} {ow : Nat → Prop} {gb N : Nat} {X : List Int} (h : GX B w g s ow gb N X) (c x : Int) (hc : (Lit.int .i64 c).wf = true) :
    Calls Try.prog 12 #[.pointer (some ⟨g, 0, none⟩), .int .i64 c, .int .i64 x] w (GXPost B g (mayS s c x) ow gb N X (.int .i64 (room (mayS s c x) c)) w) :=
  (h.held.may c x hc).mono fun e w' ⟨he, hh, ht, hb⟩ => ⟨he, h.turned hh ht, ht, hb⟩
theorem GX.next {B : Nat} {w : World} {g : Nat} {s : St} {ow : Nat → Prop} {gb N : Nat} {X : List Int} (h : GX B w g s ow gb N X) (o : OInv s N X) (k : Nat) (hk : k < N) (h16 : N ≤ 16) :
    Calls Try.prog 16 #[.pointer (some ⟨g, 0, none⟩), .int .i64 k] w fun e w' => e = .returned (.int .i64 (gi X k)) ∧ w = w' := by
  have hn := h.held.next (k : Int) (wf64 (by omega) (by omega))
  rw [o.next hk] at hn
  exact hn
theorem ones_valid {n wd lf : Int} (hn : 1 ≤ n) (hn1 : n ≤ 16) (h0 : 1 ≤ wd) (h1 : wd ≤ 256) (h2 : 1 ≤ lf) (h3 : lf ≤ 256) : Valid 12 n wd lf := ⟨.inl rfl, hn, hn1, h0, by show wd ≤ 1024; omega, h2, by omega⟩

set_option maxRecDepth 100000 in
set_option maxHeartbeats 6400000 in
theorem ones_walk (a0 a1 a2 : Int) (a3 : Option Addr) (len3 cap3 : Nat) (f3 : Nat → Nat → Int) (w : World) (wf0 : (Lit.int .u8 a0).wf = true) (wf1 : (Lit.int .u8 a1).wf = true) (wf2 : (Lit.int .u8 a2).wf = true)
    (w3 : (a3 = none ∧ len3 = 0 ∧ cap3 = 0) ∨ ∃ x, a3 = some x ∧ len3 ≤ cap3 ∧ cap3 ≤ maxLen ∧ ∀ i, i < len3 → ∀ (j : Nat) (k : IntKind), [IntKind.i64, .i64, .i64][j]? = some k → w.cell? (x.add (i * [IntKind.i64, .i64, .i64].length + j)) = some (.int k (f3 i j)) ∧ (Lit.int k (f3 i j)).wf = true) :
    Calls Try.prog 5 #[.int .u8 a0, .int .u8 a1, .int .u8 a2, .slice a3 len3 cap3] w fun e w' => e = .returned (.bool true) ∧ Below w.heap.size w w' := by
  obtain ⟨j0, hj0, hy0, hy1, hy2⟩ := info_parts info3
  have ha : 0 ≤ a0 ∧ a0 ≤ 255 := by simpa [Lit.wf, IntKind.min, IntKind.max, IntKind.signed, IntKind.bits] using wf0
  have hb : 0 ≤ a1 ∧ a1 ≤ 255 := by simpa [Lit.wf, IntKind.min, IntKind.max, IntKind.signed, IntKind.bits] using wf1
  have hc : 0 ≤ a2 ∧ a2 ≤ 255 := by simpa [Lit.wf, IntKind.min, IntKind.max, IntKind.signed, IntKind.bits] using wf2
  obtain ⟨ha0, ha1⟩ := ha
  obtain ⟨hb0, hb1⟩ := hb
  obtain ⟨hc0, hc1⟩ := hc
  have hlen : len3 ≤ 9223372036854775807 := by
    rcases w3 with ⟨_, rfl, _⟩ | ⟨x, _, h1, h2, _⟩
    · omega
    · unfold maxLen at h2
      omega
  have W3 := Lib.hid w3
  obtain ⟨N, hN⟩ : ∃ N : Nat, 1 + a0 % 16 = (N : Int) := ⟨(1 + a0 % 16).toNat, by omega⟩
  have hN0 : 1 ≤ N := by omega
  have hN1 : N ≤ 16 := by omega
  clear wf0 wf1 wf2 w3
  by_cases hbig : 400 < len3
  · go_enter Try.func5, Try.ntmps5
    go_wp2_with fail
    refine (head_any _).mono ?_
    rintro e w1 ⟨rfl, B1⟩
    have A1 := Lib.hid B1
    clear B1
    go_wp2_with fail
    refine (new_held w.heap.size 12 N (1 + a1) (1 + a2) _ (ones_valid (by omega) (by omega) (by omega) (by omega) (by omega) (by omega)) A1.out.size).mono ?_
    rintro e w2 ⟨g, rfl, H2, B2⟩
    have A2 := Lib.hid (A1.out.trans (B2.mono A1.out.size))
    clear H2 B2 A1
    go_wp2_with fail
    go_ret
    exact ⟨rfl, A2.out⟩
  · go_enter Try.func5, Try.ntmps5
    go_wp2_with fail
    refine (head_any _).mono ?_
    rintro e w1 ⟨rfl, B1⟩
    have A1 := Lib.hid B1
    clear B1
    go_wp2_with fail
    refine (new_held w.heap.size 12 N (1 + a1) (1 + a2) _ (ones_valid (by omega) (by omega) (by omega) (by omega) (by omega) (by omega)) A1.out.size).mono ?_
    rintro e w2 ⟨g, rfl, H2, B2⟩
    have A2 := Lib.hid (A1.out.trans (B2.mono A1.out.size))
    have HH2 := Lib.hid H2
    clear H2 B2 A1
    go_wp2_with (at_make; refine wpList_make_full _ rfl _ _ _ rfl w.heap.size 3 j0 _ 1 Try.underlying38 hj0 hy0 hy1 .i64 .i64 _ _ N rfl rfl rfl rfl (by rw [hy2]; omega) (by unfold maxLen; omega) A2.out.size ?_; intro w4 own4 grow4; have OWN4 := Lib.hid own4; have GROW4 := Lib.hid grow4; clear own4 grow4)
    have A4 := Lib.hid (A2.out.grown GROW4.out A2.out.size (fun k e => by cases e))
    have G4 := Lib.hid (show GX w.heap.size w4 g (newS 12 N (1 + a1) (1 + a2)) (Since w1.heap.size w2) w2.heap.size N (List.replicate N 0) from ⟨HH2.out.turned (Turned.of_grown (own := fun _ => False) GROW4.out (fun k e => by cases e)) (fun _ _ h => h), by
        have h := OWN4.out
        have e1 : (madeCells (Value.int IntKind.i64 0).cells (N * 1)).toList = ints (List.replicate N 0) := by
          rw [show (Value.int IntKind.i64 0).cells = #[.int .i64 0] from rfl, toList_madeCells_one, Nat.mul_one]
          simp [ints]
        rw [e1] at h
        have e2 : (List.replicate N (0 : Int)).length = N := by simp
        have h0 := World.ownsRow.mono0 h
        unfold RowI
        rw [e2]
        exact h0, fun h => by have := h.2; omega, A2.out.size⟩)
    have I4 := Lib.hid (show OInv (newS 12 N (1 + a1) (1 + a2)) N (List.replicate N 0) from ⟨by show (N : Int).toNat = N; omega, rfl, by simp, fun k hk => by show gi (List.replicate N 0) k = 0; unfold gi; simp [List.getElem?_replicate, hk]⟩)
    go_loopw [13] (fun iv wr => ∃ i : Nat, i ≤ len3 ∧ iv = .int .i64 i ∧ Hid (∃ s ow X, GX w.heap.size wr g s ow w2.heap.size N X ∧ OInv s N X) ∧ Hid (Below w.heap.size w wr)) (fun iv _ => len3 - (intOf iv).toNat)
    case atStart => exact ⟨0, Nat.zero_le _, rfl, Lib.hid ⟨_, _, _, G4.out, I4.out⟩, A4⟩
    case round =>
      obtain ⟨i, hi, rfl, hT, hB⟩ := hrel
      obtain ⟨wh, rfl⟩ : ∃ wh : World, wh = wr := ⟨_, rfl⟩
      by_cases hlt : i < len3
      · obtain ⟨x, ex, hx⟩ := rowS_at W3.out i hlt
        subst ex
        have x0 := (hB.out.cell (p := x.add (i * 3 + 0)) (World.block_lt_of_cell? w _ (hx 0 .i64 rfl).1)).trans (hx 0 .i64 rfl).1
        have x1 := (hB.out.cell (p := x.add (i * 3 + 1)) (World.block_lt_of_cell? w _ (hx 1 .i64 rfl).1)).trans (hx 1 .i64 rfl).1
        have x2 := (hB.out.cell (p := x.add (i * 3 + 2)) (World.block_lt_of_cell? w _ (hx 2 .i64 rfl).1)).trans (hx 2 .i64 rfl).1
        rw [Nat.add_zero] at x0
        rw [add_field _ _ 1 (by omega)] at x1
        rw [add_field _ _ 2 (by omega)] at x2
        have WC := Lib.hid (hx 1 .i64 rfl).2
        have WN := Lib.hid (hx 2 .i64 rfl).2
        generalize f3 i 0 = what at *
        generalize f3 i 1 = c at *
        generalize f3 i 2 = nw at *
        obtain ⟨s, ow, X, T, P⟩ := hT.out
        have HP := Lib.hid P
        have HT := Lib.hid T
        clear hx T P
        have hbs : ¬ ow wh.heap.size := fun h => Nat.lt_irrefl _ (HT.out.held.lt _ h)
        have HBS := Lib.hid hbs
        have HTA := Lib.hid (HT.out.below ((Below.refl _ _).alloc (Nat.le_refl _) (Obj.cells #[Value.int .i64 what, Value.int .i64 c, Value.int .i64 nw] 29)))
        have hgb : w2.heap.size < wh.heap.size := HT.out.row.lt (k := w2.heap.size) rfl
        clear hbs
        by_cases hw3 : what = 3
        · subst hw3
          go_wp2_with (go_at_call 12; refine (HTA.out.may c nw WC.out).mono ?_; rintro e w5 ⟨rfl, T5, U5, B5⟩; have HT5 := Lib.hid T5; have HB5 := Lib.hid B5; clear T5 B5 U5)
          go_roundw
          case rel => exact ⟨i + 1, by omega, by go_num, Lib.hid ⟨_, _, _, HT5.out, HP.out.may c nw⟩, Lib.hid ((hB.out.alloc hB.out.size _).trans HB5.out)⟩
          case measure => simp [intOf]; omega
        · have hw3b : (what == 3) = false := beq_eq_false_iff_ne.2 hw3
          by_cases hib : issueB s c nw = true
          · obtain ⟨m, rfl⟩ : ∃ m : Nat, c = (m : Int) := ⟨c.toNat, by have := (issue_in hib).1; omega⟩
            have yes := HP.out.yes HT.out.held.ok hib
            obtain ⟨hmN, hyn, hg0, hg1, hO⟩ := yes
            have HIB := Lib.hid hib
            have HYN := Lib.hid hyn
            have HN5 := Lib.hid hO
            obtain ⟨bm, ebm, hcm⟩ := HTA.out.row.at_ m (by rw [HP.out.len]; exact hmN)
            simp only [Option.some.injEq, Addr.mk.injEq, and_true] at ebm
            subst ebm
            have hmN2 : ((m : Nat) : Int) < (N : Int) := by omega
            have hm02 : (0 : Int) ≤ (m : Int) := by omega
            clear hib hyn hO hcm
            go_wp2_with (go_at_call 14; refine (HTA.out.issue (m : Int) nw WC.out).mono ?_; rintro e w5 ⟨rfl, T5, U5, B5⟩; rw [HIB.out, HYN.out]; have HG5 := Lib.hid T5; have HB5 := Lib.hid B5; have y1 : w5.cell? ⟨wh.heap.size, 1, none⟩ = some (.int .i64 (m : Int)) := cell_turned (by simp) U5 HBS.out; obtain ⟨b5, eb5, hc5⟩ := T5.row.at_ m (by rw [HP.out.len]; exact hmN); simp only [Option.some.injEq, Addr.mk.injEq, and_true] at eb5; subst eb5; have hf5 := World.ownsRow.frozenAt T5.row m; clear T5 B5 U5)
            go_region_held3 (fun w' => w'.cell? ⟨wh.heap.size, 1, none⟩ = some (.int .i64 (m : Int)))
              (first | exact y1 | exact (World.cell?_of_block (w := w5) (Below.heap_setCell w5 ⟨w2.heap.size, m, none⟩ _ wh.heap.size (by show wh.heap.size ≠ w2.heap.size; omega))).trans y1)
              (first
                | (go_at_call 19; refine (Hand.ref_add 12 (gi X m) _ (.inl rfl) hg0 hg1).mono ?_; rintro e w' ⟨rfl, rfl⟩))
            generalize hW6 : (w5.setCell ⟨w2.heap.size, m, none⟩ (Value.int IntKind.i64 ((gi X m + 1) % NumPlain.all 12))).drew = w6
            have HT5 := Lib.hid (show GX w.heap.size w6 g _ _ w2.heap.size N _ from by subst hW6; exact (HG5.out.store m ((gi X m + 1) % NumPlain.all 12)).below (Below.refl _ _).drew)
            have HB6 := Lib.hid (show Below w.heap.size w w6 from by subst hW6; exact (((hB.out.alloc hB.out.size _).trans HB5.out).setCell (p := ⟨w2.heap.size, m, none⟩) (by show w.heap.size ≤ w2.heap.size; exact A2.out.size) _).drew)
            clear hW6 y1 hc5 hf5
            go_wp2_with fail
            go_loopw [17] (fun kv wi => ∃ k : Nat, k ≤ N ∧ kv = .int .i64 k ∧ Hid (∃ q, wi = w6.drewN q)) (fun kv _ => N - (intOf kv).toNat)
            case atStart => exact ⟨0, Nat.zero_le _, rfl, Lib.hid ⟨0, rfl⟩⟩
            case round =>
              obtain ⟨k, hk, rfl, hq⟩ := hrel
              by_cases hkl : k < N
              · have HX : Hid (GX w.heap.size wr g _ _ w2.heap.size N _) := Lib.hid (by obtain ⟨q, e⟩ := hq.out; rw [e]; exact HT5.out.below (below_dn (Below.refl _ _) q))
                obtain ⟨b, eb, hcb⟩ := HX.out.row.at_ k (by rw [HN5.out.len]; exact hkl)
                simp only [Option.some.injEq, Addr.mk.injEq, and_true] at eb
                subst eb
                have HNX := Lib.hid (fun n => quiet_left (n := n) ((HX.out.below (below_dn (Below.refl _ _) n)).next HN5.out k hkl hN1))
                generalize gi _ k = gk at hcb HNX
                go_wp2_with fail
                go_quiet ((go_at_call 16; exact HNX.out _))
                go_wp2_with fail
                go_roundw
                case rel => exact ⟨k + 1, by omega, by go_num, Lib.hid (by obtain ⟨q, e⟩ := hq.out; exact ⟨q + nq, by rw [e, World.drewN_drewN]⟩)⟩
                case measure => simp [intOf]; omega
              · obtain rfl : k = N := by omega
                go_wp2_with fail
                go_roundw
                case rel => exact ⟨i + 1, by omega, by go_num, Lib.hid ⟨_, _, _, (by obtain ⟨q, e⟩ := hq.out; rw [e]; exact HT5.out.below (below_dn (Below.refl _ _) q)), HN5.out⟩, Lib.hid (by obtain ⟨q, e⟩ := hq.out; rw [e]; exact below_dn HB6.out q)⟩
                case measure => simp [intOf]; omega
          · have hibf : issueB s c nw = false := by simpa using hib
            have HIB := Lib.hid hibf
            clear hib hibf
            go_wp2_with (go_at_call 14; refine (HTA.out.issue c nw WC.out).mono ?_; rintro e w5 ⟨rfl, T5, U5, B5⟩; rw [HIB.out]; have HT5 := Lib.hid T5; have HB5 := Lib.hid B5; clear T5 B5 U5)
            have HN5 := Lib.hid (HP.out.no HIB.out)
            go_loopw [17] (fun kv wi => ∃ k : Nat, k ≤ N ∧ kv = .int .i64 k ∧ Hid (∃ q, wi = w5.drewN q)) (fun kv _ => N - (intOf kv).toNat)
            case atStart => exact ⟨0, Nat.zero_le _, rfl, Lib.hid ⟨0, rfl⟩⟩
            case round =>
              obtain ⟨k, hk, rfl, hq⟩ := hrel
              by_cases hkl : k < N
              · have HX : Hid (GX w.heap.size wr g _ _ w2.heap.size N _) := Lib.hid (by obtain ⟨q, e⟩ := hq.out; rw [e]; exact HT5.out.below (below_dn (Below.refl _ _) q))
                obtain ⟨b, eb, hcb⟩ := HX.out.row.at_ k (by rw [HN5.out.len]; exact hkl)
                simp only [Option.some.injEq, Addr.mk.injEq, and_true] at eb
                subst eb
                have HNX := Lib.hid (fun n => quiet_left (n := n) ((HX.out.below (below_dn (Below.refl _ _) n)).next HN5.out k hkl hN1))
                generalize gi _ k = gk at hcb HNX
                go_wp2_with fail
                go_quiet ((go_at_call 16; exact HNX.out _))
                go_wp2_with fail
                go_roundw
                case rel => exact ⟨k + 1, by omega, by go_num, Lib.hid (by obtain ⟨q, e⟩ := hq.out; exact ⟨q + nq, by rw [e, World.drewN_drewN]⟩)⟩
                case measure => simp [intOf]; omega
              · obtain rfl : k = N := by omega
                go_wp2_with fail
                go_roundw
                case rel => exact ⟨i + 1, by omega, by go_num, Lib.hid ⟨_, _, _, (by obtain ⟨q, e⟩ := hq.out; rw [e]; exact HT5.out.below (below_dn (Below.refl _ _) q)), HN5.out⟩, Lib.hid (by obtain ⟨q, e⟩ := hq.out; rw [e]; exact below_dn ((hB.out.alloc hB.out.size _).trans HB5.out) q)⟩
                case measure => simp [intOf]; omega
      · go_wp2_with fail
        go_ret
        exact ⟨rfl, hB.out⟩
end Go.Proofs.Ytbaebohhbnomoaa.G
