/- The guard's own functions: lives, May, Next, Issue. -/
import Derived.Test.YtbaebohhbnomoaaDele
import Derived.Test.YtbaebohhbnomoaaNum
import Derived.RegionTactic
import Derived.ChangeAlike
import Derived.Deep.RegionHeld3
import Derived.Deep.AppendLies
namespace Go.Proofs.Ytbaebohhbnomoaa.G
open Go.RowKit
set_option linter.unusedVariables false
set_option linter.unusedSimpArgs false

structure Ok (s : St) : Prop where
  bits : s.bits = 12 ∨ s.bits = 24
  w0 : 1 ≤ s.window
  w1 : s.window ≤ 4194304
  l0 : 1 ≤ s.life
  l1 : s.life ≤ 1099511627776
  n0 : 0 ≤ s.now
  n1 : s.now ≤ 1099511627776
  c0 : 1 ≤ s.n
  c1 : s.n ≤ 16
  next : ∀ i, i < s.n → 0 ≤ s.next i ∧ s.next i < NumPlain.all s.bits
  fine : ∀ i, i < s.n → Fine (s.ats i)
  room : ∀ i, i < s.n → ((s.ats i).length : Int) ≤ s.window

/-- What time it is then. -/
def tk (s : St) (now : Int) : Int := if 1099511627776 < if now < s.now then s.now else now then 1099511627776 else if now < s.now then s.now else now
theorem tk_in {s : St} (ok : Ok s) (now : Int) : s.now ≤ tk s now ∧ tk s now ≤ 1099511627776 := by
  have := ok.n1
  unfold tk
  split <;> split <;> omega
theorem upd_id {α : Type} (f : Nat → α) (i : Nat) : upd f i (f i) = f := by
  funext j
  unfold upd
  split <;> simp_all
/-- The state with a class's row cut to those that live. -/
def cutAt (s : St) (t : Int) (i : Nat) : St := { s with now := t, ats := upd s.ats i (keep t s.life (s.ats i)) }

theorem At.cut {W w1 : World} {g : Nat} {s : St} {own : Nat → Prop} {m : Nat} {bs : Nat → Nat} {vs : Nat → Value} {i : Nat} {t : Int} {v : Value} (h : At W g { s with now := t } own m bs vs) (hl : ∀ k, own k → k < W.heap.size) (hi : i < s.n)
    (hb : w1.heap[bs i]? = some (.cells #[.int .i64 (s.next i), vs i] 52 (0, 0))) (hr : Row w1 v (keep t s.life (s.ats i))) (ho : v.ownBlock = (vs i).ownBlock) (ht : Turned (fun k => (vs i).ownBlock = some k) W w1) :
    At (w1.setCell ⟨bs i, 1, none⟩ v) g (cutAt s t i) own m bs (upd vs i v) := by
  have hne : ∀ k, (vs i).ownBlock = some k → k ≠ bs i := fun k e => by
    obtain ⟨cur, hc⟩ := (h.row i hi).block e
    exact ne_types hc (h.cls i hi) (by decide)
  have hp := h.put (w' := w1.setCell ⟨bs i, 1, none⟩ v) hl i hi (s.next i) v (keep t s.life (s.ats i))
    (fun k hk h1 h2 => (Below.heap_setCell _ _ _ _ h1).trans (ht.keep k (hl k hk) h2)) ((blk_set hb 1 v).trans rfl) (hr.kept (fun k e => Below.heap_setCell _ _ _ _ (hne k (ho ▸ e))))
    (fun k e => .inl (ho ▸ e)) own (fun _ hk => hk) (fun k e => h.ov i hi k (ho ▸ e))
  have e : ({ ({ s with now := t } : St) with next := upd s.next i (s.next i), ats := upd s.ats i (keep t s.life (s.ats i)) } : St) = cutAt s t i := by
    unfold cutAt
    rw [upd_id]
  rw [← e]
  exact hp

def LivesPost (g : Nat) (s : St) (own : Nat → Prop) (m : Nat) (bs : Nat → Nat) (vs : Nat → Value) (t : Int) (i : Nat) (w : World) (e : Ending) (w' : World) : Prop :=
  ∃ (A : Option Addr) (c : Nat), e = .returned (.slice A (keep t s.life (s.ats i)).length c) ∧ At w' g (cutAt s t i) own m bs (upd vs i (.slice A (keep t s.life (s.ats i)).length c)) ∧ Turned own w w'

set_option maxHeartbeats 1600000 in
theorem lives_some (g : Nat) (s : St) (own : Nat → Prop) (m : Nat) (bs : Nat → Nat) (vs : Nat → Value) (i : Nat) (now t : Int) (w : World) (h : At w g s own m bs vs) (hl : ∀ k, own k → k < w.heap.size) (ok : Ok s) (hi : i < s.n) (ht : t = tk s now) :
    Calls Try.prog 21 #[.pointer (some ⟨g, 0, none⟩), .pointer (some ⟨bs i, 0, none⟩), .int .i64 now] w (LivesPost g s own m bs vs t i w) := by
  have hg := hl g h.og
  have c3 : w.cell? ⟨g, 3, none⟩ = some (.int .i64 s.now) := (blk_at h.head 3).trans rfl
  have f3 : w.frozen? ⟨g, 3, none⟩ = false := blk_free h.head 3
  have HA := Lib.hid h
  have HL := Lib.hid hl
  have OK := Lib.hid ok
  have HT := Lib.hid ht
  clear h hl ok ht
  go_enter Try.func21, Try.ntmps21
  go_wp2_with fail
  go_region
  rw [show (if 1099511627776 < if now < s.now then s.now else now then 1099511627776 else if now < s.now then s.now else now) = t from HT.out.symm]
  generalize hW : ((w.setCell ⟨g, 3, none⟩ (Value.int IntKind.i64 t)).alloc (Obj.cells #[Value.pointer (some ⟨g, 0, none⟩)] 24)).drew = W
  have htk := tk_in OK.out now
  rw [← HT.out] at htk
  have hAt : At W g { s with now := t } own m bs vs := by
    subst hW
    exact (HA.out.tick t).kept (fun k hk => Below.heap_alloc _ _ _ (by have := HL.out k hk; simpa [World.setCell] using this))
  have hTu : Turned own w W := by
    subst hW
    exact ((Turned.setCell (own := own) w ⟨g, 3, none⟩ _ HA.out.og).trans (Turned.alloc (own := own) _ _) (fun _ _ h => h)).trans (Turned.drew _) (fun _ _ h => h)
  have hS : Sees W w.heap.size g t s.life := by
    refine ⟨?_, (blk_at hAt.head 2).trans rfl, (blk_at hAt.head 3).trans rfl, ?_, Nat.lt_of_lt_of_le hg hTu.size⟩
    · subst hW
      have hn := heap_alloc_new (w.setCell ⟨g, 3, none⟩ (Value.int IntKind.i64 t)) (Obj.cells #[Value.pointer (some ⟨g, 0, none⟩)] 24)
      have hn2 := blk_at hn 0
      simpa [World.setCell] using hn2
    · subst hW
      simp [World.setCell]
  have hci : W.cell? ⟨bs i, 1, none⟩ = some (vs i) := (blk_at (hAt.cls i hi) 1).trans rfl
  have hrow : Row W (vs i) (s.ats i) := hAt.row i hi
  have hfar : ∀ k, (vs i).ownBlock = some k → w.heap.size ≠ k ∧ g ≠ k := fun k e => by
    obtain ⟨cur, hc⟩ := hrow.block e
    exact ⟨fun e' => by have := HL.out k (HA.out.ov i hi k e); omega, ne_types hAt.head hc (by decide)⟩
  have HD := Lib.hid (dele_any t s.life w.heap.size g (vs i) (s.ats i) W hrow hS (OK.out.fine i hi) hfar (by have := OK.out.n0; omega) htk.2)
  have HAt := Lib.hid hAt
  have HTu := Lib.hid hTu
  have HFar := Lib.hid hfar
  clear hW hAt hTu hS hrow hfar htk c3 f3
  go_wp2_with (go_at_call 29; refine HD.out.mono ?_; rintro e w1 ⟨v', rfl, hr1, ho1, ht1⟩; obtain ⟨A', c', rfl⟩ := hr1.form; have hb1 : w1.heap[bs i]? = some (.cells #[.int .i64 (s.next i), vs i] 52 (0, 0)) := (ht1.keep (bs i) (Nat.lt_of_lt_of_le (HL.out _ (HA.out.ob i hi)) HTu.out.size) (fun e => by obtain ⟨cur, hc⟩ := (HAt.out.row i hi).block e; exact ne_types hc (HAt.out.cls i hi) (by decide) rfl)).trans (HAt.out.cls i hi); have hc1 : w1.cell? ⟨bs i, 1, none⟩ = some (vs i) := (blk_at hb1 1).trans rfl; have hf1 := blk_free hb1 1; have HB1 := Lib.hid hb1; have HR1 := Lib.hid hr1; have HO1 := Lib.hid ho1; have HT1 := Lib.hid ht1; clear hb1 hr1 ho1 ht1)
  all_goals
    go_ret
    refine ⟨A', c', rfl, HAt.out.cut (fun k hk => Nat.lt_of_lt_of_le (HL.out k hk) HTu.out.size) hi HB1.out HR1.out HO1.out HT1.out, ?_⟩
    exact (HTu.out.trans HT1.out (fun k _ e => HA.out.ov i hi k e)).trans (Turned.setCell (own := own) w1 ⟨bs i, 1, none⟩ _ (HA.out.ob i hi)) (fun _ _ h => h)

def TickPost (g : Nat) (s : St) (own : Nat → Prop) (m : Nat) (bs : Nat → Nat) (vs : Nat → Value) (t : Int) (w : World) (e : Ending) (w' : World) : Prop :=
  e = .returned (.slice none 0 0) ∧ At w' g { s with now := t } own m bs vs ∧ Turned own w w'

set_option maxHeartbeats 1600000 in
theorem lives_none (g : Nat) (s : St) (own : Nat → Prop) (m : Nat) (bs : Nat → Nat) (vs : Nat → Value) (now t : Int) (w : World) (h : At w g s own m bs vs) (hl : ∀ k, own k → k < w.heap.size) (ht : t = tk s now) :
    Calls Try.prog 21 #[.pointer (some ⟨g, 0, none⟩), .pointer none, .int .i64 now] w (TickPost g s own m bs vs t w) := by
  have hg := hl g h.og
  have c3 : w.cell? ⟨g, 3, none⟩ = some (.int .i64 s.now) := (blk_at h.head 3).trans rfl
  have f3 : w.frozen? ⟨g, 3, none⟩ = false := blk_free h.head 3
  have HA := Lib.hid h
  have HL := Lib.hid hl
  have HT := Lib.hid ht
  clear h hl ht
  go_enter Try.func21, Try.ntmps21
  go_wp2_with fail
  go_region
  rw [show (if 1099511627776 < if now < s.now then s.now else now then 1099511627776 else if now < s.now then s.now else now) = t from HT.out.symm]
  generalize hW : ((w.setCell ⟨g, 3, none⟩ (Value.int IntKind.i64 t)).alloc (Obj.cells #[Value.pointer (some ⟨g, 0, none⟩)] 24)).drew = W
  have hAt : At W g { s with now := t } own m bs vs := by
    subst hW
    exact (HA.out.tick t).kept (fun k hk => Below.heap_alloc _ _ _ (by have := HL.out k hk; simpa [World.setCell] using this))
  have hTu : Turned own w W := by
    subst hW
    exact ((Turned.setCell (own := own) w ⟨g, 3, none⟩ _ HA.out.og).trans (Turned.alloc (own := own) _ _) (fun _ _ h => h)).trans (Turned.drew _) (fun _ _ h => h)
  have HAt := Lib.hid hAt
  have HTu := Lib.hid hTu
  clear hW hAt hTu c3 f3
  go_wp2_with fail
  all_goals
    go_ret
    exact ⟨rfl, HAt.out, HTu.out⟩

/-- The state behind May. -/
def mayS (s : St) (c now : Int) : St := if 0 ≤ c ∧ c < s.n then cutAt s (tk s now) c.toNat else { s with now := tk s now }
/-- How many could be issued. -/
def room (s : St) (c : Int) : Int := if 0 ≤ c ∧ c < s.n then s.window - (s.ats c.toNat).length else 0
def nextS (s : St) (c : Int) : Int := if 0 ≤ c ∧ c < s.n then s.next c.toNat else 0

def MayPost (g : Nat) (s : St) (own : Nat → Prop) (c now : Int) (w : World) (e : Ending) (w' : World) : Prop :=
  e = .returned (.int .i64 (room (mayS s c now) c)) ∧ GuardAt w' g (mayS s c now) own ∧ Turned own w w'

theorem keep_le (now life : Int) (xs : List Int) : (keep now life xs).length ≤ xs.length := List.length_filter_le _ _

set_option maxHeartbeats 800000 in
theorem may_any (g : Nat) (s : St) (own : Nat → Prop) (c now : Int) (w : World) (h : GuardAt w g s own) (ok : Ok s) (hc : (Lit.int .i64 c).wf = true) :
    Calls Try.prog 12 #[.pointer (some ⟨g, 0, none⟩), .int .i64 c, .int .i64 now] w (MayPost g s own c now w) := by
  obtain ⟨hl, m, bs, vs, hA⟩ := h
  have c4 : w.cell? ⟨g, 4, none⟩ = some (.map (some m)) := (blk_at hA.head 4).trans rfl
  have hlook := run_look w m bs s.n hA.map c hc
  have HA := Lib.hid hA
  have HL := Lib.hid hl
  have OK := Lib.hid ok
  have hw0 := ok.w0
  have hw1 := ok.w1
  clear hA hl ok hc
  by_cases hin : 0 ≤ c ∧ c < s.n
  · have hp : ptr bs s.n c = some ⟨bs c.toNat, 0, none⟩ := if_pos hin
    have hi : c.toNat < s.n := by omega
    rw [hp] at hlook
    have HI := Lib.hid (lives_some g s own m bs vs c.toNat now (tk s now) w HA.out HL.out OK.out hi rfl)
    have hlen := keep_le (tk s now) s.life (s.ats c.toNat)
    have hroom := OK.out.room c.toNat hi
    have HE : Hid (mayS s c now = cutAt s (tk s now) c.toNat) := Lib.hid (if_pos hin)
    have HR : Hid (room (cutAt s (tk s now) c.toNat) c = s.window - ((keep (tk s now) s.life (s.ats c.toNat)).length : Int)) := Lib.hid (by
      unfold room
      rw [show (cutAt s (tk s now) c.toNat).n = s.n from rfl, if_pos hin]
      show s.window - ((upd s.ats c.toNat (keep (tk s now) s.life (s.ats c.toNat)) c.toNat).length : Int) = _
      rw [upd_same])
    have hq : ((keep (tk s now) s.life (s.ats c.toNat)).length : Int) ≤ s.window := by omega
    clear hp hin hlen hroom
    go_enter Try.func12, Try.ntmps12
    go_wp2_with (go_at_call 21; refine HI.out.mono ?_; rintro e w1 ⟨A, cc, rfl, ha, ht⟩; have c1 : w1.cell? ⟨g, 1, none⟩ = some (.int .i64 s.window) := (blk_at ha.head 1).trans rfl; have HAA := Lib.hid ha; have HT := Lib.hid ht; clear ha ht)
    go_ret
    refine ⟨Hand.ret_int (by rw [HE.out, HR.out]), ?_, HT.out⟩
    · rw [HE.out]
      exact ⟨fun k hk => Nat.lt_of_lt_of_le (HL.out k hk) HT.out.size, m, bs, _, HAA.out⟩
  · have hp : ptr bs s.n c = none := if_neg hin
    rw [hp] at hlook
    have HI := Lib.hid (lives_none g s own m bs vs now (tk s now) w HA.out HL.out rfl)
    have HE : Hid (mayS s c now = { s with now := tk s now }) := Lib.hid (if_neg hin)
    have HR : Hid (room { s with now := tk s now } c = 0) := Lib.hid (if_neg hin)
    clear hp hin
    go_enter Try.func12, Try.ntmps12
    go_wp2_with (go_at_call 21; refine HI.out.mono ?_; rintro e w1 ⟨rfl, ha, ht⟩; have HAA := Lib.hid ha; have HT := Lib.hid ht; clear ha ht)
    go_ret
    refine ⟨Hand.ret_int (by rw [HE.out, HR.out]), ?_, HT.out⟩
    · rw [HE.out]
      exact ⟨fun k hk => Nat.lt_of_lt_of_le (HL.out k hk) HT.out.size, m, bs, _, HAA.out⟩

set_option maxHeartbeats 800000 in
theorem next_any (g : Nat) (s : St) (own : Nat → Prop) (c : Int) (w : World) (h : GuardAt w g s own) (hc : (Lit.int .i64 c).wf = true) :
    Calls Try.prog 16 #[.pointer (some ⟨g, 0, none⟩), .int .i64 c] w fun e w' => e = .returned (.int .i64 (nextS s c)) ∧ w = w' := by
  obtain ⟨hl, m, bs, vs, hA⟩ := h
  have c4 : w.cell? ⟨g, 4, none⟩ = some (.map (some m)) := (blk_at hA.head 4).trans rfl
  have hlook := run_look w m bs s.n hA.map c hc
  by_cases hin : 0 ≤ c ∧ c < s.n
  · have hp : ptr bs s.n c = some ⟨bs c.toNat, 0, none⟩ := if_pos hin
    have hi : c.toNat < s.n := by omega
    rw [hp] at hlook
    have c0 : w.cell? ⟨bs c.toNat, 0, none⟩ = some (.int .i64 (s.next c.toNat)) := (blk_at (hA.cls c.toNat hi) 0).trans rfl
    have HE : Hid (nextS s c = s.next c.toNat) := Lib.hid (if_pos hin)
    clear hp hin hA hl hc
    go_enter Try.func16, Try.ntmps16
    go_wp2_with fail
    go_ret
    exact ⟨Hand.ret_int HE.out.symm, rfl⟩
  · have hp : ptr bs s.n c = none := if_neg hin
    rw [hp] at hlook
    have HE : Hid (nextS s c = 0) := Lib.hid (if_neg hin)
    clear hp hin hA hl hc
    go_enter Try.func16, Try.ntmps16
    go_wp2_with fail
    go_ret
    exact ⟨Hand.ret_int HE.out.symm, rfl⟩
end Go.Proofs.Ytbaebohhbnomoaa.G
