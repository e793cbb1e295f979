/- The contract of marker.Get, by hand's walk. -/
import Derived.Test.YtelpnlpbjenmkaaHand
import Derived.Deep.RegionHeld3
import Derived.Deep.AppendLies
namespace Go.Proofs.Ytelpnlpbjenmkaa.Hand
open Go.RowKit Go.Proofs.YtelpnlpbjenmkaaW.PrintWords Go.Proofs.YtelpnlpbjenmkaaW.PrintLast Go.Proofs.YtelpnlpbjenmkaaW.PrintMore
set_option linter.unusedVariables false
set_option linter.unusedSimpArgs false

theorem info5 : (Try.prog.info? 5).map (fun i => (i.zero, i.size, i.bytes)) = some (some (.int .u8 0), 1, 1) := by kernel_rfl
theorem info2 : (Try.prog.info? 2).map (fun i => (i.zero, i.size, i.bytes)) = some (some (.int .i64 0), 1, 8) := by kernel_rfl

/-- The number of bytes, the highest first. -/
def num (l : List Int) : Int := l.foldl (fun n c => 256 * n + c) 0
theorem num_snoc (l : List Int) (k : Nat) (hk : k < l.length) : num (l.take (k + 1)) = 256 * num (l.take k) + rd l k := by
  unfold num
  rw [List.take_add_one, List.foldl_append]
  simp [rd, List.getElem?_eq_getElem hk]

theorem wraps_i64 (n : Int) (h₀ : 0 ≤ n) (h₁ : n < 2 ^ 63) : IntKind.i64.wrap n = n := by rw [IntKind.wrap_i64]; omega
theorem or_byte (n c : Int) (h0 : 0 ≤ n) (h1 : n < 281474976710656) (c0 : 0 ≤ c) (c1 : c ≤ 255) : bits BinOp.or IntKind.i64 (n * 256) c = 256 * n + c := by
  rw [bits_join .i64 63 (by decide) wraps_i64 8 (n * 256) c (by omega) (by omega) (by omega) c0 (by omega) (by omega)]
  omega
/-- Bytes. -/
def Bytes (l : List Int) : Prop := ∀ i : Nat, 0 ≤ rd l i ∧ rd l i ≤ 255
def cap : Nat → Int
  | 0 => 1
  | k + 1 => 256 * cap k
theorem num_bound (l : List Int) (hb : Bytes l) (k : Nat) (hk : k ≤ l.length) : 0 ≤ num (l.take k) ∧ num (l.take k) < cap k := by
  induction k with
  | zero => simp [num, cap]
  | succ k ih =>
    obtain ⟨h0, h1⟩ := ih (by omega)
    have h2 := hb k
    rw [num_snoc l k (by omega)]
    unfold cap
    omega
theorem num_small (l : List Int) (hb : Bytes l) (k : Nat) (hk : k ≤ l.length) (h6 : k ≤ 6) : 0 ≤ num (l.take k) ∧ num (l.take k) < 281474976710656 := by
  obtain ⟨h0, h1⟩ := num_bound l hb k hk
  refine ⟨h0, ?_⟩
  have : cap k ≤ 281474976710656 := by
    have : k = 0 ∨ k = 1 ∨ k = 2 ∨ k = 3 ∨ k = 4 ∨ k = 5 ∨ k = 6 := by omega
    rcases this with rfl | rfl | rfl | rfl | rfl | rfl | rfl <;> decide
  omega

theorem ints_of_C {k : IntKind} {w : World} {A : Option Addr} {n : Nat} {xs : List Int} (h : (Kd.int k).C w A n xs) : ReadsInt w k A n xs :=
  readsInt_of.2 (Kd.reads_of_C (enc := Value.int k) (d := (0 : Int)) (h1 := fun _ => rfl) h)

set_option maxHeartbeats 800000 in
theorem next_any (size : Nat) (xs : List Int) (A : Option Addr) (c B : Nat) (w : World) (hcell : w.cell? ⟨B, 0, none⟩ = some (.slice A xs.length c)) (hfz : w.frozen? ⟨B, 0, none⟩ = false)
    (hr : ReadsInt w .u8 A xs.length xs) (hc : xs.length ≤ c) (hs : size ≤ xs.length) (hmax : xs.length ≤ 9223372036854775807) (hby : Bytes xs) (h6 : size ≤ 6) (A' : Option Addr)
    (hcut : ∀ W : World, (Instr.slice 25 (.slice A xs.length c) (some (.int .i64 (size : Int))) none none).run Try.prog W = .ok (.slice A' (xs.length - size) (c - size)) W) :
    Calls Try.prog 19 #[.int .i64 size, .pointer (some ⟨B, 0, none⟩)] w fun e w' => e = .returned (.int .i64 (num (xs.take size))) ∧ w' = w.setCell ⟨B, 0, none⟩ (.slice A' (xs.length - size) (c - size)) := by
  have HR := Aside0.mk hr
  clear hr
  have HY := Aside0.mk hby
  clear hby
  go_enter Try.func19, Try.ntmps19
  go_wp2_with fail
  go_loop [4, 11] (fun n i => ∃ k : Nat, k ≤ size ∧ i = .int .i64 k ∧ n = .int .i64 (num (xs.take k))) (fun _ i => size - (intOf i).toNat)
  case atStart => exact ⟨0, Nat.zero_le _, rfl, rfl⟩
  case round =>
    obtain ⟨k, hk, rfl, rfl⟩ := hrel
    by_cases hlt : k < size
    · obtain ⟨ad, e, hc⟩ := HR.out.at_ (k : Int) (by omega) (by omega)
      subst e
      rw [Int.toNat_natCast] at hc
      have hn := num_small xs HY.out k (by omega) (by omega)
      have hn0 := hn.1
      have hn1 := hn.2
      clear hn
      have hy0 := (HY.out k).1
      have hy1 := (HY.out k).2
      have HN := Lib.hid (num_snoc xs k (by omega))
      have HO := Lib.hid (or_byte (num (xs.take k)) (rd xs k) hn0 hn1 hy0 hy1)
      go_wp2_with fail
      go_round
      case rel => exact ⟨k + 1, by omega, by go_num, by rw [HN.out, ← HO.out]⟩
      case measure => simp [intOf]; omega
    · obtain rfl : k = size := by omega
      go_wp2_with fail
      go_ret
      exact ⟨rfl, rfl⟩

theorem bytes_drop (l : List Int) (off : Nat) (hb : Bytes l) : Bytes (l.drop off) := fun i => by
  have := hb (off + i)
  unfold rd at *
  simp only [Int.toNat_natCast, List.getD_eq_getElem?_getD, List.getElem?_drop] at *
  exact this

/-- Block B bears what is left of bytes l (that lay in world w), from 'off' on. -/
def At (w : World) (l : List Int) (c B off : Nat) (W : World) : Prop :=
  ∃ Ak, W.cell? ⟨B, 0, none⟩ = some (.slice Ak (l.drop off).length (c - off)) ∧ ReadsInt w .u8 Ak (l.drop off).length (l.drop off)

/-- What 'next' leaves: all but block B is as it was. -/
structure Moved (B : Nat) (W w' : World) : Prop where
  size : w'.heap.size = W.heap.size
  other : ∀ k, k ≠ B → w'.heap[k]? = W.heap[k]?
  frz : w'.frozen? ⟨B, 0, none⟩ = W.frozen? ⟨B, 0, none⟩
  below : Below B W w'
theorem Moved.cell {B : Nat} {W w' : World} (h : Moved B W w') {p : Addr} (hp : p.block ≠ B) : w'.cell? p = W.cell? p := World.cell?_of_block (h.other _ hp)
theorem Moved.frozen {B : Nat} {W w' : World} (h : Moved B W w') {p : Addr} (hp : p.block ≠ B) : w'.frozen? p = W.frozen? p := World.frozen?_of_block (h.other _ hp)
theorem Moved.set {B : Nat} {W : World} (u : Value) : Moved B W (W.setCell ⟨B, 0, none⟩ u) :=
  ⟨by simp [World.setCell], fun k hk => Below.heap_setCell _ _ _ _ hk, by simp, Below.setCell (p := ⟨B, 0, none⟩) (Below.refl B W) (Nat.le_refl B) u⟩

theorem next_at (size : Nat) (l : List Int) (c B off : Nat) (w W : World) (hat : At w l c B off W) (hb : Below w.heap.size w W) (hfz : W.frozen? ⟨B, 0, none⟩ = false) (hc : l.length ≤ c) (hs : off + size ≤ l.length) (hmax : l.length ≤ 9223372036854775807) (hby : Bytes l) (h6 : size ≤ 6) :
    Calls Try.prog 19 #[.int .i64 size, .pointer (some ⟨B, 0, none⟩)] W fun e w' => e = .returned (.int .i64 (num ((l.drop off).take size))) ∧ At w l c B (off + size) w' ∧ Moved B W w' := by
  obtain ⟨Ak, hcell, hr⟩ := hat
  have hd : (l.drop off).length = l.length - off := List.length_drop
  obtain ⟨i5, hi5, hz5⟩ := Option.map_eq_some_iff.1 info5
  simp only [Prod.mk.injEq] at hz5
  obtain ⟨A', hcut, hA'⟩ := print_cut (P := Try.prog) 25 5 .i64 Try.underlying25 hi5 hz5.2.1 Ak (l.drop off).length (c - off) size (by omega)
  refine (next_any size (l.drop off) Ak (c - off) B W hcell hfz (hr.below hb) (by omega) (by omega) (by omega) (bytes_drop l off hby) h6 A' hcut).mono ?_
  rintro e w' ⟨rfl, rfl⟩
  refine ⟨rfl, ⟨A', ?_, ?_⟩, Moved.set _⟩
  · rw [World.cell?_setCell_same' _ _ _ (by rw [hcell]; rfl)]
    have e1 : (l.drop off).length - size = (l.drop (off + size)).length := by simp; omega
    have e2 : c - off - size = c - (off + size) := by omega
    rw [e1, e2]
  · have h := hA' w .u8 (l.drop off) (by omega) hr
    have e1 : (l.drop off).length - size = (l.drop (off + size)).length := by simp; omega
    rw [e1, List.drop_drop] at h
    exact h
end Go.Proofs.Ytelpnlpbjenmkaa.Hand
