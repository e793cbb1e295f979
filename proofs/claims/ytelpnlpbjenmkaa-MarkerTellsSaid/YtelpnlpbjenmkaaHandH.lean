/- The contract of marker.Get, by hand's walk: the function itself. -/
import Derived.Test.YtelpnlpbjenmkaaHandG
import Derived.Deep.QuietTactic
import Derived.BigQuiet
import Derived.Deep.RegionLaw
namespace Go.Proofs.Ytelpnlpbjenmkaa.Hand
open Go.RowKit Go.Proofs.YtelpnlpbjenmkaaW.PrintWords Go.Proofs.YtelpnlpbjenmkaaW.PrintLast Go.Proofs.YtelpnlpbjenmkaaW.PrintMore
set_option linter.unusedVariables false
set_option linter.unusedSimpArgs false

/-- What is left, each of four bytes. -/
def lefts (l : List Int) : Nat → List Int
  | 0 => []
  | k + 1 => lefts l k ++ [wrap32 (num ((l.drop (11 + 4 * k)).take 4))]
theorem lefts_length (l : List Int) (k : Nat) : (lefts l k).length = k := by
  induction k with
  | zero => rfl
  | succ k ih => simp [lefts, ih]
/-- What bytes say, if they are right. -/
def said (l : List Int) : Int × Int × Int × Int × List Int :=
  (num ((l.drop 0).take 2), num ((l.drop 2).take 6), num ((l.drop 8).take 1), num ((l.drop 9).take 1), lefts l (rd l 10).toNat)
def get (l : List Int) : Int × Int × Int × Int × List Int × Bool :=
  if (l.length : Int) < 11 then (0, 0, 0, 0, [], false)
  else if (l.length : Int) = 11 + 4 * rd l 10 then
    if right (said l).1 (said l).2.1 (said l).2.2.1 (said l).2.2.2.1 (said l).2.2.2.2 = true then ((said l).1, (said l).2.1, (said l).2.2.1, (said l).2.2.2.1, (said l).2.2.2.2, true) else (0, 0, 0, 0, [], false)
  else (0, 0, 0, 0, [], false)

def GetPost (q : Int × Int × Int × Int × List Int × Bool) (w : World) (e : Ending) (w' : World) : Prop :=
  ∃ v4_ : Value, e = .returned (.tuple #[.agg #[.int .i64 q.1, .int .i64 q.2.1, .int .i64 q.2.2.1, .int .i64 q.2.2.2.1, v4_], .bool q.2.2.2.2.2]) ∧ Kd.R (Kd.int .i64) 2 w' w.heap.size (fun _ => True) v4_ q.2.2.2.2.1 ∧ Below w.heap.size w w'

theorem num_one (l : List Int) (k : Nat) (hk : k < l.length) : num ((l.drop k).take 1) = rd l k := by
  have h := num_snoc (l.drop k) 0 (by simp; omega)
  rw [h]
  simp [num, rd]

theorem step_wanted {ops : Array Oper} {o : Oper} {a : Act} {X E : Prop} (hg : o.guard = none) (h : X) : if Region.wanted o (yielded ops a.tmps) = true then X else E := by
  have hw : Region.wanted o (yielded ops a.tmps) = true := by simp [Region.wanted, hg]
  rw [if_pos hw]
  exact h

/-- What stands at the head of each round. -/
structure LoopAt (w : World) (l : List Int) (c b M : Nat) (n1 n2 n3 n4 : Int) (k : Nat) (wr : World) : Prop where
  at_ : At w l c w.heap.size (11 + 4 * k) wr
  below : Below w.heap.size w wr
  frz : wr.frozen? ⟨w.heap.size, 0, none⟩ = false
  size : M + 1 ≤ wr.heap.size
  res : wr.heap[w.heap.size + 1]? = some (.cells #[Value.int IntKind.i64 0, Value.int IntKind.i64 0, Value.int IntKind.i64 0, Value.int IntKind.i64 0, Value.slice none 0 0] 24 (0, 0))
  row : ∃ v : Value, wr.heap[M]? = some (.cells #[Value.int IntKind.i64 n1, Value.int IntKind.i64 n2, Value.int IntKind.i64 n3, Value.int IntKind.i64 n4, v] 24 (0, 0)) ∧ wr.ownsRow (M + 1) 2 1 v (lefts l k).length (nums .i64 (lefts l k))

theorem wrap_wrap (x : Int) : IntKind.i64.wrap (IntKind.i32.wrap x) = wrap32 x := by
  rw [IntKind.wrap_i64, IntKind.wrap_i32]
  unfold wrap32
  omega

theorem blk_setCell {w : World} {g : Nat} {cs : Array Value} {t : TypeId} (h : w.heap[g]? = some (.cells cs t (0, 0))) (j : Nat) (u : Value) : (w.setCell ⟨g, j, none⟩ u).heap[g]? = some (.cells (cs.setIfInBounds j u) t (0, 0)) := by
  simp [World.setCell, Array.getElem?_modify, h]

theorem LoopAt.step {w : World} {l : List Int} {c b M : Nat} {n1 n2 n3 n4 : Int} {k : Nat} {wr w1 w2 : World} {v : Value} {x : Int} {o : Obj} {gg cap : Nat} (hM : M = w.heap.size + 2)
    (hbw : Below w.heap.size w wr) (hfw : wr.frozen? ⟨w.heap.size, 0, none⟩ = false) (hsz : M + 1 ≤ wr.heap.size)
    (hZ : wr.heap[w.heap.size + 1]? = some (.cells #[Value.int IntKind.i64 0, Value.int IntKind.i64 0, Value.int IntKind.i64 0, Value.int IntKind.i64 0, Value.slice none 0 0] 24 (0, 0)))
    (hMb : w2.heap[M]? = some (.cells #[Value.int IntKind.i64 n1, Value.int IntKind.i64 n2, Value.int IntKind.i64 n3, Value.int IntKind.i64 n4, v] 24 (0, 0)))
    (hown : wr.ownsRow (M + 1) 2 1 v (lefts l k).length (nums .i64 (lefts l k)))
    (hat1 : At w l c w.heap.size (11 + 4 * k + 4) w1) (hmv : Moved w.heap.size wr.drew w1)
    (hown2 : w2.ownsRow (M + 1) 2 1 (.slice (some ⟨gg, 0, none⟩) ((lefts l k).length + 1) cap) ((lefts l k).length + 1) (nums .i64 (lefts l k) ++ [.int .i64 x]))
    (hgrow : (w1.alloc o).grownBy w2 v.ownBlock) (hx : x = wrap32 (num ((l.drop (11 + 4 * k)).take 4))) :
    LoopAt w l c b M n1 n2 n3 n4 (k + 1) (w2.setCell ⟨M, 4, none⟩ (.slice (some ⟨gg, 0, none⟩) ((lefts l k).length + 1) cap)) := by
  have hw1 : wr.heap.size = w1.heap.size := hmv.size.symm
  have hs2 := hgrow.size
  simp only [World.size_alloc] at hs2
  have hvb : ∀ j, v.ownBlock = some j → M + 1 ≤ j := fun j hj => own_base hown j hj
  have hrow : ∀ j, j < w1.heap.size → j ≤ M → w2.heap[j]? = w1.heap[j]? := fun j hj hjM =>
    (hgrow.block j (by simp; omega) (fun he => by have := hvb j he.symm; omega)).trans (Below.heap_alloc _ _ _ hj)
  have hset : ∀ j, j ≠ M → (w2.setCell ⟨M, 4, none⟩ (.slice (some ⟨gg, 0, none⟩) ((lefts l k).length + 1) cap)).heap[j]? = w2.heap[j]? := fun j hj => Below.heap_setCell _ _ _ _ hj
  have hB1 : Below w.heap.size w w1 := hbw.drew.trans hmv.below
  have hB2 : Below w.heap.size w w2 := (hB1.alloc (by have := hbw.size; omega) o).grown hgrow (by simp; have := hbw.size; omega) (fun j hj => by have := hvb j hj; omega)
  refine ⟨?_, Below.setCell (p := ⟨M, 4, none⟩) hB2 (by show w.heap.size ≤ M; omega) _, ?_, ?_, ?_, Exists.intro (Value.slice (some ⟨gg, 0, none⟩) ((lefts l k).length + 1) cap) ?_⟩
  · obtain ⟨Ak, h1, h2⟩ := hat1
    refine ⟨Ak, ?_, h2⟩
    rw [World.cell?_of_block ((hset w.heap.size (by omega)).trans (hrow w.heap.size (by omega) (by omega)))]
    exact h1
  · rw [World.frozen?_of_block ((hset w.heap.size (by omega)).trans (hrow w.heap.size (by omega) (by omega))), hmv.frz]
    exact hfw
  · simp [World.setCell]; omega
  · rw [hset _ (by omega), hrow _ (by omega) (by omega), hmv.other _ (by omega)]
    exact hZ
  · refine And.intro ?_ ?_
    · have h := blk_setCell hMb 4 (.slice (some ⟨gg, 0, none⟩) ((lefts l k).length + 1) cap)
      exact h
    have e : lefts l (k + 1) = lefts l k ++ [x] := by rw [hx]; rfl
    have hg : M + 1 ≤ gg := own_base hown2 gg rfl
    rw [e]
    refine own_move (w := w2) ?_ (fun j hj => hset j (by simp [Value.ownBlock] at hj; omega))
    simpa [nums] using hown2

set_option maxHeartbeats 2000000 in
theorem get_main (l : List Int) (A : Option Addr) (c : Nat) (w : World) (hr : ReadsInt w .u8 A l.length l) (hc : l.length ≤ c) (h : ¬ (l.length : Int) < 11) (b : Nat) (hb : rd l 10 = b) (hl : l.length = 11 + 4 * b) (hb255 : b ≤ 255) (hby : Bytes l)
    (hmax : l.length ≤ 9223372036854775807) (v_ : Bool) (hv : right (said l).1 (said l).2.1 (said l).2.2.1 (said l).2.2.2.1 (said l).2.2.2.2 = v_)
    (q : Int × Int × Int × Int × List Int × Bool) (hq : q = if v_ = true then ((said l).1, (said l).2.1, (said l).2.2.1, (said l).2.2.2.1, (said l).2.2.2.2, true) else (0, 0, 0, 0, [], false)) :
    Calls Try.prog 9 #[.slice A l.length c] w (GetPost q w) := by
  obtain ⟨ad, e, hcell⟩ := hr.at_ 10 (by omega) (by omega)
  subst e
  have hcell : w.cell? ⟨ad.block, ad.off + 10, none⟩ = some (.int .u8 b) := by rw [← hb]; exact hcell
  have hcell2 : ∀ (o1 o2 : Obj), ((w.alloc o1).alloc o2).cell? ⟨ad.block, ad.off + 10, none⟩ = some (.int .u8 b) := fun o1 o2 =>
    ((((Below.refl _ _).alloc (Nat.le_refl _) o1).alloc (by simp) o2 : Below w.heap.size w _).cell (World.block_lt_of_cell? w _ hcell)).trans hcell
  clear hcell
  have hd : decide ((l.length : Int) < 11) = false := by simpa using h
  have hk : 10 < l.length := by omega
  have h5 : ((l.length : Int) != 11 + 4 * (b : Int)) = false := by simp; omega
  have HR := Aside0.mk hr
  have HY := Aside0.mk hby
  have HV := Aside0.mk hv
  have HB := Aside0.mk hb
  have HL := Aside0.mk hl
  have HQ := Aside0.mk hq
  clear hr hby hv hb hl hq
  go_enter Try.func9, Try.ntmps9
  go_wp2_with fail
  go_quiet (fail)
  clear hcell2
  go_wp2_with fail
  generalize hW : (((w.alloc (Obj.cells #[Value.slice (some ad) l.length c] 25)).alloc (Obj.cells #[Value.int IntKind.i64 0, Value.int IntKind.i64 0, Value.int IntKind.i64 0, Value.int IntKind.i64 0, Value.slice none 0 0] 24)).drewN nq) = W
  have hat : At w l c w.heap.size 0 W := by
    subst hW
    exact ⟨some ad, by simp, HR.out⟩
  have hb0 : Below w.heap.size w W := by
    subst hW
    repeat (with_reducible first | exact Below.refl _ _ | apply below_alloc | apply pw_below_drewN | apply below_drew1)
  have hf0 : W.frozen? ⟨w.heap.size, 0, none⟩ = false := by
    subst hW
    simp
  have hs0 : w.heap.size + 2 = W.heap.size := by
    subst hW
    simp
  have hz : W.heap[w.heap.size + 1]? = some (.cells #[Value.int IntKind.i64 0, Value.int IntKind.i64 0, Value.int IntKind.i64 0, Value.int IntKind.i64 0, Value.slice none 0 0] 24 (0, 0)) := by
    subst hW
    have hn := heap_alloc_new (w.alloc (Obj.cells #[Value.slice (some ad) l.length c] 25)) (Obj.cells #[Value.int IntKind.i64 0, Value.int IntKind.i64 0, Value.int IntKind.i64 0, Value.int IntKind.i64 0, Value.slice none 0 0] 24)
    simpa using hn
  clear hW hcell h5 hd
  have HS := Aside0.mk hs0
  have HZ := Aside0.mk hz
  clear hs0 hz
  refine (next_at 2 l c w.heap.size 0 w W hat hb0 hf0 hc (by omega) hmax HY.out (by omega)).mono ?_
  rintro e1 W1 ⟨rfl, hat1, hm1⟩
  generalize hn1 : num ((l.drop (0)).take 2) = n1
  have N1 := Aside0.mk hn1
  clear hn1
  have hb1 := hb0.trans hm1.below
  have hf1 := hm1.frz.trans hf0
  have S1 := Aside0.mk (HS.out.trans hm1.size.symm)
  have Z1 := Aside0.mk ((hm1.other _ (by omega)).trans HZ.out)
  clear hat hb0 hf0 HS HZ hm1
  go_wp2_with fail
  refine (next_at 6 l c w.heap.size (0 + 2) w W1 hat1 hb1 hf1 hc (by omega) hmax HY.out (by omega)).mono ?_
  rintro e1 W2 ⟨rfl, hat2, hm2⟩
  generalize hn2 : num ((l.drop (0 + 2)).take 6) = n2
  have N2 := Aside0.mk hn2
  clear hn2
  have hb2 := hb1.trans hm2.below
  have hf2 := hm2.frz.trans hf1
  have S2 := Aside0.mk (S1.out.trans hm2.size.symm)
  have Z2 := Aside0.mk ((hm2.other _ (by omega)).trans Z1.out)
  clear hat1 hb1 hf1 S1 Z1 hm2
  go_wp2_with fail
  refine (next_at 1 l c w.heap.size (0 + 2 + 6) w W2 hat2 hb2 hf2 hc (by omega) hmax HY.out (by omega)).mono ?_
  rintro e1 W3 ⟨rfl, hat3, hm3⟩
  generalize hn3 : num ((l.drop (0 + 2 + 6)).take 1) = n3
  have N3 := Aside0.mk hn3
  clear hn3
  have hb3 := hb2.trans hm3.below
  have hf3 := hm3.frz.trans hf2
  have S3 := Aside0.mk (S2.out.trans hm3.size.symm)
  have Z3 := Aside0.mk ((hm3.other _ (by omega)).trans Z2.out)
  clear hat2 hb2 hf2 S2 Z2 hm3
  go_wp2_with fail
  refine (next_at 1 l c w.heap.size (0 + 2 + 6 + 1) w W3 hat3 hb3 hf3 hc (by omega) hmax HY.out (by omega)).mono ?_
  rintro e1 W4 ⟨rfl, hat4, hm4⟩
  generalize hn4 : num ((l.drop (0 + 2 + 6 + 1)).take 1) = n4
  have N4 := Aside0.mk hn4
  clear hn4
  have hb4 := hb3.trans hm4.below
  have hf4 := hm4.frz.trans hf3
  have S4 := Aside0.mk (S3.out.trans hm4.size.symm)
  have Z4 := Aside0.mk ((hm4.other _ (by omega)).trans Z3.out)
  clear hat3 hb3 hf3 S3 Z3 hm4
  go_wp2_with fail
  have hs4 : W4.heap.size = w.heap.size + 2 := S4.out.symm
  generalize hM : W4.heap.size = M
  generalize hX : (W4.alloc (Obj.cells #[Value.int IntKind.i64 n1, Value.int IntKind.i64 n2, Value.int IntKind.i64 n3, Value.int IntKind.i64 n4, Value.slice none 0 0] 24)) = X
  have hxM : X.heap[M]? = some (.cells #[Value.int IntKind.i64 n1, Value.int IntKind.i64 n2, Value.int IntKind.i64 n3, Value.int IntKind.i64 n4, Value.slice none 0 0] 24 (0, 0)) := by
    subst hX hM
    exact heap_alloc_new _ _
  have hx4 : Below w.heap.size w X := by
    subst hX
    exact hb4.alloc (by omega) _
  have hxat : At w l c w.heap.size (0 + 2 + 6 + 1 + 1) X := by
    subst hX
    obtain ⟨Ak, h1, h2⟩ := hat4
    exact ⟨Ak, by rw [World.cell?_of_block (Below.heap_alloc _ _ _ (by show w.heap.size < _; omega))]; exact h1, h2⟩
  have hxf : X.frozen? ⟨w.heap.size, 0, none⟩ = false := by
    subst hX
    rw [World.frozen?_of_block (Below.heap_alloc _ _ _ (by show w.heap.size < _; omega))]
    exact hf4
  have hxz : X.heap[w.heap.size + 1]? = some (.cells #[Value.int IntKind.i64 0, Value.int IntKind.i64 0, Value.int IntKind.i64 0, Value.int IntKind.i64 0, Value.slice none 0 0] 24 (0, 0)) := by
    subst hX
    rw [Below.heap_alloc _ _ _ (by omega)]
    exact Z4.out
  have hxs : X.heap.size = M + 1 := by
    subst hX hM
    simp
  have hMs : M = w.heap.size + 2 := by omega
  clear hX hat4 hb4 hf4 S4 Z4 hM hs4
  have HMs := Aside0.mk hMs
  have HXM := Aside0.mk hxM
  have HXZ := Aside0.mk hxz
  have HXS := Aside0.mk hxs
  clear hMs hxM hxz hxs
  refine (next_at 1 l c w.heap.size (0 + 2 + 6 + 1 + 1) w X hxat hx4 hxf hc (by omega) hmax HY.out (by omega)).mono ?_
  rintro e1 W5 ⟨rfl, hat5, hm5⟩
  rw [num_one l (0 + 2 + 6 + 1 + 1) (by omega), show rd l ((0 + 2 + 6 + 1 + 1 : Nat) : Int) = (b : Int) from HB.out]
  have hb5 := hx4.trans hm5.below
  have hf5 := hm5.frz.trans hxf
  have S5 := Aside0.mk (HXS.out.symm.trans hm5.size.symm)
  have Z5 := Aside0.mk ((hm5.other _ (by omega)).trans HXZ.out)
  have M5 := Aside0.mk ((hm5.other M (by have := HMs.out; omega)).trans HXM.out)
  clear hxat hx4 hxf HXM HXZ HXS hm5
  go_wp2_with fail
  obtain ⟨i0, hi0, hz0, hz1, hz2⟩ := info_parts info2
  go_loopw [33] (fun i wr => ∃ k : Nat, k ≤ b ∧ i = .int .i64 k ∧ LoopAt w l c b M n1 n2 n3 n4 k wr) (fun i _ => b - (intOf i).toNat)
  case atStart => exact ⟨0, Nat.zero_le _, rfl, ⟨hat5, hb5, hf5, by have := S5.out; omega, Z5.out, .slice none 0 0, M5.out, own_nil _ _ _ _⟩⟩
  case round =>
    obtain ⟨k, hkb, rfl, ⟨hat, hbw, hfw, hsz, hZ, v, hMb, hown⟩⟩ := hrel
    have hsize := hbw.size
    have hM2 : w.heap.size + 2 ≤ M := by have := HMs.out; omega
    have hM3 : M ≤ w.heap.size + 2 := by have := HMs.out; omega
    clear hat5 hb5 hf5
    by_cases hlt : k < b
    · have hll : 11 + 4 * b ≤ l.length := by have := HL.out; omega
      have hcell : wr.cell? ⟨M, 4, none⟩ = some v := (blk_cell hMb 4).trans rfl
      have hfz := blk_frozen hMb 4
      have HMb := Aside0.mk hMb
      have HOwn := Aside0.mk hown
      have HZr := Aside0.mk hZ
      clear hMb hown hZ
      go_wp2_with fail
      go_region_law ((first
        | (refine step_append_lies _ (by rfl) _ _ _ (by rfl) (M + 1) 2 i0 _ 1 8 Try.underlying22 hi0 hz0 hz1 hz2 rfl (by omega) v (lefts l k).length (nums .i64 (lefts l k)) (by rfl) (OWN.alloc _) ⟨w1.heap.size, 0, none⟩ 1 1 _ (by rfl) (by rfl) (World.news_of_block (heap_alloc_new w1 _)) (by simp [Value.oneCell']) (by omega) (by rw [lefts_length]; unfold maxLen; omega) (by rw [lefts_length]; omega) (by simp; omega) (w1.heap.size + 1) (by simp) ?_; intro gg cap w2 hown2 hgrow hat2 hlt2; have HMb2 := Aside0.mk ((hgrow.block M (by simp; omega) (by intro he; have := own_base HOwn.out M he.symm; omega)).trans (blk_alloc ((hmv.other M (by omega)).trans HMb.out) _)); have hc2 : w2.cell? ⟨M, 4, none⟩ = some v := (blk_cell HMb2.out 4).trans rfl; have hfz2 := blk_frozen HMb2.out 4)
        | (refine step_wanted (by rfl) ?_; unfold Oper.wp; go_simp; go_at_call 19; refine (next_at 4 l c w.heap.size (11 + 4 * k) w wr.drew hat hbw.drew hfw hc (by omega) hmax HY.out (by omega)).mono ?_; rintro e1 w1 ⟨rfl, hat1, hmv⟩; have hw1 : wr.heap.size ≤ w1.heap.size := Nat.le_of_eq hmv.size.symm; have hc1 : w1.cell? ⟨M, 4, none⟩ = some v := (hmv.cell (by show M ≠ w.heap.size; omega)).trans hcell; have hc1a : ∀ o : Obj, (w1.alloc o).cell? ⟨M, 4, none⟩ = some v := fun o => (World.cell?_of_block (Below.heap_alloc _ _ _ (by show M < _; omega))).trans hc1; have OWN := own_move HOwn.out.drew (fun j hj => hmv.other j (by have := own_base HOwn.out j hj; omega)))))
      all_goals
        go_wp2_with fail
        go_roundw
        case rel => exact ⟨k + 1, by omega, by go_num, LoopAt.step HMs.out hbw hfw hsz HZr.out HMb2.out HOwn.out hat1 hmv hown2 hgrow (wrap_wrap _)⟩
        case measure => simp [intOf]; omega
    · obtain rfl : k = b := by omega
      have hR : Kd.R (Kd.int .i64) 2 wr (M + 1) (fun j => M + 1 ≤ j) v (lefts l k) := Kd.R_of_own (enc := Value.int .i64) (h1 := fun _ => rfl) hown (fun j hj => own_base hown j hj)
      obtain ⟨A', c', rfl, hcl, hC⟩ := Kd.R_reads hR
      have hv' : right n1 n2 n3 n4 (lefts l k) = v_ := by
        have h0 := HV.out
        unfold said at h0
        simp only [HB.out, Int.toNat_natCast] at h0
        rw [← N1.out, ← N2.out, ← N3.out, ← N4.out]
        exact h0
      have HV' := Aside0.mk hv'
      have c0 : wr.cell? ⟨M, 0, none⟩ = some (.int .i64 n1) := (blk_cell hMb 0).trans rfl
      have c1 : wr.cell? ⟨M, 1, none⟩ = some (.int .i64 n2) := (blk_cell hMb 1).trans rfl
      have c2 : wr.cell? ⟨M, 2, none⟩ = some (.int .i64 n3) := (blk_cell hMb 2).trans rfl
      have c3 : wr.cell? ⟨M, 3, none⟩ = some (.int .i64 n4) := (blk_cell hMb 3).trans rfl
      have c4 : wr.cell? ⟨M, 4, none⟩ = some (.slice A' (lefts l k).length c') := (blk_cell hMb 4).trans rfl
      have HMb := Aside0.mk hMb
      have HZr := Aside0.mk hZ
      have HR' := Aside0.mk hR
      have HC := Aside0.mk hC
      clear hMb hZ hown hv' hR hC
      go_wp2_with fail
      refine (right_any n1 n2 n3 n4 A' c' (lefts l k) wr HC.out).mono ?_
      rintro e1 w6 ⟨rfl, hb6⟩
      rw [HV'.out]
      have Z6 := (hb6.block _ (by omega)).trans HZr.out
      have M6 := (hb6.block _ (by omega)).trans HMb.out
      have d0 : w6.cell? ⟨M, 0, none⟩ = some (.int .i64 n1) := (blk_cell M6 0).trans rfl
      have d1 : w6.cell? ⟨M, 1, none⟩ = some (.int .i64 n2) := (blk_cell M6 1).trans rfl
      have d2 : w6.cell? ⟨M, 2, none⟩ = some (.int .i64 n3) := (blk_cell M6 2).trans rfl
      have d3 : w6.cell? ⟨M, 3, none⟩ = some (.int .i64 n4) := (blk_cell M6 3).trans rfl
      have d4 : w6.cell? ⟨M, 4, none⟩ = some (.slice A' (lefts l k).length c') := (blk_cell M6 4).trans rfl
      have f0 : w6.cell? ⟨w.heap.size + 1, 0, none⟩ = some (.int .i64 0) := (blk_cell Z6 0).trans rfl
      have f1 : w6.cell? ⟨w.heap.size + 1, 1, none⟩ = some (.int .i64 0) := (blk_cell Z6 1).trans rfl
      have f2 : w6.cell? ⟨w.heap.size + 1, 2, none⟩ = some (.int .i64 0) := (blk_cell Z6 2).trans rfl
      have f3 : w6.cell? ⟨w.heap.size + 1, 3, none⟩ = some (.int .i64 0) := (blk_cell Z6 3).trans rfl
      have f4 : w6.cell? ⟨w.heap.size + 1, 4, none⟩ = some (.slice none 0 0) := (blk_cell Z6 4).trans rfl
      have g0 := blk_frozen Z6 0
      have g1 := blk_frozen Z6 1
      have g2 := blk_frozen Z6 2
      have g3 := blk_frozen Z6 3
      have g4 := blk_frozen Z6 4
      have HZ6 := Aside0.mk Z6
      have HB6 := Aside0.mk hb6
      clear Z6 M6 hb6 c0 c1 c2 c3 c4
      cases v_ with
      | false =>
        go_wp2_with fail
        have hq := HQ.out
        rw [if_neg (by simp)] at hq
        refine bodyPost_ret (v := .tuple #[.agg #[.int .i64 0, .int .i64 0, .int .i64 0, .int .i64 0, .slice none 0 0], .bool false]) (by simp [results, Try.results9, go_sem, f0, f1, f2, f3, f4]) rfl ?_
        subst hq
        exact ⟨.slice none 0 0, rfl, Kd.R_nil _ _ _ _ _, by repeat (first | exact (hbw.trans (HB6.out.mono hsize)) | (refine below_set ?_ (Nat.le_add_right _ _)))⟩
      | true =>
        go_wp2_with fail
        have hq := HQ.out
        rw [if_pos (by trivial)] at hq
        unfold said at hq
        simp only [HB.out, Int.toNat_natCast] at hq
        rw [show num ((l.drop 0).take 2) = n1 from N1.out, show num ((l.drop 2).take 6) = n2 from N2.out, show num ((l.drop 8).take 1) = n3 from N3.out, show num ((l.drop 9).take 1) = n4 from N4.out] at hq
        refine bodyPost_ret (v := .tuple #[.agg #[.int .i64 n1, .int .i64 n2, .int .i64 n3, .int .i64 n4, .slice A' (lefts l k).length c'], .bool true]) (by simp [results, Try.results9, go_sem, f0, f1, f2, f3, f4]) rfl ?_
        subst hq
        refine ⟨.slice A' (lefts l k).length c', rfl, ?_, by repeat (first | exact (hbw.trans (HB6.out.mono hsize)) | (refine below_set ?_ (Nat.le_add_right _ _)))⟩
        refine Kd.R_lower (base := M + 1) (Kd.R_mono (ok := fun j => M + 1 ≤ j) ?_ (fun _ _ => trivial)) (by omega)
        repeat (first | exact Kd.R_below HR'.out HB6.out | (refine Kd.R_far ?_ (fun j hj => by show j ≠ w.heap.size + 1; omega) _))

set_option maxHeartbeats 1000000 in
theorem get_short (l : List Int) (A : Option Addr) (c : Nat) (w : World) (hr : ReadsInt w .u8 A l.length l) (hc : l.length ≤ c) (h : (l.length : Int) < 11) :
    Calls Try.prog 9 #[.slice A l.length c] w (GetPost (0, 0, 0, 0, [], false) w) := by
  have HR := Aside0.mk hr
  clear hr
  go_enter Try.func9, Try.ntmps9
  go_wp2_with fail
  go_quiet (fail)
  go_wp2_with fail
  refine bodyPost_ret (v := .tuple #[.agg #[.int .i64 0, .int .i64 0, .int .i64 0, .int .i64 0, .slice none 0 0], .bool false]) (by simp [results, Try.results9, go_sem]) rfl ⟨.slice none 0 0, rfl, ?_, ?_⟩
  · exact Kd.R_nil _ _ _ _ _
  · repeat (with_reducible first | exact Below.refl _ _ | apply below_alloc | apply pw_below_drewN | apply below_drew1 | refine below_set ?_ (Nat.le_add_right _ _))

set_option maxHeartbeats 1000000 in
theorem get_other (l : List Int) (A : Option Addr) (c : Nat) (w : World) (hr : ReadsInt w .u8 A l.length l) (hc : l.length ≤ c) (h : ¬ (l.length : Int) < 11) (h2 : ¬ (l.length : Int) = 11 + 4 * rd l 10) (h3 : 0 ≤ rd l 10) (h4 : rd l 10 ≤ 255) :
    Calls Try.prog 9 #[.slice A l.length c] w (GetPost (0, 0, 0, 0, [], false) w) := by
  obtain ⟨ad, e, hcell⟩ := hr.at_ 10 (by omega) (by omega)
  subst e
  have hcell : w.cell? ⟨ad.block, ad.off + 10, none⟩ = some (.int .u8 (rd l 10)) := hcell
  have hcell2 : ∀ (o1 o2 : Obj), ((w.alloc o1).alloc o2).cell? ⟨ad.block, ad.off + 10, none⟩ = some (.int .u8 (rd l 10)) := fun o1 o2 =>
    ((((Below.refl _ _).alloc (Nat.le_refl _) o1).alloc (by simp) o2 : Below w.heap.size w _).cell (World.block_lt_of_cell? w _ hcell)).trans hcell
  clear hcell
  have hd : decide ((l.length : Int) < 11) = false := by simpa using h
  have hk : 10 < l.length := by omega
  have HR := Aside0.mk hr
  clear hr
  have h5 : ((l.length : Int) != 11 + 4 * rd l 10) = true := by simpa using h2
  go_enter Try.func9, Try.ntmps9
  go_wp2_with fail
  go_quiet (fail)
  go_wp2_with fail
  refine bodyPost_ret (v := .tuple #[.agg #[.int .i64 0, .int .i64 0, .int .i64 0, .int .i64 0, .slice none 0 0], .bool false]) (by simp [results, Try.results9, go_sem]) rfl ⟨.slice none 0 0, rfl, ?_, ?_⟩
  · exact Kd.R_nil _ _ _ _ _
  · repeat (with_reducible first | exact Below.refl _ _ | apply below_alloc | apply pw_below_drewN | apply below_drew1 | refine below_set ?_ (Nat.le_add_right _ _))

/-- Are these bytes? -/
def bytesB (l : List Int) : Bool := l.all fun x => decide (0 ≤ x) && decide (x ≤ 255)
theorem bytes_of (l : List Int) (h : bytesB l = true) : Bytes l := fun i => by
  unfold rd
  simp only [Int.toNat_natCast, List.getD_eq_getElem?_getD]
  by_cases hi : i < l.length
  · rw [List.getElem?_eq_getElem hi]
    have := List.all_eq_true.1 h _ (List.getElem_mem hi)
    simpa using this
  · rw [List.getElem?_eq_none (by omega)]
    exact ⟨by decide, by decide⟩

theorem get_any (l : List Int) (A : Option Addr) (c : Nat) (w : World) (hr : Kd.C (Kd.int .u8) w A l.length l) (hc : l.length ≤ c) (hb : bytesB l = true) :
    Calls Try.prog 9 #[.slice A l.length c] w (GetPost (get l) w) := by
  have hri := ints_of_C hr
  have hby := bytes_of l hb
  have hmax : l.length ≤ 9223372036854775807 := hr.2.1
  unfold get
  by_cases h : (l.length : Int) < 11
  · rw [if_pos h]
    exact get_short l A c w hri hc h
  · rw [if_neg h]
    have hb10 : 0 ≤ rd l 10 ∧ rd l 10 ≤ 255 := hby 10
    by_cases h2 : (l.length : Int) = 11 + 4 * rd l 10
    · rw [if_pos h2]
      obtain ⟨b, hb'⟩ := Int.eq_ofNat_of_zero_le hb10.1
      exact get_main l A c w hri hc h b hb' (by have := hb10.2; omega) (by have := hb10.2; omega) hby hmax _ rfl _ rfl
    · rw [if_neg h2]
      exact get_other l A c w hri hc h h2 hb10.1 hb10.2
end Go.Proofs.Ytelpnlpbjenmkaa.Hand
