/-
  No cell of these rows narrows 'for every input' (looked for: loops, veiled, ifaces, maps, wideKeys, modest, calm, conditions, laid).
  DERIVED. THE GIVEN ROWS OF THIS SEAT. 6 by the template 'for every input the law returns true; each argument reads behind the call as it read before'; 0 by the template 'total and deterministic' (their statements: YtbaebohhbnomoaaTotals.lean).
  GIVEN WITH THE SEED: the statements are not yours to turn. If you find one false, say at which input.
  Laid BY PROGRAM, IN A SANDBOX (cutbox-rows.mjs): the forced cells as the released guide's own fill.sh prints them over the translation 495f34da002b99cd… (all of the seat's roots in one cut). By AI agents, Wed Nov 11 2026. No macro, syntax, notation, axiom, sorry.
-/
import Derived.Test.YtbaebohhbnomoaaChecked
import GoSem.Claim
import GoSem.ClaimJoined
import GoSem.ClaimMapViews
import Derived.JoinedTies
import Derived.KernelRfl
namespace Go.Proofs.Ytbaebohhbnomoaa
/- THE CELL 'sum', in the pinned program and in every row, IS THE sha256 OF THE DUMP (.gsa) THAT YtbaebohhbnomoaaProg.lean LOADS. Nothing in Lean hashes anything: it is a label: what it is worth is what the hold of that sum in a sandbox is worth. -/
noncomputable def Try.pinned : Pinned := { name := "ytbaebohhbnomoaa", sum := "495f34da002b99cdcfa76c96d2c261b644c918ff174fed68f50d8d9f0df8a390", checked := Try.checked }
namespace Rows
def none {H : Type} : Left H := { results := [], args := [] }

/-- 'bowlinelaw12.GuardPlays': WHATEVER THE INPUT: true; the input reads as it did. -/
def guardPlaysSpec : ChangeSpec := { name := "guardPlays", fn := fun _ => fun
  | [d1, d2, d3, d4, d5] => { results := [.lit (.bool true)], args := [d1, d2, d3, d4, d5] }
  | _ => none }
def guardPlaysRow : OpenClaim := { program := "ytbaebohhbnomoaa", sum := "495f34da002b99cdcfa76c96d2c261b644c918ff174fed68f50d8d9f0df8a390", func := "bowline/bowlinelaw12.GuardPlays", spec := "guardPlays", unfollowed := true, recurses := true, apart := false }
def GuardPlaysSaid : Prop := guardPlaysRow.holds Try.pinned (OpenSpec.ofChange guardPlaysSpec)

/-- ITS FALSE NEIGHBOUR: 'it returns false'. Refute it at one input. -/
def guardPlaysWrong : ChangeSpec := { name := "guardPlays", fn := fun _ => fun
  | [d1, d2, d3, d4, d5] => { results := [.lit (.bool false)], args := [d1, d2, d3, d4, d5] }
  | _ => none }
def GuardPlaysWrongFalsely : Prop := guardPlaysRow.holds Try.pinned (OpenSpec.ofChange guardPlaysWrong)

/-- 'bowlinelaw12.GuardMany': WHATEVER THE INPUT: true; the input reads as it did. -/
def guardManySpec : ChangeSpec := { name := "guardMany", fn := fun _ => fun
  | [d1, d2, d3, d4] => { results := [.lit (.bool true)], args := [d1, d2, d3, d4] }
  | _ => none }
def guardManyRow : OpenClaim := { program := "ytbaebohhbnomoaa", sum := "495f34da002b99cdcfa76c96d2c261b644c918ff174fed68f50d8d9f0df8a390", func := "bowline/bowlinelaw12.GuardMany", spec := "guardMany", unfollowed := true, recurses := true, apart := false }
def GuardManySaid : Prop := guardManyRow.holds Try.pinned (OpenSpec.ofChange guardManySpec)

/-- ITS FALSE NEIGHBOUR: 'it returns false'. Refute it at one input. -/
def guardManyWrong : ChangeSpec := { name := "guardMany", fn := fun _ => fun
  | [d1, d2, d3, d4] => { results := [.lit (.bool false)], args := [d1, d2, d3, d4] }
  | _ => none }
def GuardManyWrongFalsely : Prop := guardManyRow.holds Try.pinned (OpenSpec.ofChange guardManyWrong)

/-- 'bowlinelaw12.GuardOnes': WHATEVER THE INPUT: true; the input reads as it did. -/
def guardOnesSpec : ChangeSpec := { name := "guardOnes", fn := fun _ => fun
  | [d1, d2, d3, d4] => { results := [.lit (.bool true)], args := [d1, d2, d3, d4] }
  | _ => none }
def guardOnesRow : OpenClaim := { program := "ytbaebohhbnomoaa", sum := "495f34da002b99cdcfa76c96d2c261b644c918ff174fed68f50d8d9f0df8a390", func := "bowline/bowlinelaw12.GuardOnes", spec := "guardOnes", unfollowed := true, recurses := true, apart := false }
def GuardOnesSaid : Prop := guardOnesRow.holds Try.pinned (OpenSpec.ofChange guardOnesSpec)

/-- ITS FALSE NEIGHBOUR: 'it returns false'. Refute it at one input. -/
def guardOnesWrong : ChangeSpec := { name := "guardOnes", fn := fun _ => fun
  | [d1, d2, d3, d4] => { results := [.lit (.bool false)], args := [d1, d2, d3, d4] }
  | _ => none }
def GuardOnesWrongFalsely : Prop := guardOnesRow.holds Try.pinned (OpenSpec.ofChange guardOnesWrong)

/-- 'bowlinelaw12.GuardAgain': WHATEVER THE INPUT: true; the input reads as it did. -/
def guardAgainSpec : ChangeSpec := { name := "guardAgain", fn := fun _ => fun
  | [d1, d2, d3] => { results := [.lit (.bool true)], args := [d1, d2, d3] }
  | _ => none }
def guardAgainRow : OpenClaim := { program := "ytbaebohhbnomoaa", sum := "495f34da002b99cdcfa76c96d2c261b644c918ff174fed68f50d8d9f0df8a390", func := "bowline/bowlinelaw12.GuardAgain", spec := "guardAgain", unfollowed := true, recurses := true, apart := false }
def GuardAgainSaid : Prop := guardAgainRow.holds Try.pinned (OpenSpec.ofChange guardAgainSpec)

/-- ITS FALSE NEIGHBOUR: 'it returns false'. Refute it at one input. -/
def guardAgainWrong : ChangeSpec := { name := "guardAgain", fn := fun _ => fun
  | [d1, d2, d3] => { results := [.lit (.bool false)], args := [d1, d2, d3] }
  | _ => none }
def GuardAgainWrongFalsely : Prop := guardAgainRow.holds Try.pinned (OpenSpec.ofChange guardAgainWrong)

/-- 'bowlinelaw12.GuardApart': WHATEVER THE INPUT: true; the input reads as it did. -/
def guardApartSpec : ChangeSpec := { name := "guardApart", fn := fun _ => fun
  | [d1, d2, d3] => { results := [.lit (.bool true)], args := [d1, d2, d3] }
  | _ => none }
def guardApartRow : OpenClaim := { program := "ytbaebohhbnomoaa", sum := "495f34da002b99cdcfa76c96d2c261b644c918ff174fed68f50d8d9f0df8a390", func := "bowline/bowlinelaw12.GuardApart", spec := "guardApart", unfollowed := true, recurses := true, apart := false }
def GuardApartSaid : Prop := guardApartRow.holds Try.pinned (OpenSpec.ofChange guardApartSpec)

/-- ITS FALSE NEIGHBOUR: 'it returns false'. Refute it at one input. -/
def guardApartWrong : ChangeSpec := { name := "guardApart", fn := fun _ => fun
  | [d1, d2, d3] => { results := [.lit (.bool false)], args := [d1, d2, d3] }
  | _ => none }
def GuardApartWrongFalsely : Prop := guardApartRow.holds Try.pinned (OpenSpec.ofChange guardApartWrong)

/-- 'bowlinelaw12.GuardRound': WHATEVER THE INPUT: true; the input reads as it did. -/
def guardRoundSpec : ChangeSpec := { name := "guardRound", fn := fun _ => fun
  | [d] => { results := [.lit (.bool true)], args := [d] }
  | _ => none }
def guardRoundRow : OpenClaim := { program := "ytbaebohhbnomoaa", sum := "495f34da002b99cdcfa76c96d2c261b644c918ff174fed68f50d8d9f0df8a390", func := "bowline/bowlinelaw12.GuardRound", spec := "guardRound", unfollowed := true, recurses := true, apart := false }
def GuardRoundSaid : Prop := guardRoundRow.holds Try.pinned (OpenSpec.ofChange guardRoundSpec)

/-- ITS FALSE NEIGHBOUR: 'it returns false'. Refute it at one input. -/
def guardRoundWrong : ChangeSpec := { name := "guardRound", fn := fun _ => fun
  | [d] => { results := [.lit (.bool false)], args := [d] }
  | _ => none }
def GuardRoundWrongFalsely : Prop := guardRoundRow.holds Try.pinned (OpenSpec.ofChange guardRoundWrong)

/- THE SECOND FORM. 'bulk': how many values and letters a reading holds, each counted each time it is reached (what is shared counts as often as it is met; a slice's spare places count too). A statement '..UptoSaid' is the law's where the arguments, and the package variables that the reading takes, are together of bulk at most 1048576: NARROWER than '..Said'. Prove '..Said' where nothing that the law and all that it calls make is longer than what came in: it says more and counts as full. Else prove '..UptoSaid'. A law counts once. -/
mutual
def uptoBulk {H : Type} : DataW H → Nat
  | .lit (.string bytes) => bytes.length + 1
  | .lit _ => 1
  | .nil => 1
  | .ptr d => uptoBulk d + 1
  | .slice elems spare => uptoBulkAll elems + uptoBulkAll spare + 1
  | .agg parts => uptoBulkAll parts + 1
  | .iface _ d => uptoBulk d + 1
  | .map entries => uptoBulkEntries entries + 1
  | .held _ => 1
def uptoBulkAll {H : Type} : List (DataW H) → Nat
  | [] => 0
  | d :: r => uptoBulk d + uptoBulkAll r
def uptoBulkEntries {H : Type} : List (Lit × DataW H) → Nat
  | [] => 0
  | x :: r => uptoBulkEntry x + uptoBulkEntries r
def uptoBulkEntry {H : Type} : Lit × DataW H → Nat
  | (.string bytes, d) => bytes.length + uptoBulk d + 1
  | (_, d) => uptoBulk d + 1
 end
def uptoSmall : (H : Type) → List (DataW H) → Bool := fun _ ds => decide (uptoBulkAll ds ≤ 1048576)
def OpenSpec.upto (s : _root_.Go.ChangeSpec) : _root_.Go.OpenSpec := { _root_.Go.OpenSpec.ofChange s with cond := some uptoSmall }

/-- 'bowlinelaw12.GuardPlays', WHERE WHAT IT READS IS OF BULK AT MOST 1048576: true; the input reads as it did. -/
def guardPlaysUptoRow : OpenClaim := { program := "ytbaebohhbnomoaa", sum := "495f34da002b99cdcfa76c96d2c261b644c918ff174fed68f50d8d9f0df8a390", func := "bowline/bowlinelaw12.GuardPlays", spec := "guardPlays", unfollowed := true, recurses := true, apart := false, narrowed := true }
def GuardPlaysUptoSaid : Prop := guardPlaysUptoRow.holds Try.pinned (OpenSpec.upto guardPlaysSpec)

/-- 'bowlinelaw12.GuardMany', WHERE WHAT IT READS IS OF BULK AT MOST 1048576: true; the input reads as it did. -/
def guardManyUptoRow : OpenClaim := { program := "ytbaebohhbnomoaa", sum := "495f34da002b99cdcfa76c96d2c261b644c918ff174fed68f50d8d9f0df8a390", func := "bowline/bowlinelaw12.GuardMany", spec := "guardMany", unfollowed := true, recurses := true, apart := false, narrowed := true }
def GuardManyUptoSaid : Prop := guardManyUptoRow.holds Try.pinned (OpenSpec.upto guardManySpec)

/-- 'bowlinelaw12.GuardOnes', WHERE WHAT IT READS IS OF BULK AT MOST 1048576: true; the input reads as it did. -/
def guardOnesUptoRow : OpenClaim := { program := "ytbaebohhbnomoaa", sum := "495f34da002b99cdcfa76c96d2c261b644c918ff174fed68f50d8d9f0df8a390", func := "bowline/bowlinelaw12.GuardOnes", spec := "guardOnes", unfollowed := true, recurses := true, apart := false, narrowed := true }
def GuardOnesUptoSaid : Prop := guardOnesUptoRow.holds Try.pinned (OpenSpec.upto guardOnesSpec)

/-- 'bowlinelaw12.GuardAgain', WHERE WHAT IT READS IS OF BULK AT MOST 1048576: true; the input reads as it did. -/
def guardAgainUptoRow : OpenClaim := { program := "ytbaebohhbnomoaa", sum := "495f34da002b99cdcfa76c96d2c261b644c918ff174fed68f50d8d9f0df8a390", func := "bowline/bowlinelaw12.GuardAgain", spec := "guardAgain", unfollowed := true, recurses := true, apart := false, narrowed := true }
def GuardAgainUptoSaid : Prop := guardAgainUptoRow.holds Try.pinned (OpenSpec.upto guardAgainSpec)

/-- 'bowlinelaw12.GuardApart', WHERE WHAT IT READS IS OF BULK AT MOST 1048576: true; the input reads as it did. -/
def guardApartUptoRow : OpenClaim := { program := "ytbaebohhbnomoaa", sum := "495f34da002b99cdcfa76c96d2c261b644c918ff174fed68f50d8d9f0df8a390", func := "bowline/bowlinelaw12.GuardApart", spec := "guardApart", unfollowed := true, recurses := true, apart := false, narrowed := true }
def GuardApartUptoSaid : Prop := guardApartUptoRow.holds Try.pinned (OpenSpec.upto guardApartSpec)

/-- 'bowlinelaw12.GuardRound', WHERE WHAT IT READS IS OF BULK AT MOST 1048576: true; the input reads as it did. -/
def guardRoundUptoRow : OpenClaim := { program := "ytbaebohhbnomoaa", sum := "495f34da002b99cdcfa76c96d2c261b644c918ff174fed68f50d8d9f0df8a390", func := "bowline/bowlinelaw12.GuardRound", spec := "guardRound", unfollowed := true, recurses := true, apart := false, narrowed := true }
def GuardRoundUptoSaid : Prop := guardRoundUptoRow.holds Try.pinned (OpenSpec.upto guardRoundSpec)

end Rows
end Go.Proofs.Ytbaebohhbnomoaa
