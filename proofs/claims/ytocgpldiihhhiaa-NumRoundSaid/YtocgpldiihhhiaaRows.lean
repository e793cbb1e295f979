/-
  No cell of these rows narrows 'for every input' (looked for: loops, veiled, ifaces, maps, wideKeys, modest, calm, conditions, laid).
  DERIVED. THE GIVEN ROWS OF THIS SEAT. 6 by the template 'for every input the law returns true; each argument reads behind the call as it read before'; 0 by the template 'total and deterministic' (their statements: YtocgpldiihhhiaaTotals.lean).
  GIVEN WITH THE SEED: the statements are not yours to turn. If you find one false, say at which input.
  Laid BY PROGRAM, IN A SANDBOX (cutbox-rows.mjs): the forced cells as the released guide's own fill.sh prints them over the translation f32b06c8080560e7… (all of the seat's roots in one cut). By AI agents, Wed Nov 11 2026. No macro, syntax, notation, axiom, sorry.
-/
import Derived.Test.YtocgpldiihhhiaaChecked
import GoSem.Claim
import GoSem.ClaimJoined
import GoSem.ClaimMapViews
import Derived.JoinedTies
import Derived.KernelRfl
namespace Go.Proofs.Ytocgpldiihhhiaa
/- THE CELL 'sum', in the pinned program and in every row, IS THE sha256 OF THE DUMP (.gsa) THAT YtocgpldiihhhiaaProg.lean LOADS. Nothing in Lean hashes anything: it is a label: what it is worth is what the hold of that sum in a sandbox is worth. -/
noncomputable def Try.pinned : Pinned := { name := "ytocgpldiihhhiaa", sum := "f32b06c8080560e71ada6fa55a2d8abf1e263f4fda659907630613dbed116601", checked := Try.checked }
namespace Rows
def none {H : Type} : Left H := { results := [], args := [] }

/-- 'bowlinelaw01.NumTells': WHATEVER THE INPUT: true; the input reads as it did. -/
def numTellsSpec : ChangeSpec := { name := "numTells", fn := fun _ => fun
  | [d1, d2, d3, d4] => { results := [.lit (.bool true)], args := [d1, d2, d3, d4] }
  | _ => none }
def numTellsRow : OpenClaim := { program := "ytocgpldiihhhiaa", sum := "f32b06c8080560e71ada6fa55a2d8abf1e263f4fda659907630613dbed116601", func := "bowline/bowlinelaw01.NumTells", spec := "numTells", unfollowed := true, recurses := true, apart := false }
def NumTellsSaid : Prop := numTellsRow.holds Try.pinned (OpenSpec.ofChange numTellsSpec)

/-- ITS FALSE NEIGHBOUR: 'it returns false'. Refute it at one input. -/
def numTellsWrong : ChangeSpec := { name := "numTells", fn := fun _ => fun
  | [d1, d2, d3, d4] => { results := [.lit (.bool false)], args := [d1, d2, d3, d4] }
  | _ => none }
def NumTellsWrongFalsely : Prop := numTellsRow.holds Try.pinned (OpenSpec.ofChange numTellsWrong)

/-- 'bowlinelaw01.NumRound': WHATEVER THE INPUT: true; the input reads as it did. -/
def numRoundSpec : ChangeSpec := { name := "numRound", fn := fun _ => fun
  | [d1, d2, d3, d4] => { results := [.lit (.bool true)], args := [d1, d2, d3, d4] }
  | _ => none }
def numRoundRow : OpenClaim := { program := "ytocgpldiihhhiaa", sum := "f32b06c8080560e71ada6fa55a2d8abf1e263f4fda659907630613dbed116601", func := "bowline/bowlinelaw01.NumRound", spec := "numRound", unfollowed := true, recurses := true, apart := false }
def NumRoundSaid : Prop := numRoundRow.holds Try.pinned (OpenSpec.ofChange numRoundSpec)

/-- ITS FALSE NEIGHBOUR: 'it returns false'. Refute it at one input. -/
def numRoundWrong : ChangeSpec := { name := "numRound", fn := fun _ => fun
  | [d1, d2, d3, d4] => { results := [.lit (.bool false)], args := [d1, d2, d3, d4] }
  | _ => none }
def NumRoundWrongFalsely : Prop := numRoundRow.holds Try.pinned (OpenSpec.ofChange numRoundWrong)

/-- 'bowlinelaw01.NumOrder': WHATEVER THE INPUT: true; the input reads as it did. -/
def numOrderSpec : ChangeSpec := { name := "numOrder", fn := fun _ => fun
  | [d1, d2, d3, d4] => { results := [.lit (.bool true)], args := [d1, d2, d3, d4] }
  | _ => none }
def numOrderRow : OpenClaim := { program := "ytocgpldiihhhiaa", sum := "f32b06c8080560e71ada6fa55a2d8abf1e263f4fda659907630613dbed116601", func := "bowline/bowlinelaw01.NumOrder", spec := "numOrder", unfollowed := true, recurses := true, apart := false }
def NumOrderSaid : Prop := numOrderRow.holds Try.pinned (OpenSpec.ofChange numOrderSpec)

/-- ITS FALSE NEIGHBOUR: 'it returns false'. Refute it at one input. -/
def numOrderWrong : ChangeSpec := { name := "numOrder", fn := fun _ => fun
  | [d1, d2, d3, d4] => { results := [.lit (.bool false)], args := [d1, d2, d3, d4] }
  | _ => none }
def NumOrderWrongFalsely : Prop := numOrderRow.holds Try.pinned (OpenSpec.ofChange numOrderWrong)

/-- 'bowlinelaw01.NumNext': WHATEVER THE INPUT: true; the input reads as it did. -/
def numNextSpec : ChangeSpec := { name := "numNext", fn := fun _ => fun
  | [d1, d2] => { results := [.lit (.bool true)], args := [d1, d2] }
  | _ => none }
def numNextRow : OpenClaim := { program := "ytocgpldiihhhiaa", sum := "f32b06c8080560e71ada6fa55a2d8abf1e263f4fda659907630613dbed116601", func := "bowline/bowlinelaw01.NumNext", spec := "numNext", unfollowed := true, recurses := true, apart := false }
def NumNextSaid : Prop := numNextRow.holds Try.pinned (OpenSpec.ofChange numNextSpec)

/-- ITS FALSE NEIGHBOUR: 'it returns false'. Refute it at one input. -/
def numNextWrong : ChangeSpec := { name := "numNext", fn := fun _ => fun
  | [d1, d2] => { results := [.lit (.bool false)], args := [d1, d2] }
  | _ => none }
def NumNextWrongFalsely : Prop := numNextRow.holds Try.pinned (OpenSpec.ofChange numNextWrong)

/-- 'bowlinelaw01.NumRow': WHATEVER THE INPUT: true; the input reads as it did. -/
def numRowSpec : ChangeSpec := { name := "numRow", fn := fun _ => fun
  | [d1, d2, d3] => { results := [.lit (.bool true)], args := [d1, d2, d3] }
  | _ => none }
def numRowRow : OpenClaim := { program := "ytocgpldiihhhiaa", sum := "f32b06c8080560e71ada6fa55a2d8abf1e263f4fda659907630613dbed116601", func := "bowline/bowlinelaw01.NumRow", spec := "numRow", unfollowed := true, recurses := true, apart := false }
def NumRowSaid : Prop := numRowRow.holds Try.pinned (OpenSpec.ofChange numRowSpec)

/-- ITS FALSE NEIGHBOUR: 'it returns false'. Refute it at one input. -/
def numRowWrong : ChangeSpec := { name := "numRow", fn := fun _ => fun
  | [d1, d2, d3] => { results := [.lit (.bool false)], args := [d1, d2, d3] }
  | _ => none }
def NumRowWrongFalsely : Prop := numRowRow.holds Try.pinned (OpenSpec.ofChange numRowWrong)

/-- 'bowlinelaw01.NumBack': WHATEVER THE INPUT: true; the input reads as it did. -/
def numBackSpec : ChangeSpec := { name := "numBack", fn := fun _ => fun
  | [d1, d2, d3, d4] => { results := [.lit (.bool true)], args := [d1, d2, d3, d4] }
  | _ => none }
def numBackRow : OpenClaim := { program := "ytocgpldiihhhiaa", sum := "f32b06c8080560e71ada6fa55a2d8abf1e263f4fda659907630613dbed116601", func := "bowline/bowlinelaw01.NumBack", spec := "numBack", unfollowed := true, recurses := true, apart := false }
def NumBackSaid : Prop := numBackRow.holds Try.pinned (OpenSpec.ofChange numBackSpec)

/-- ITS FALSE NEIGHBOUR: 'it returns false'. Refute it at one input. -/
def numBackWrong : ChangeSpec := { name := "numBack", fn := fun _ => fun
  | [d1, d2, d3, d4] => { results := [.lit (.bool false)], args := [d1, d2, d3, d4] }
  | _ => none }
def NumBackWrongFalsely : Prop := numBackRow.holds Try.pinned (OpenSpec.ofChange numBackWrong)

/- THE SECOND FORM. 'bulk': how many values and letters a reading holds, each counted each time it is reached (what is shared counts as often as it is met; a slice's spare places count too). A statement '..UptoSaid' is the law's where the arguments, and the package variables that the reading takes, are together of bulk at most 1048576: NARROWER than '..Said'. Prove '..Said' where nothing that the law and all that it calls make is longer than what came in: it says more and counts as full. Else prove '..UptoSaid'. A law counts once. -/
mutual
def uptoBulk {H : Type} : DataW H → Nat
  | .lit (.string bytes) => bytes.length + 1
  | .lit _ => 1
  | .nil => 1
  | .ptr d => uptoBulk d + 1
  | .slice elems spare => uptoBulkAll elems + uptoBulkAll spare + 1
  | .agg parts => uptoBulkAll parts + 1
  | .iface _ d => uptoBulk d + 1
  | .map entries => uptoBulkEntries entries + 1
  | .held _ => 1
def uptoBulkAll {H : Type} : List (DataW H) → Nat
  | [] => 0
  | d :: r => uptoBulk d + uptoBulkAll r
def uptoBulkEntries {H : Type} : List (Lit × DataW H) → Nat
  | [] => 0
  | x :: r => uptoBulkEntry x + uptoBulkEntries r
def uptoBulkEntry {H : Type} : Lit × DataW H → Nat
  | (.string bytes, d) => bytes.length + uptoBulk d + 1
  | (_, d) => uptoBulk d + 1
 end
def uptoSmall : (H : Type) → List (DataW H) → Bool := fun _ ds => decide (uptoBulkAll ds ≤ 1048576)
def OpenSpec.upto (s : _root_.Go.ChangeSpec) : _root_.Go.OpenSpec := { _root_.Go.OpenSpec.ofChange s with cond := some uptoSmall }

/-- 'bowlinelaw01.NumTells', WHERE WHAT IT READS IS OF BULK AT MOST 1048576: true; the input reads as it did. -/
def numTellsUptoRow : OpenClaim := { program := "ytocgpldiihhhiaa", sum := "f32b06c8080560e71ada6fa55a2d8abf1e263f4fda659907630613dbed116601", func := "bowline/bowlinelaw01.NumTells", spec := "numTells", unfollowed := true, recurses := true, apart := false, narrowed := true }
def NumTellsUptoSaid : Prop := numTellsUptoRow.holds Try.pinned (OpenSpec.upto numTellsSpec)

/-- 'bowlinelaw01.NumRound', WHERE WHAT IT READS IS OF BULK AT MOST 1048576: true; the input reads as it did. -/
def numRoundUptoRow : OpenClaim := { program := "ytocgpldiihhhiaa", sum := "f32b06c8080560e71ada6fa55a2d8abf1e263f4fda659907630613dbed116601", func := "bowline/bowlinelaw01.NumRound", spec := "numRound", unfollowed := true, recurses := true, apart := false, narrowed := true }
def NumRoundUptoSaid : Prop := numRoundUptoRow.holds Try.pinned (OpenSpec.upto numRoundSpec)

/-- 'bowlinelaw01.NumOrder', WHERE WHAT IT READS IS OF BULK AT MOST 1048576: true; the input reads as it did. -/
def numOrderUptoRow : OpenClaim := { program := "ytocgpldiihhhiaa", sum := "f32b06c8080560e71ada6fa55a2d8abf1e263f4fda659907630613dbed116601", func := "bowline/bowlinelaw01.NumOrder", spec := "numOrder", unfollowed := true, recurses := true, apart := false, narrowed := true }
def NumOrderUptoSaid : Prop := numOrderUptoRow.holds Try.pinned (OpenSpec.upto numOrderSpec)

/-- 'bowlinelaw01.NumNext', WHERE WHAT IT READS IS OF BULK AT MOST 1048576: true; the input reads as it did. -/
def numNextUptoRow : OpenClaim := { program := "ytocgpldiihhhiaa", sum := "f32b06c8080560e71ada6fa55a2d8abf1e263f4fda659907630613dbed116601", func := "bowline/bowlinelaw01.NumNext", spec := "numNext", unfollowed := true, recurses := true, apart := false, narrowed := true }
def NumNextUptoSaid : Prop := numNextUptoRow.holds Try.pinned (OpenSpec.upto numNextSpec)

/-- 'bowlinelaw01.NumRow', WHERE WHAT IT READS IS OF BULK AT MOST 1048576: true; the input reads as it did. -/
def numRowUptoRow : OpenClaim := { program := "ytocgpldiihhhiaa", sum := "f32b06c8080560e71ada6fa55a2d8abf1e263f4fda659907630613dbed116601", func := "bowline/bowlinelaw01.NumRow", spec := "numRow", unfollowed := true, recurses := true, apart := false, narrowed := true }
def NumRowUptoSaid : Prop := numRowUptoRow.holds Try.pinned (OpenSpec.upto numRowSpec)

/-- 'bowlinelaw01.NumBack', WHERE WHAT IT READS IS OF BULK AT MOST 1048576: true; the input reads as it did. -/
def numBackUptoRow : OpenClaim := { program := "ytocgpldiihhhiaa", sum := "f32b06c8080560e71ada6fa55a2d8abf1e263f4fda659907630613dbed116601", func := "bowline/bowlinelaw01.NumBack", spec := "numBack", unfollowed := true, recurses := true, apart := false, narrowed := true }
def NumBackUptoSaid : Prop := numBackUptoRow.holds Try.pinned (OpenSpec.upto numBackSpec)

end Rows
end Go.Proofs.Ytocgpldiihhhiaa
