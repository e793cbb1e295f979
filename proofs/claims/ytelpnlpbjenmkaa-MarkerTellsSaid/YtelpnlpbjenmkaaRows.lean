/-
  No cell of these rows narrows 'for every input' (looked for: loops, veiled, ifaces, maps, wideKeys, modest, calm, conditions, laid).
  DERIVED. THE GIVEN ROWS OF THIS SEAT. 5 by the template 'for every input the law returns true; each argument reads behind the call as it read before'; 0 by the template 'total and deterministic' (their statements: YtelpnlpbjenmkaaTotals.lean).
  GIVEN WITH THE SEED: the statements are not yours to turn. If you find one false, say at which input.
  Laid BY PROGRAM, IN A SANDBOX (cutbox-rows.mjs): the forced cells as the released guide's own fill.sh prints them over the translation cbc3b5ce38f23260… (all of the seat's roots in one cut). By AI agents, Wed Nov 11 2026. No macro, syntax, notation, axiom, sorry.
-/
import Derived.Test.YtelpnlpbjenmkaaChecked
import GoSem.Claim
import GoSem.ClaimJoined
import GoSem.ClaimMapViews
import Derived.JoinedTies
import Derived.KernelRfl
namespace Go.Proofs.Ytelpnlpbjenmkaa
/- THE CELL 'sum', in the pinned program and in every row, IS THE sha256 OF THE DUMP (.gsa) THAT YtelpnlpbjenmkaaProg.lean LOADS. Nothing in Lean hashes anything: it is a label: what it is worth is what the hold of that sum in a sandbox is worth. -/
noncomputable def Try.pinned : Pinned := { name := "ytelpnlpbjenmkaa", sum := "cbc3b5ce38f232604d23d8c438cc11aa8963fcac897b19ae8671758c111194ff", checked := Try.checked }
namespace Rows
def none {H : Type} : Left H := { results := [], args := [] }

/-- 'bowlinelaw17.MarkerTells': WHATEVER THE INPUT: true; the input reads as it did. -/
def markerTellsSpec : ChangeSpec := { name := "markerTells", fn := fun _ => fun
  | [d1, d2, d3, d4] => { results := [.lit (.bool true)], args := [d1, d2, d3, d4] }
  | _ => none }
def markerTellsRow : OpenClaim := { program := "ytelpnlpbjenmkaa", sum := "cbc3b5ce38f232604d23d8c438cc11aa8963fcac897b19ae8671758c111194ff", func := "bowline/bowlinelaw17.MarkerTells", spec := "markerTells", unfollowed := true, recurses := true, apart := false }
def MarkerTellsSaid : Prop := markerTellsRow.holds Try.pinned (OpenSpec.ofChange markerTellsSpec)

/-- ITS FALSE NEIGHBOUR: 'it returns false'. Refute it at one input. -/
def markerTellsWrong : ChangeSpec := { name := "markerTells", fn := fun _ => fun
  | [d1, d2, d3, d4] => { results := [.lit (.bool false)], args := [d1, d2, d3, d4] }
  | _ => none }
def MarkerTellsWrongFalsely : Prop := markerTellsRow.holds Try.pinned (OpenSpec.ofChange markerTellsWrong)

/-- 'bowlinelaw17.MarkerBack': WHATEVER THE INPUT: true; the input reads as it did. -/
def markerBackSpec : ChangeSpec := { name := "markerBack", fn := fun _ => fun
  | [d1, d2] => { results := [.lit (.bool true)], args := [d1, d2] }
  | _ => none }
def markerBackRow : OpenClaim := { program := "ytelpnlpbjenmkaa", sum := "cbc3b5ce38f232604d23d8c438cc11aa8963fcac897b19ae8671758c111194ff", func := "bowline/bowlinelaw17.MarkerBack", spec := "markerBack", unfollowed := true, recurses := true, apart := false }
def MarkerBackSaid : Prop := markerBackRow.holds Try.pinned (OpenSpec.ofChange markerBackSpec)

/-- ITS FALSE NEIGHBOUR: 'it returns false'. Refute it at one input. -/
def markerBackWrong : ChangeSpec := { name := "markerBack", fn := fun _ => fun
  | [d1, d2] => { results := [.lit (.bool false)], args := [d1, d2] }
  | _ => none }
def MarkerBackWrongFalsely : Prop := markerBackRow.holds Try.pinned (OpenSpec.ofChange markerBackWrong)

/-- 'bowlinelaw17.MarkerBatch': WHATEVER THE INPUT: true; the input reads as it did. -/
def markerBatchSpec : ChangeSpec := { name := "markerBatch", fn := fun _ => fun
  | [d1, d2] => { results := [.lit (.bool true)], args := [d1, d2] }
  | _ => none }
def markerBatchRow : OpenClaim := { program := "ytelpnlpbjenmkaa", sum := "cbc3b5ce38f232604d23d8c438cc11aa8963fcac897b19ae8671758c111194ff", func := "bowline/bowlinelaw17.MarkerBatch", spec := "markerBatch", unfollowed := true, recurses := true, apart := false }
def MarkerBatchSaid : Prop := markerBatchRow.holds Try.pinned (OpenSpec.ofChange markerBatchSpec)

/-- ITS FALSE NEIGHBOUR: 'it returns false'. Refute it at one input. -/
def markerBatchWrong : ChangeSpec := { name := "markerBatch", fn := fun _ => fun
  | [d1, d2] => { results := [.lit (.bool false)], args := [d1, d2] }
  | _ => none }
def MarkerBatchWrongFalsely : Prop := markerBatchRow.holds Try.pinned (OpenSpec.ofChange markerBatchWrong)

/-- 'bowlinelaw17.MarkerCut': WHATEVER THE INPUT: true; the input reads as it did. -/
def markerCutSpec : ChangeSpec := { name := "markerCut", fn := fun _ => fun
  | [d1, d2, d3] => { results := [.lit (.bool true)], args := [d1, d2, d3] }
  | _ => none }
def markerCutRow : OpenClaim := { program := "ytelpnlpbjenmkaa", sum := "cbc3b5ce38f232604d23d8c438cc11aa8963fcac897b19ae8671758c111194ff", func := "bowline/bowlinelaw17.MarkerCut", spec := "markerCut", unfollowed := true, recurses := true, apart := false }
def MarkerCutSaid : Prop := markerCutRow.holds Try.pinned (OpenSpec.ofChange markerCutSpec)

/-- ITS FALSE NEIGHBOUR: 'it returns false'. Refute it at one input. -/
def markerCutWrong : ChangeSpec := { name := "markerCut", fn := fun _ => fun
  | [d1, d2, d3] => { results := [.lit (.bool false)], args := [d1, d2, d3] }
  | _ => none }
def MarkerCutWrongFalsely : Prop := markerCutRow.holds Try.pinned (OpenSpec.ofChange markerCutWrong)

/-- 'bowlinelaw17.MarkerSigns': WHATEVER THE INPUT: true; the input reads as it did. -/
def markerSignsSpec : ChangeSpec := { name := "markerSigns", fn := fun _ => fun
  | [d] => { results := [.lit (.bool true)], args := [d] }
  | _ => none }
def markerSignsRow : OpenClaim := { program := "ytelpnlpbjenmkaa", sum := "cbc3b5ce38f232604d23d8c438cc11aa8963fcac897b19ae8671758c111194ff", func := "bowline/bowlinelaw17.MarkerSigns", spec := "markerSigns", unfollowed := true, recurses := true, apart := false }
def MarkerSignsSaid : Prop := markerSignsRow.holds Try.pinned (OpenSpec.ofChange markerSignsSpec)

/-- ITS FALSE NEIGHBOUR: 'it returns false'. Refute it at one input. -/
def markerSignsWrong : ChangeSpec := { name := "markerSigns", fn := fun _ => fun
  | [d] => { results := [.lit (.bool false)], args := [d] }
  | _ => none }
def MarkerSignsWrongFalsely : Prop := markerSignsRow.holds Try.pinned (OpenSpec.ofChange markerSignsWrong)

/- THE SECOND FORM. 'bulk': how many values and letters a reading holds, each counted each time it is reached (what is shared counts as often as it is met; a slice's spare places count too). A statement '..UptoSaid' is the law's where the arguments, and the package variables that the reading takes, are together of bulk at most 1048576: NARROWER than '..Said'. Prove '..Said' where nothing that the law and all that it calls make is longer than what came in: it says more and counts as full. Else prove '..UptoSaid'. A law counts once. -/
mutual
def uptoBulk {H : Type} : DataW H → Nat
  | .lit (.string bytes) => bytes.length + 1
  | .lit _ => 1
  | .nil => 1
  | .ptr d => uptoBulk d + 1
  | .slice elems spare => uptoBulkAll elems + uptoBulkAll spare + 1
  | .agg parts => uptoBulkAll parts + 1
  | .iface _ d => uptoBulk d + 1
  | .map entries => uptoBulkEntries entries + 1
  | .held _ => 1
def uptoBulkAll {H : Type} : List (DataW H) → Nat
  | [] => 0
  | d :: r => uptoBulk d + uptoBulkAll r
def uptoBulkEntries {H : Type} : List (Lit × DataW H) → Nat
  | [] => 0
  | x :: r => uptoBulkEntry x + uptoBulkEntries r
def uptoBulkEntry {H : Type} : Lit × DataW H → Nat
  | (.string bytes, d) => bytes.length + uptoBulk d + 1
  | (_, d) => uptoBulk d + 1
 end
def uptoSmall : (H : Type) → List (DataW H) → Bool := fun _ ds => decide (uptoBulkAll ds ≤ 1048576)
def OpenSpec.upto (s : _root_.Go.ChangeSpec) : _root_.Go.OpenSpec := { _root_.Go.OpenSpec.ofChange s with cond := some uptoSmall }

/-- 'bowlinelaw17.MarkerTells', WHERE WHAT IT READS IS OF BULK AT MOST 1048576: true; the input reads as it did. -/
def markerTellsUptoRow : OpenClaim := { program := "ytelpnlpbjenmkaa", sum := "cbc3b5ce38f232604d23d8c438cc11aa8963fcac897b19ae8671758c111194ff", func := "bowline/bowlinelaw17.MarkerTells", spec := "markerTells", unfollowed := true, recurses := true, apart := false, narrowed := true }
def MarkerTellsUptoSaid : Prop := markerTellsUptoRow.holds Try.pinned (OpenSpec.upto markerTellsSpec)

/-- 'bowlinelaw17.MarkerBack', WHERE WHAT IT READS IS OF BULK AT MOST 1048576: true; the input reads as it did. -/
def markerBackUptoRow : OpenClaim := { program := "ytelpnlpbjenmkaa", sum := "cbc3b5ce38f232604d23d8c438cc11aa8963fcac897b19ae8671758c111194ff", func := "bowline/bowlinelaw17.MarkerBack", spec := "markerBack", unfollowed := true, recurses := true, apart := false, narrowed := true }
def MarkerBackUptoSaid : Prop := markerBackUptoRow.holds Try.pinned (OpenSpec.upto markerBackSpec)

/-- 'bowlinelaw17.MarkerBatch', WHERE WHAT IT READS IS OF BULK AT MOST 1048576: true; the input reads as it did. -/
def markerBatchUptoRow : OpenClaim := { program := "ytelpnlpbjenmkaa", sum := "cbc3b5ce38f232604d23d8c438cc11aa8963fcac897b19ae8671758c111194ff", func := "bowline/bowlinelaw17.MarkerBatch", spec := "markerBatch", unfollowed := true, recurses := true, apart := false, narrowed := true }
def MarkerBatchUptoSaid : Prop := markerBatchUptoRow.holds Try.pinned (OpenSpec.upto markerBatchSpec)

/-- 'bowlinelaw17.MarkerCut', WHERE WHAT IT READS IS OF BULK AT MOST 1048576: true; the input reads as it did. -/
def markerCutUptoRow : OpenClaim := { program := "ytelpnlpbjenmkaa", sum := "cbc3b5ce38f232604d23d8c438cc11aa8963fcac897b19ae8671758c111194ff", func := "bowline/bowlinelaw17.MarkerCut", spec := "markerCut", unfollowed := true, recurses := true, apart := false, narrowed := true }
def MarkerCutUptoSaid : Prop := markerCutUptoRow.holds Try.pinned (OpenSpec.upto markerCutSpec)

/-- 'bowlinelaw17.MarkerSigns', WHERE WHAT IT READS IS OF BULK AT MOST 1048576: true; the input reads as it did. -/
def markerSignsUptoRow : OpenClaim := { program := "ytelpnlpbjenmkaa", sum := "cbc3b5ce38f232604d23d8c438cc11aa8963fcac897b19ae8671758c111194ff", func := "bowline/bowlinelaw17.MarkerSigns", spec := "markerSigns", unfollowed := true, recurses := true, apart := false, narrowed := true }
def MarkerSignsUptoSaid : Prop := markerSignsUptoRow.holds Try.pinned (OpenSpec.upto markerSignsSpec)

end Rows
end Go.Proofs.Ytelpnlpbjenmkaa
