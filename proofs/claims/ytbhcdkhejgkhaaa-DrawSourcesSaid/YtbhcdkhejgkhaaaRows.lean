/-
  No cell of these rows narrows 'for every input' (looked for: loops, veiled, ifaces, maps, wideKeys, modest, calm, conditions, laid).
  DERIVED. THE GIVEN ROWS OF THIS SEAT. 12 by the template 'for every input the law returns true; each argument reads behind the call as it read before'; 0 by the template 'total and deterministic' (their statements: YtbhcdkhejgkhaaaTotals.lean).
  GIVEN WITH THE SEED: the statements are not yours to turn. If you find one false, say at which input.
  Laid BY PROGRAM, IN A SANDBOX (cutbox-rows.mjs): the forced cells as the released guide's own fill.sh prints them over the translation e8234f8debd66018… (all of the seat's roots in one cut). By AI agents, Wed Nov 11 2026. No macro, syntax, notation, axiom, sorry.
-/
import Derived.Test.YtbhcdkhejgkhaaaChecked
import GoSem.Claim
import GoSem.ClaimJoined
import GoSem.ClaimMapViews
import Derived.JoinedTies
import Derived.KernelRfl
namespace Go.Proofs.Ytbhcdkhejgkhaaa
/- THE CELL 'sum', in the pinned program and in every row, IS THE sha256 OF THE DUMP (.gsa) THAT YtbhcdkhejgkhaaaProg.lean LOADS. Nothing in Lean hashes anything: it is a label: what it is worth is what the hold of that sum in a sandbox is worth. -/
noncomputable def Try.pinned : Pinned := { name := "ytbhcdkhejgkhaaa", sum := "e8234f8debd66018964be3e73550699d5ee4be4a13c2a660558cf6cfacee315d", checked := Try.checked }
namespace Rows
def none {H : Type} : Left H := { results := [], args := [] }

/-- 'maundlaw23.BackoffTells': WHATEVER THE INPUT: true; the input reads as it did. -/
def backoffTellsSpec : ChangeSpec := { name := "backoffTells", fn := fun _ => fun
  | [d] => { results := [.lit (.bool true)], args := [d] }
  | _ => none }
def backoffTellsRow : OpenClaim := { program := "ytbhcdkhejgkhaaa", sum := "e8234f8debd66018964be3e73550699d5ee4be4a13c2a660558cf6cfacee315d", func := "maund/maundlaw23.BackoffTells", spec := "backoffTells", unfollowed := true, recurses := true, apart := false }
def BackoffTellsSaid : Prop := backoffTellsRow.holds Try.pinned (OpenSpec.ofChange backoffTellsSpec)

/-- ITS FALSE NEIGHBOUR: 'it returns false'. Refute it at one input. -/
def backoffTellsWrong : ChangeSpec := { name := "backoffTells", fn := fun _ => fun
  | [d] => { results := [.lit (.bool false)], args := [d] }
  | _ => none }
def BackoffTellsWrongFalsely : Prop := backoffTellsRow.holds Try.pinned (OpenSpec.ofChange backoffTellsWrong)

/-- 'maundlaw23.BackoffGaps': WHATEVER THE INPUT: true; the input reads as it did. -/
def backoffGapsSpec : ChangeSpec := { name := "backoffGaps", fn := fun _ => fun
  | [d1, d2] => { results := [.lit (.bool true)], args := [d1, d2] }
  | _ => none }
def backoffGapsRow : OpenClaim := { program := "ytbhcdkhejgkhaaa", sum := "e8234f8debd66018964be3e73550699d5ee4be4a13c2a660558cf6cfacee315d", func := "maund/maundlaw23.BackoffGaps", spec := "backoffGaps", unfollowed := true, recurses := true, apart := false }
def BackoffGapsSaid : Prop := backoffGapsRow.holds Try.pinned (OpenSpec.ofChange backoffGapsSpec)

/-- ITS FALSE NEIGHBOUR: 'it returns false'. Refute it at one input. -/
def backoffGapsWrong : ChangeSpec := { name := "backoffGaps", fn := fun _ => fun
  | [d1, d2] => { results := [.lit (.bool false)], args := [d1, d2] }
  | _ => none }
def BackoffGapsWrongFalsely : Prop := backoffGapsRow.holds Try.pinned (OpenSpec.ofChange backoffGapsWrong)

/-- 'maundlaw23.BackoffRises': WHATEVER THE INPUT: true; the input reads as it did. -/
def backoffRisesSpec : ChangeSpec := { name := "backoffRises", fn := fun _ => fun
  | [d1, d2] => { results := [.lit (.bool true)], args := [d1, d2] }
  | _ => none }
def backoffRisesRow : OpenClaim := { program := "ytbhcdkhejgkhaaa", sum := "e8234f8debd66018964be3e73550699d5ee4be4a13c2a660558cf6cfacee315d", func := "maund/maundlaw23.BackoffRises", spec := "backoffRises", unfollowed := true, recurses := true, apart := false }
def BackoffRisesSaid : Prop := backoffRisesRow.holds Try.pinned (OpenSpec.ofChange backoffRisesSpec)

/-- ITS FALSE NEIGHBOUR: 'it returns false'. Refute it at one input. -/
def backoffRisesWrong : ChangeSpec := { name := "backoffRises", fn := fun _ => fun
  | [d1, d2] => { results := [.lit (.bool false)], args := [d1, d2] }
  | _ => none }
def BackoffRisesWrongFalsely : Prop := backoffRisesRow.holds Try.pinned (OpenSpec.ofChange backoffRisesWrong)

/-- 'maundlaw25.DrawTells': WHATEVER THE INPUT: true; the input reads as it did. -/
def drawTellsSpec : ChangeSpec := { name := "drawTells", fn := fun _ => fun
  | [d1, d2, d3] => { results := [.lit (.bool true)], args := [d1, d2, d3] }
  | _ => none }
def drawTellsRow : OpenClaim := { program := "ytbhcdkhejgkhaaa", sum := "e8234f8debd66018964be3e73550699d5ee4be4a13c2a660558cf6cfacee315d", func := "maund/maundlaw25.DrawTells", spec := "drawTells", apart := false }
def DrawTellsSaid : Prop := drawTellsRow.holds Try.pinned (OpenSpec.ofChange drawTellsSpec)

/-- ITS FALSE NEIGHBOUR: 'it returns false'. Refute it at one input. -/
def drawTellsWrong : ChangeSpec := { name := "drawTells", fn := fun _ => fun
  | [d1, d2, d3] => { results := [.lit (.bool false)], args := [d1, d2, d3] }
  | _ => none }
def DrawTellsWrongFalsely : Prop := drawTellsRow.holds Try.pinned (OpenSpec.ofChange drawTellsWrong)

/-- 'maundlaw25.DrawSources': WHATEVER THE INPUT: true; the input reads as it did. -/
def drawSourcesSpec : ChangeSpec := { name := "drawSources", fn := fun _ => fun
  | [d1, d2] => { results := [.lit (.bool true)], args := [d1, d2] }
  | _ => none }
def drawSourcesRow : OpenClaim := { program := "ytbhcdkhejgkhaaa", sum := "e8234f8debd66018964be3e73550699d5ee4be4a13c2a660558cf6cfacee315d", func := "maund/maundlaw25.DrawSources", spec := "drawSources", apart := false }
def DrawSourcesSaid : Prop := drawSourcesRow.holds Try.pinned (OpenSpec.ofChange drawSourcesSpec)

/-- ITS FALSE NEIGHBOUR: 'it returns false'. Refute it at one input. -/
def drawSourcesWrong : ChangeSpec := { name := "drawSources", fn := fun _ => fun
  | [d1, d2] => { results := [.lit (.bool false)], args := [d1, d2] }
  | _ => none }
def DrawSourcesWrongFalsely : Prop := drawSourcesRow.holds Try.pinned (OpenSpec.ofChange drawSourcesWrong)

/-- 'maundlaw25.DrawDeals': WHATEVER THE INPUT: true; the input reads as it did. -/
def drawDealsSpec : ChangeSpec := { name := "drawDeals", fn := fun _ => fun
  | [d1, d2] => { results := [.lit (.bool true)], args := [d1, d2] }
  | _ => none }
def drawDealsRow : OpenClaim := { program := "ytbhcdkhejgkhaaa", sum := "e8234f8debd66018964be3e73550699d5ee4be4a13c2a660558cf6cfacee315d", func := "maund/maundlaw25.DrawDeals", spec := "drawDeals", apart := false }
def DrawDealsSaid : Prop := drawDealsRow.holds Try.pinned (OpenSpec.ofChange drawDealsSpec)

/-- ITS FALSE NEIGHBOUR: 'it returns false'. Refute it at one input. -/
def drawDealsWrong : ChangeSpec := { name := "drawDeals", fn := fun _ => fun
  | [d1, d2] => { results := [.lit (.bool false)], args := [d1, d2] }
  | _ => none }
def DrawDealsWrongFalsely : Prop := drawDealsRow.holds Try.pinned (OpenSpec.ofChange drawDealsWrong)

/-- 'maundlaw25.DrawAll': WHATEVER THE INPUT: true; the input reads as it did. -/
def drawAllSpec : ChangeSpec := { name := "drawAll", fn := fun _ => fun
  | [d1, d2, d3] => { results := [.lit (.bool true)], args := [d1, d2, d3] }
  | _ => none }
def drawAllRow : OpenClaim := { program := "ytbhcdkhejgkhaaa", sum := "e8234f8debd66018964be3e73550699d5ee4be4a13c2a660558cf6cfacee315d", func := "maund/maundlaw25.DrawAll", spec := "drawAll", apart := false }
def DrawAllSaid : Prop := drawAllRow.holds Try.pinned (OpenSpec.ofChange drawAllSpec)

/-- ITS FALSE NEIGHBOUR: 'it returns false'. Refute it at one input. -/
def drawAllWrong : ChangeSpec := { name := "drawAll", fn := fun _ => fun
  | [d1, d2, d3] => { results := [.lit (.bool false)], args := [d1, d2, d3] }
  | _ => none }
def DrawAllWrongFalsely : Prop := drawAllRow.holds Try.pinned (OpenSpec.ofChange drawAllWrong)

/-- 'maundlaw20.TreePlaces': WHATEVER THE INPUT: true; the input reads as it did. -/
def treePlacesSpec : ChangeSpec := { name := "treePlaces", fn := fun _ => fun
  | [d] => { results := [.lit (.bool true)], args := [d] }
  | _ => none }
def treePlacesRow : OpenClaim := { program := "ytbhcdkhejgkhaaa", sum := "e8234f8debd66018964be3e73550699d5ee4be4a13c2a660558cf6cfacee315d", func := "maund/maundlaw20.TreePlaces", spec := "treePlaces", unfollowed := true, recurses := true, apart := false }
def TreePlacesSaid : Prop := treePlacesRow.holds Try.pinned (OpenSpec.ofChange treePlacesSpec)

/-- ITS FALSE NEIGHBOUR: 'it returns false'. Refute it at one input. -/
def treePlacesWrong : ChangeSpec := { name := "treePlaces", fn := fun _ => fun
  | [d] => { results := [.lit (.bool false)], args := [d] }
  | _ => none }
def TreePlacesWrongFalsely : Prop := treePlacesRow.holds Try.pinned (OpenSpec.ofChange treePlacesWrong)

/-- 'maundlaw20.TreeTells': WHATEVER THE INPUT: true; the input reads as it did. -/
def treeTellsSpec : ChangeSpec := { name := "treeTells", fn := fun _ => fun
  | [d1, d2, d3, d4] => { results := [.lit (.bool true)], args := [d1, d2, d3, d4] }
  | _ => none }
def treeTellsRow : OpenClaim := { program := "ytbhcdkhejgkhaaa", sum := "e8234f8debd66018964be3e73550699d5ee4be4a13c2a660558cf6cfacee315d", func := "maund/maundlaw20.TreeTells", spec := "treeTells", unfollowed := true, recurses := true, apart := false }
def TreeTellsSaid : Prop := treeTellsRow.holds Try.pinned (OpenSpec.ofChange treeTellsSpec)

/-- ITS FALSE NEIGHBOUR: 'it returns false'. Refute it at one input. -/
def treeTellsWrong : ChangeSpec := { name := "treeTells", fn := fun _ => fun
  | [d1, d2, d3, d4] => { results := [.lit (.bool false)], args := [d1, d2, d3, d4] }
  | _ => none }
def TreeTellsWrongFalsely : Prop := treeTellsRow.holds Try.pinned (OpenSpec.ofChange treeTellsWrong)

/-- 'maundlaw20.TreeRaw': WHATEVER THE INPUT: true; the input reads as it did. -/
def treeRawSpec : ChangeSpec := { name := "treeRaw", fn := fun _ => fun
  | [d1, d2, d3] => { results := [.lit (.bool true)], args := [d1, d2, d3] }
  | _ => none }
def treeRawRow : OpenClaim := { program := "ytbhcdkhejgkhaaa", sum := "e8234f8debd66018964be3e73550699d5ee4be4a13c2a660558cf6cfacee315d", func := "maund/maundlaw20.TreeRaw", spec := "treeRaw", unfollowed := true, recurses := true, apart := false }
def TreeRawSaid : Prop := treeRawRow.holds Try.pinned (OpenSpec.ofChange treeRawSpec)

/-- ITS FALSE NEIGHBOUR: 'it returns false'. Refute it at one input. -/
def treeRawWrong : ChangeSpec := { name := "treeRaw", fn := fun _ => fun
  | [d1, d2, d3] => { results := [.lit (.bool false)], args := [d1, d2, d3] }
  | _ => none }
def TreeRawWrongFalsely : Prop := treeRawRow.holds Try.pinned (OpenSpec.ofChange treeRawWrong)

/-- 'maundlaw20.TreeAgain': WHATEVER THE INPUT: true; the input reads as it did. -/
def treeAgainSpec : ChangeSpec := { name := "treeAgain", fn := fun _ => fun
  | [d1, d2, d3] => { results := [.lit (.bool true)], args := [d1, d2, d3] }
  | _ => none }
def treeAgainRow : OpenClaim := { program := "ytbhcdkhejgkhaaa", sum := "e8234f8debd66018964be3e73550699d5ee4be4a13c2a660558cf6cfacee315d", func := "maund/maundlaw20.TreeAgain", spec := "treeAgain", unfollowed := true, recurses := true, apart := false }
def TreeAgainSaid : Prop := treeAgainRow.holds Try.pinned (OpenSpec.ofChange treeAgainSpec)

/-- ITS FALSE NEIGHBOUR: 'it returns false'. Refute it at one input. -/
def treeAgainWrong : ChangeSpec := { name := "treeAgain", fn := fun _ => fun
  | [d1, d2, d3] => { results := [.lit (.bool false)], args := [d1, d2, d3] }
  | _ => none }
def TreeAgainWrongFalsely : Prop := treeAgainRow.holds Try.pinned (OpenSpec.ofChange treeAgainWrong)

/-- 'maundlaw20.TreeTurns': WHATEVER THE INPUT: true; the input reads as it did. -/
def treeTurnsSpec : ChangeSpec := { name := "treeTurns", fn := fun _ => fun
  | [d1, d2, d3] => { results := [.lit (.bool true)], args := [d1, d2, d3] }
  | _ => none }
def treeTurnsRow : OpenClaim := { program := "ytbhcdkhejgkhaaa", sum := "e8234f8debd66018964be3e73550699d5ee4be4a13c2a660558cf6cfacee315d", func := "maund/maundlaw20.TreeTurns", spec := "treeTurns", unfollowed := true, recurses := true, apart := false }
def TreeTurnsSaid : Prop := treeTurnsRow.holds Try.pinned (OpenSpec.ofChange treeTurnsSpec)

/-- ITS FALSE NEIGHBOUR: 'it returns false'. Refute it at one input. -/
def treeTurnsWrong : ChangeSpec := { name := "treeTurns", fn := fun _ => fun
  | [d1, d2, d3] => { results := [.lit (.bool false)], args := [d1, d2, d3] }
  | _ => none }
def TreeTurnsWrongFalsely : Prop := treeTurnsRow.holds Try.pinned (OpenSpec.ofChange treeTurnsWrong)

/- THE SECOND FORM. 'bulk': how many values and letters a reading holds, each counted each time it is reached (what is shared counts as often as it is met; a slice's spare places count too). A statement '..UptoSaid' is the law's where the arguments, and the package variables that the reading takes, are together of bulk at most 1048576: NARROWER than '..Said'. Prove '..Said' where nothing that the law and all that it calls make is longer than what came in: it says more and counts as full. Else prove '..UptoSaid'. A law counts once. -/
mutual
def uptoBulk {H : Type} : DataW H → Nat
  | .lit (.string bytes) => bytes.length + 1
  | .lit _ => 1
  | .nil => 1
  | .ptr d => uptoBulk d + 1
  | .slice elems spare => uptoBulkAll elems + uptoBulkAll spare + 1
  | .agg parts => uptoBulkAll parts + 1
  | .iface _ d => uptoBulk d + 1
  | .map entries => uptoBulkEntries entries + 1
  | .held _ => 1
def uptoBulkAll {H : Type} : List (DataW H) → Nat
  | [] => 0
  | d :: r => uptoBulk d + uptoBulkAll r
def uptoBulkEntries {H : Type} : List (Lit × DataW H) → Nat
  | [] => 0
  | x :: r => uptoBulkEntry x + uptoBulkEntries r
def uptoBulkEntry {H : Type} : Lit × DataW H → Nat
  | (.string bytes, d) => bytes.length + uptoBulk d + 1
  | (_, d) => uptoBulk d + 1
 end
def uptoSmall : (H : Type) → List (DataW H) → Bool := fun _ ds => decide (uptoBulkAll ds ≤ 1048576)
def OpenSpec.upto (s : _root_.Go.ChangeSpec) : _root_.Go.OpenSpec := { _root_.Go.OpenSpec.ofChange s with cond := some uptoSmall }

/-- 'maundlaw23.BackoffTells', WHERE WHAT IT READS IS OF BULK AT MOST 1048576: true; the input reads as it did. -/
def backoffTellsUptoRow : OpenClaim := { program := "ytbhcdkhejgkhaaa", sum := "e8234f8debd66018964be3e73550699d5ee4be4a13c2a660558cf6cfacee315d", func := "maund/maundlaw23.BackoffTells", spec := "backoffTells", unfollowed := true, recurses := true, apart := false, narrowed := true }
def BackoffTellsUptoSaid : Prop := backoffTellsUptoRow.holds Try.pinned (OpenSpec.upto backoffTellsSpec)

/-- 'maundlaw23.BackoffGaps', WHERE WHAT IT READS IS OF BULK AT MOST 1048576: true; the input reads as it did. -/
def backoffGapsUptoRow : OpenClaim := { program := "ytbhcdkhejgkhaaa", sum := "e8234f8debd66018964be3e73550699d5ee4be4a13c2a660558cf6cfacee315d", func := "maund/maundlaw23.BackoffGaps", spec := "backoffGaps", unfollowed := true, recurses := true, apart := false, narrowed := true }
def BackoffGapsUptoSaid : Prop := backoffGapsUptoRow.holds Try.pinned (OpenSpec.upto backoffGapsSpec)

/-- 'maundlaw23.BackoffRises', WHERE WHAT IT READS IS OF BULK AT MOST 1048576: true; the input reads as it did. -/
def backoffRisesUptoRow : OpenClaim := { program := "ytbhcdkhejgkhaaa", sum := "e8234f8debd66018964be3e73550699d5ee4be4a13c2a660558cf6cfacee315d", func := "maund/maundlaw23.BackoffRises", spec := "backoffRises", unfollowed := true, recurses := true, apart := false, narrowed := true }
def BackoffRisesUptoSaid : Prop := backoffRisesUptoRow.holds Try.pinned (OpenSpec.upto backoffRisesSpec)

/-- 'maundlaw25.DrawTells', WHERE WHAT IT READS IS OF BULK AT MOST 1048576: true; the input reads as it did. -/
def drawTellsUptoRow : OpenClaim := { program := "ytbhcdkhejgkhaaa", sum := "e8234f8debd66018964be3e73550699d5ee4be4a13c2a660558cf6cfacee315d", func := "maund/maundlaw25.DrawTells", spec := "drawTells", apart := false, narrowed := true }
def DrawTellsUptoSaid : Prop := drawTellsUptoRow.holds Try.pinned (OpenSpec.upto drawTellsSpec)

/-- 'maundlaw25.DrawSources', WHERE WHAT IT READS IS OF BULK AT MOST 1048576: true; the input reads as it did. -/
def drawSourcesUptoRow : OpenClaim := { program := "ytbhcdkhejgkhaaa", sum := "e8234f8debd66018964be3e73550699d5ee4be4a13c2a660558cf6cfacee315d", func := "maund/maundlaw25.DrawSources", spec := "drawSources", apart := false, narrowed := true }
def DrawSourcesUptoSaid : Prop := drawSourcesUptoRow.holds Try.pinned (OpenSpec.upto drawSourcesSpec)

/-- 'maundlaw25.DrawDeals', WHERE WHAT IT READS IS OF BULK AT MOST 1048576: true; the input reads as it did. -/
def drawDealsUptoRow : OpenClaim := { program := "ytbhcdkhejgkhaaa", sum := "e8234f8debd66018964be3e73550699d5ee4be4a13c2a660558cf6cfacee315d", func := "maund/maundlaw25.DrawDeals", spec := "drawDeals", apart := false, narrowed := true }
def DrawDealsUptoSaid : Prop := drawDealsUptoRow.holds Try.pinned (OpenSpec.upto drawDealsSpec)

/-- 'maundlaw25.DrawAll', WHERE WHAT IT READS IS OF BULK AT MOST 1048576: true; the input reads as it did. -/
def drawAllUptoRow : OpenClaim := { program := "ytbhcdkhejgkhaaa", sum := "e8234f8debd66018964be3e73550699d5ee4be4a13c2a660558cf6cfacee315d", func := "maund/maundlaw25.DrawAll", spec := "drawAll", apart := false, narrowed := true }
def DrawAllUptoSaid : Prop := drawAllUptoRow.holds Try.pinned (OpenSpec.upto drawAllSpec)

/-- 'maundlaw20.TreePlaces', WHERE WHAT IT READS IS OF BULK AT MOST 1048576: true; the input reads as it did. -/
def treePlacesUptoRow : OpenClaim := { program := "ytbhcdkhejgkhaaa", sum := "e8234f8debd66018964be3e73550699d5ee4be4a13c2a660558cf6cfacee315d", func := "maund/maundlaw20.TreePlaces", spec := "treePlaces", unfollowed := true, recurses := true, apart := false, narrowed := true }
def TreePlacesUptoSaid : Prop := treePlacesUptoRow.holds Try.pinned (OpenSpec.upto treePlacesSpec)

/-- 'maundlaw20.TreeTells', WHERE WHAT IT READS IS OF BULK AT MOST 1048576: true; the input reads as it did. -/
def treeTellsUptoRow : OpenClaim := { program := "ytbhcdkhejgkhaaa", sum := "e8234f8debd66018964be3e73550699d5ee4be4a13c2a660558cf6cfacee315d", func := "maund/maundlaw20.TreeTells", spec := "treeTells", unfollowed := true, recurses := true, apart := false, narrowed := true }
def TreeTellsUptoSaid : Prop := treeTellsUptoRow.holds Try.pinned (OpenSpec.upto treeTellsSpec)

/-- 'maundlaw20.TreeRaw', WHERE WHAT IT READS IS OF BULK AT MOST 1048576: true; the input reads as it did. -/
def treeRawUptoRow : OpenClaim := { program := "ytbhcdkhejgkhaaa", sum := "e8234f8debd66018964be3e73550699d5ee4be4a13c2a660558cf6cfacee315d", func := "maund/maundlaw20.TreeRaw", spec := "treeRaw", unfollowed := true, recurses := true, apart := false, narrowed := true }
def TreeRawUptoSaid : Prop := treeRawUptoRow.holds Try.pinned (OpenSpec.upto treeRawSpec)

/-- 'maundlaw20.TreeAgain', WHERE WHAT IT READS IS OF BULK AT MOST 1048576: true; the input reads as it did. -/
def treeAgainUptoRow : OpenClaim := { program := "ytbhcdkhejgkhaaa", sum := "e8234f8debd66018964be3e73550699d5ee4be4a13c2a660558cf6cfacee315d", func := "maund/maundlaw20.TreeAgain", spec := "treeAgain", unfollowed := true, recurses := true, apart := false, narrowed := true }
def TreeAgainUptoSaid : Prop := treeAgainUptoRow.holds Try.pinned (OpenSpec.upto treeAgainSpec)

/-- 'maundlaw20.TreeTurns', WHERE WHAT IT READS IS OF BULK AT MOST 1048576: true; the input reads as it did. -/
def treeTurnsUptoRow : OpenClaim := { program := "ytbhcdkhejgkhaaa", sum := "e8234f8debd66018964be3e73550699d5ee4be4a13c2a660558cf6cfacee315d", func := "maund/maundlaw20.TreeTurns", spec := "treeTurns", unfollowed := true, recurses := true, apart := false, narrowed := true }
def TreeTurnsUptoSaid : Prop := treeTurnsUptoRow.holds Try.pinned (OpenSpec.upto treeTurnsSpec)

end Rows
end Go.Proofs.Ytbhcdkhejgkhaaa
