/-
  No cell of these rows narrows 'for every input' (looked for: loops, veiled, ifaces, maps, wideKeys, modest, calm, conditions, laid).
  DERIVED. THE GIVEN ROWS OF THIS SEAT. 7 by the template 'for every input the law returns true; each argument reads behind the call as it read before'; 0 by the template 'total and deterministic' (their statements: YtpgppgehhclfoaaGreatTotals.lean).
  GIVEN WITH THE SEED: the statements are not yours to turn. If you find one false, say at which input.
  Laid BY PROGRAM, IN A SANDBOX (cutbox-rows.mjs): the forced cells as the released guide's own fill.sh prints them over the translation 577d07ec38cec114… (all of the seat's roots in one cut). By AI agents, Wed Nov 11 2026. No macro, syntax, notation, axiom, sorry.
-/
import Derived.Test.YtpgppgehhclfoaaGreatChecked
import GoSem.Claim
import GoSem.ClaimJoined
import GoSem.ClaimMapViews
import Derived.JoinedTies
import Derived.KernelRfl
namespace Go.Proofs.YtpgppgehhclfoaaGreat
/- THE CELL 'sum', in the pinned program and in every row, IS THE sha256 OF THE DUMP (.gsa) THAT YtpgppgehhclfoaaGreatProg.lean LOADS. Nothing in Lean hashes anything: it is a label: what it is worth is what the hold of that sum in a sandbox is worth. -/
noncomputable def Tryz.pinned : Pinned := { name := "ytpgppgehhclfoaagreat", sum := "577d07ec38cec114d95b32ee50ca1b8f065b959bef21ac4a509f41fb15d18d64", checked := Tryz.checked }
namespace Rows
def none {H : Type} : Left H := { results := [], args := [] }

/-- 'maundlaw26.ProtoTells': WHATEVER THE INPUT: true; the input reads as it did. -/
def protoTellsSpec : ChangeSpec := { name := "protoTells", fn := fun _ => fun
  | [d1, d2, d3] => { results := [.lit (.bool true)], args := [d1, d2, d3] }
  | _ => none }
def protoTellsRow : OpenClaim := { program := "ytpgppgehhclfoaagreat", sum := "577d07ec38cec114d95b32ee50ca1b8f065b959bef21ac4a509f41fb15d18d64", func := "maund/maundlaw26.ProtoTells", spec := "protoTells", unfollowed := true, recurses := true, plainKeys := false, apart := false }
def ProtoTellsSaid : Prop := protoTellsRow.holds Tryz.pinned (OpenSpec.ofChange protoTellsSpec)

/-- ITS FALSE NEIGHBOUR: 'it returns false'. Refute it at one input. -/
def protoTellsWrong : ChangeSpec := { name := "protoTells", fn := fun _ => fun
  | [d1, d2, d3] => { results := [.lit (.bool false)], args := [d1, d2, d3] }
  | _ => none }
def ProtoTellsWrongFalsely : Prop := protoTellsRow.holds Tryz.pinned (OpenSpec.ofChange protoTellsWrong)

/-- 'maundlaw29.OutboxLives': WHATEVER THE INPUT: true; the input reads as it did. -/
def outboxLivesSpec : ChangeSpec := { name := "outboxLives", fn := fun _ => fun
  | [d] => { results := [.lit (.bool true)], args := [d] }
  | _ => none }
def outboxLivesRow : OpenClaim := { program := "ytpgppgehhclfoaagreat", sum := "577d07ec38cec114d95b32ee50ca1b8f065b959bef21ac4a509f41fb15d18d64", func := "maund/maundlaw29.OutboxLives", spec := "outboxLives", unfollowed := true, recurses := true, plainKeys := false, apart := false }
def OutboxLivesSaid : Prop := outboxLivesRow.holds Tryz.pinned (OpenSpec.ofChange outboxLivesSpec)

/-- ITS FALSE NEIGHBOUR: 'it returns false'. Refute it at one input. -/
def outboxLivesWrong : ChangeSpec := { name := "outboxLives", fn := fun _ => fun
  | [d] => { results := [.lit (.bool false)], args := [d] }
  | _ => none }
def OutboxLivesWrongFalsely : Prop := outboxLivesRow.holds Tryz.pinned (OpenSpec.ofChange outboxLivesWrong)

/-- 'maundlaw29.OutboxMarks': WHATEVER THE INPUT: true; the input reads as it did. -/
def outboxMarksSpec : ChangeSpec := { name := "outboxMarks", fn := fun _ => fun
  | [d] => { results := [.lit (.bool true)], args := [d] }
  | _ => none }
def outboxMarksRow : OpenClaim := { program := "ytpgppgehhclfoaagreat", sum := "577d07ec38cec114d95b32ee50ca1b8f065b959bef21ac4a509f41fb15d18d64", func := "maund/maundlaw29.OutboxMarks", spec := "outboxMarks", unfollowed := true, recurses := true, plainKeys := false, apart := false }
def OutboxMarksSaid : Prop := outboxMarksRow.holds Tryz.pinned (OpenSpec.ofChange outboxMarksSpec)

/-- ITS FALSE NEIGHBOUR: 'it returns false'. Refute it at one input. -/
def outboxMarksWrong : ChangeSpec := { name := "outboxMarks", fn := fun _ => fun
  | [d] => { results := [.lit (.bool false)], args := [d] }
  | _ => none }
def OutboxMarksWrongFalsely : Prop := outboxMarksRow.holds Tryz.pinned (OpenSpec.ofChange outboxMarksWrong)

/-- 'maundlaw30.InputTells': WHATEVER THE INPUT: true; the input reads as it did. -/
def inputTellsSpec : ChangeSpec := { name := "inputTells", fn := fun _ => fun
  | [d1, d2, d3] => { results := [.lit (.bool true)], args := [d1, d2, d3] }
  | _ => none }
def inputTellsRow : OpenClaim := { program := "ytpgppgehhclfoaagreat", sum := "577d07ec38cec114d95b32ee50ca1b8f065b959bef21ac4a509f41fb15d18d64", func := "maund/maundlaw30.InputTells", spec := "inputTells", unfollowed := true, recurses := true, plainKeys := false, apart := false }
def InputTellsSaid : Prop := inputTellsRow.holds Tryz.pinned (OpenSpec.ofChange inputTellsSpec)

/-- ITS FALSE NEIGHBOUR: 'it returns false'. Refute it at one input. -/
def inputTellsWrong : ChangeSpec := { name := "inputTells", fn := fun _ => fun
  | [d1, d2, d3] => { results := [.lit (.bool false)], args := [d1, d2, d3] }
  | _ => none }
def InputTellsWrongFalsely : Prop := inputTellsRow.holds Tryz.pinned (OpenSpec.ofChange inputTellsWrong)

/-- 'maundlaw32.NetMany': WHATEVER THE INPUT: true; the input reads as it did. -/
def netManySpec : ChangeSpec := { name := "netMany", fn := fun _ => fun
  | [d1, d2, d3] => { results := [.lit (.bool true)], args := [d1, d2, d3] }
  | _ => none }
def netManyRow : OpenClaim := { program := "ytpgppgehhclfoaagreat", sum := "577d07ec38cec114d95b32ee50ca1b8f065b959bef21ac4a509f41fb15d18d64", func := "maund/maundlaw32.NetMany", spec := "netMany", unfollowed := true, recurses := true, plainKeys := false, apart := false }
def NetManySaid : Prop := netManyRow.holds Tryz.pinned (OpenSpec.ofChange netManySpec)

/-- ITS FALSE NEIGHBOUR: 'it returns false'. Refute it at one input. -/
def netManyWrong : ChangeSpec := { name := "netMany", fn := fun _ => fun
  | [d1, d2, d3] => { results := [.lit (.bool false)], args := [d1, d2, d3] }
  | _ => none }
def NetManyWrongFalsely : Prop := netManyRow.holds Tryz.pinned (OpenSpec.ofChange netManyWrong)

/-- 'maundlaw32.NetOrder': WHATEVER THE INPUT: true; the input reads as it did. -/
def netOrderSpec : ChangeSpec := { name := "netOrder", fn := fun _ => fun
  | [d1, d2, d3] => { results := [.lit (.bool true)], args := [d1, d2, d3] }
  | _ => none }
def netOrderRow : OpenClaim := { program := "ytpgppgehhclfoaagreat", sum := "577d07ec38cec114d95b32ee50ca1b8f065b959bef21ac4a509f41fb15d18d64", func := "maund/maundlaw32.NetOrder", spec := "netOrder", unfollowed := true, recurses := true, plainKeys := false, apart := false }
def NetOrderSaid : Prop := netOrderRow.holds Tryz.pinned (OpenSpec.ofChange netOrderSpec)

/-- ITS FALSE NEIGHBOUR: 'it returns false'. Refute it at one input. -/
def netOrderWrong : ChangeSpec := { name := "netOrder", fn := fun _ => fun
  | [d1, d2, d3] => { results := [.lit (.bool false)], args := [d1, d2, d3] }
  | _ => none }
def NetOrderWrongFalsely : Prop := netOrderRow.holds Tryz.pinned (OpenSpec.ofChange netOrderWrong)

/-- 'maundlaw32.NetCounts': WHATEVER THE INPUT: true; the input reads as it did. -/
def netCountsSpec : ChangeSpec := { name := "netCounts", fn := fun _ => fun
  | [d] => { results := [.lit (.bool true)], args := [d] }
  | _ => none }
def netCountsRow : OpenClaim := { program := "ytpgppgehhclfoaagreat", sum := "577d07ec38cec114d95b32ee50ca1b8f065b959bef21ac4a509f41fb15d18d64", func := "maund/maundlaw32.NetCounts", spec := "netCounts", unfollowed := true, recurses := true, plainKeys := false, apart := false }
def NetCountsSaid : Prop := netCountsRow.holds Tryz.pinned (OpenSpec.ofChange netCountsSpec)

/-- ITS FALSE NEIGHBOUR: 'it returns false'. Refute it at one input. -/
def netCountsWrong : ChangeSpec := { name := "netCounts", fn := fun _ => fun
  | [d] => { results := [.lit (.bool false)], args := [d] }
  | _ => none }
def NetCountsWrongFalsely : Prop := netCountsRow.holds Tryz.pinned (OpenSpec.ofChange netCountsWrong)

/- THE SECOND FORM. 'bulk': how many values and letters a reading holds, each counted each time it is reached (what is shared counts as often as it is met; a slice's spare places count too). A statement '..UptoSaid' is the law's where the arguments, and the package variables that the reading takes, are together of bulk at most 1048576: NARROWER than '..Said'. Prove '..Said' where nothing that the law and all that it calls make is longer than what came in: it says more and counts as full. Else prove '..UptoSaid'. A law counts once. -/
mutual
def uptoBulk {H : Type} : DataW H → Nat
  | .lit (.string bytes) => bytes.length + 1
  | .lit _ => 1
  | .nil => 1
  | .ptr d => uptoBulk d + 1
  | .slice elems spare => uptoBulkAll elems + uptoBulkAll spare + 1
  | .agg parts => uptoBulkAll parts + 1
  | .iface _ d => uptoBulk d + 1
  | .map entries => uptoBulkEntries entries + 1
  | .held _ => 1
def uptoBulkAll {H : Type} : List (DataW H) → Nat
  | [] => 0
  | d :: r => uptoBulk d + uptoBulkAll r
def uptoBulkEntries {H : Type} : List (Lit × DataW H) → Nat
  | [] => 0
  | x :: r => uptoBulkEntry x + uptoBulkEntries r
def uptoBulkEntry {H : Type} : Lit × DataW H → Nat
  | (.string bytes, d) => bytes.length + uptoBulk d + 1
  | (_, d) => uptoBulk d + 1
 end
def uptoSmall : (H : Type) → List (DataW H) → Bool := fun _ ds => decide (uptoBulkAll ds ≤ 1048576)
def OpenSpec.upto (s : _root_.Go.ChangeSpec) : _root_.Go.OpenSpec := { _root_.Go.OpenSpec.ofChange s with cond := some uptoSmall }

/-- 'maundlaw26.ProtoTells', WHERE WHAT IT READS IS OF BULK AT MOST 1048576: true; the input reads as it did. -/
def protoTellsUptoRow : OpenClaim := { program := "ytpgppgehhclfoaagreat", sum := "577d07ec38cec114d95b32ee50ca1b8f065b959bef21ac4a509f41fb15d18d64", func := "maund/maundlaw26.ProtoTells", spec := "protoTells", unfollowed := true, recurses := true, plainKeys := false, apart := false, narrowed := true }
def ProtoTellsUptoSaid : Prop := protoTellsUptoRow.holds Tryz.pinned (OpenSpec.upto protoTellsSpec)

/-- 'maundlaw29.OutboxLives', WHERE WHAT IT READS IS OF BULK AT MOST 1048576: true; the input reads as it did. -/
def outboxLivesUptoRow : OpenClaim := { program := "ytpgppgehhclfoaagreat", sum := "577d07ec38cec114d95b32ee50ca1b8f065b959bef21ac4a509f41fb15d18d64", func := "maund/maundlaw29.OutboxLives", spec := "outboxLives", unfollowed := true, recurses := true, plainKeys := false, apart := false, narrowed := true }
def OutboxLivesUptoSaid : Prop := outboxLivesUptoRow.holds Tryz.pinned (OpenSpec.upto outboxLivesSpec)

/-- 'maundlaw29.OutboxMarks', WHERE WHAT IT READS IS OF BULK AT MOST 1048576: true; the input reads as it did. -/
def outboxMarksUptoRow : OpenClaim := { program := "ytpgppgehhclfoaagreat", sum := "577d07ec38cec114d95b32ee50ca1b8f065b959bef21ac4a509f41fb15d18d64", func := "maund/maundlaw29.OutboxMarks", spec := "outboxMarks", unfollowed := true, recurses := true, plainKeys := false, apart := false, narrowed := true }
def OutboxMarksUptoSaid : Prop := outboxMarksUptoRow.holds Tryz.pinned (OpenSpec.upto outboxMarksSpec)

/-- 'maundlaw30.InputTells', WHERE WHAT IT READS IS OF BULK AT MOST 1048576: true; the input reads as it did. -/
def inputTellsUptoRow : OpenClaim := { program := "ytpgppgehhclfoaagreat", sum := "577d07ec38cec114d95b32ee50ca1b8f065b959bef21ac4a509f41fb15d18d64", func := "maund/maundlaw30.InputTells", spec := "inputTells", unfollowed := true, recurses := true, plainKeys := false, apart := false, narrowed := true }
def InputTellsUptoSaid : Prop := inputTellsUptoRow.holds Tryz.pinned (OpenSpec.upto inputTellsSpec)

/-- 'maundlaw32.NetMany', WHERE WHAT IT READS IS OF BULK AT MOST 1048576: true; the input reads as it did. -/
def netManyUptoRow : OpenClaim := { program := "ytpgppgehhclfoaagreat", sum := "577d07ec38cec114d95b32ee50ca1b8f065b959bef21ac4a509f41fb15d18d64", func := "maund/maundlaw32.NetMany", spec := "netMany", unfollowed := true, recurses := true, plainKeys := false, apart := false, narrowed := true }
def NetManyUptoSaid : Prop := netManyUptoRow.holds Tryz.pinned (OpenSpec.upto netManySpec)

/-- 'maundlaw32.NetOrder', WHERE WHAT IT READS IS OF BULK AT MOST 1048576: true; the input reads as it did. -/
def netOrderUptoRow : OpenClaim := { program := "ytpgppgehhclfoaagreat", sum := "577d07ec38cec114d95b32ee50ca1b8f065b959bef21ac4a509f41fb15d18d64", func := "maund/maundlaw32.NetOrder", spec := "netOrder", unfollowed := true, recurses := true, plainKeys := false, apart := false, narrowed := true }
def NetOrderUptoSaid : Prop := netOrderUptoRow.holds Tryz.pinned (OpenSpec.upto netOrderSpec)

/-- 'maundlaw32.NetCounts', WHERE WHAT IT READS IS OF BULK AT MOST 1048576: true; the input reads as it did. -/
def netCountsUptoRow : OpenClaim := { program := "ytpgppgehhclfoaagreat", sum := "577d07ec38cec114d95b32ee50ca1b8f065b959bef21ac4a509f41fb15d18d64", func := "maund/maundlaw32.NetCounts", spec := "netCounts", unfollowed := true, recurses := true, plainKeys := false, apart := false, narrowed := true }
def NetCountsUptoSaid : Prop := netCountsUptoRow.holds Tryz.pinned (OpenSpec.upto netCountsSpec)

end Rows
end Go.Proofs.YtpgppgehhclfoaaGreat
