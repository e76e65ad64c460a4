/-
  No cell of these rows narrows 'for every input' (looked for: loops, veiled, ifaces, maps, wideKeys, modest, calm, conditions, laid).
  DERIVED. THE GIVEN ROWS OF THIS SEAT. 7 by the template 'for every input the law returns true; each argument reads behind the call as it read before'; 0 by the template 'total and deterministic' (their statements: YtlaeldgebecppaaGreatTotals.lean).
  GIVEN WITH THE SEED: the statements are not yours to turn. If you find one false, say at which input.
  Laid BY PROGRAM, IN A SANDBOX (cutbox-rows.mjs): the forced cells as the released guide's own fill.sh prints them over the translation 2480d372eae107f8… (all of the seat's roots in one cut). By AI agents, Wed Nov 11 2026. No macro, syntax, notation, axiom, sorry.
-/
import Derived.Test.YtlaeldgebecppaaGreatChecked
import GoSem.Claim
import GoSem.ClaimJoined
import GoSem.ClaimMapViews
import Derived.JoinedTies
import Derived.KernelRfl
namespace Go.Proofs.YtlaeldgebecppaaGreat
/- THE CELL 'sum', in the pinned program and in every row, IS THE sha256 OF THE DUMP (.gsa) THAT YtlaeldgebecppaaGreatProg.lean LOADS. Nothing in Lean hashes anything: it is a label: what it is worth is what the hold of that sum in a sandbox is worth. -/
noncomputable def Tryz.pinned : Pinned := { name := "ytlaeldgebecppaagreat", sum := "2480d372eae107f8c8e6d76a36e13a0acdb6653db60091755fa57a3d92e0166d", checked := Tryz.checked }
namespace Rows
def none {H : Type} : Left H := { results := [], args := [] }

/-- 'maundlaw19.BucketTells': WHATEVER THE INPUT: true; the input reads as it did. -/
def bucketTellsSpec : ChangeSpec := { name := "bucketTells", fn := fun _ => fun
  | [d1, d2, d3, d4] => { results := [.lit (.bool true)], args := [d1, d2, d3, d4] }
  | _ => none }
def bucketTellsRow : OpenClaim := { program := "ytlaeldgebecppaagreat", sum := "2480d372eae107f8c8e6d76a36e13a0acdb6653db60091755fa57a3d92e0166d", func := "maund/maundlaw19.BucketTells", spec := "bucketTells", unfollowed := true, recurses := true, apart := false }
def BucketTellsSaid : Prop := bucketTellsRow.holds Tryz.pinned (OpenSpec.ofChange bucketTellsSpec)

/-- ITS FALSE NEIGHBOUR: 'it returns false'. Refute it at one input. -/
def bucketTellsWrong : ChangeSpec := { name := "bucketTells", fn := fun _ => fun
  | [d1, d2, d3, d4] => { results := [.lit (.bool false)], args := [d1, d2, d3, d4] }
  | _ => none }
def BucketTellsWrongFalsely : Prop := bucketTellsRow.holds Tryz.pinned (OpenSpec.ofChange bucketTellsWrong)

/-- 'maundlaw20.TreeParts': WHATEVER THE INPUT: true; the input reads as it did. -/
def treePartsSpec : ChangeSpec := { name := "treeParts", fn := fun _ => fun
  | [d1, d2] => { results := [.lit (.bool true)], args := [d1, d2] }
  | _ => none }
def treePartsRow : OpenClaim := { program := "ytlaeldgebecppaagreat", sum := "2480d372eae107f8c8e6d76a36e13a0acdb6653db60091755fa57a3d92e0166d", func := "maund/maundlaw20.TreeParts", spec := "treeParts", unfollowed := true, recurses := true, apart := false }
def TreePartsSaid : Prop := treePartsRow.holds Tryz.pinned (OpenSpec.ofChange treePartsSpec)

/-- ITS FALSE NEIGHBOUR: 'it returns false'. Refute it at one input. -/
def treePartsWrong : ChangeSpec := { name := "treeParts", fn := fun _ => fun
  | [d1, d2] => { results := [.lit (.bool false)], args := [d1, d2] }
  | _ => none }
def TreePartsWrongFalsely : Prop := treePartsRow.holds Tryz.pinned (OpenSpec.ofChange treePartsWrong)

/-- 'maundlaw10.PackLists': WHATEVER THE INPUT: true; the input reads as it did. -/
def packListsSpec : ChangeSpec := { name := "packLists", fn := fun _ => fun
  | [d1, d2] => { results := [.lit (.bool true)], args := [d1, d2] }
  | _ => none }
def packListsRow : OpenClaim := { program := "ytlaeldgebecppaagreat", sum := "2480d372eae107f8c8e6d76a36e13a0acdb6653db60091755fa57a3d92e0166d", func := "maund/maundlaw10.PackLists", spec := "packLists", inPlace := ["slices.overlaps[maund/pack.Keyed]"], unfollowed := true, recurses := true, apart := false }
def PackListsSaid : Prop := packListsRow.holds Tryz.pinned (OpenSpec.ofChange packListsSpec)

/-- ITS FALSE NEIGHBOUR: 'it returns false'. Refute it at one input. -/
def packListsWrong : ChangeSpec := { name := "packLists", fn := fun _ => fun
  | [d1, d2] => { results := [.lit (.bool false)], args := [d1, d2] }
  | _ => none }
def PackListsWrongFalsely : Prop := packListsRow.holds Tryz.pinned (OpenSpec.ofChange packListsWrong)

/-- 'maundlaw26.ProtoTells': WHATEVER THE INPUT: true; the input reads as it did. -/
def protoTellsSpec : ChangeSpec := { name := "protoTells", fn := fun _ => fun
  | [d1, d2, d3] => { results := [.lit (.bool true)], args := [d1, d2, d3] }
  | _ => none }
def protoTellsRow : OpenClaim := { program := "ytlaeldgebecppaagreat", sum := "2480d372eae107f8c8e6d76a36e13a0acdb6653db60091755fa57a3d92e0166d", func := "maund/maundlaw26.ProtoTells", spec := "protoTells", unfollowed := true, recurses := true, apart := false }
def ProtoTellsSaid : Prop := protoTellsRow.holds Tryz.pinned (OpenSpec.ofChange protoTellsSpec)

/-- ITS FALSE NEIGHBOUR: 'it returns false'. Refute it at one input. -/
def protoTellsWrong : ChangeSpec := { name := "protoTells", fn := fun _ => fun
  | [d1, d2, d3] => { results := [.lit (.bool false)], args := [d1, d2, d3] }
  | _ => none }
def ProtoTellsWrongFalsely : Prop := protoTellsRow.holds Tryz.pinned (OpenSpec.ofChange protoTellsWrong)

/-- 'maundlaw26.ProtoBack': WHATEVER THE INPUT: true; the input reads as it did. -/
def protoBackSpec : ChangeSpec := { name := "protoBack", fn := fun _ => fun
  | [d1, d2, d3, d4] => { results := [.lit (.bool true)], args := [d1, d2, d3, d4] }
  | _ => none }
def protoBackRow : OpenClaim := { program := "ytlaeldgebecppaagreat", sum := "2480d372eae107f8c8e6d76a36e13a0acdb6653db60091755fa57a3d92e0166d", func := "maund/maundlaw26.ProtoBack", spec := "protoBack", unfollowed := true, recurses := true, apart := false }
def ProtoBackSaid : Prop := protoBackRow.holds Tryz.pinned (OpenSpec.ofChange protoBackSpec)

/-- ITS FALSE NEIGHBOUR: 'it returns false'. Refute it at one input. -/
def protoBackWrong : ChangeSpec := { name := "protoBack", fn := fun _ => fun
  | [d1, d2, d3, d4] => { results := [.lit (.bool false)], args := [d1, d2, d3, d4] }
  | _ => none }
def ProtoBackWrongFalsely : Prop := protoBackRow.holds Tryz.pinned (OpenSpec.ofChange protoBackWrong)

/-- 'maundlaw30.InputTells': WHATEVER THE INPUT: true; the input reads as it did. -/
def inputTellsSpec : ChangeSpec := { name := "inputTells", fn := fun _ => fun
  | [d1, d2, d3] => { results := [.lit (.bool true)], args := [d1, d2, d3] }
  | _ => none }
def inputTellsRow : OpenClaim := { program := "ytlaeldgebecppaagreat", sum := "2480d372eae107f8c8e6d76a36e13a0acdb6653db60091755fa57a3d92e0166d", func := "maund/maundlaw30.InputTells", spec := "inputTells", unfollowed := true, recurses := true, apart := false }
def InputTellsSaid : Prop := inputTellsRow.holds Tryz.pinned (OpenSpec.ofChange inputTellsSpec)

/-- ITS FALSE NEIGHBOUR: 'it returns false'. Refute it at one input. -/
def inputTellsWrong : ChangeSpec := { name := "inputTells", fn := fun _ => fun
  | [d1, d2, d3] => { results := [.lit (.bool false)], args := [d1, d2, d3] }
  | _ => none }
def InputTellsWrongFalsely : Prop := inputTellsRow.holds Tryz.pinned (OpenSpec.ofChange inputTellsWrong)

/-- 'maundlaw30.InputBack': WHATEVER THE INPUT: true; the input reads as it did. -/
def inputBackSpec : ChangeSpec := { name := "inputBack", fn := fun _ => fun
  | [d1, d2, d3] => { results := [.lit (.bool true)], args := [d1, d2, d3] }
  | _ => none }
def inputBackRow : OpenClaim := { program := "ytlaeldgebecppaagreat", sum := "2480d372eae107f8c8e6d76a36e13a0acdb6653db60091755fa57a3d92e0166d", func := "maund/maundlaw30.InputBack", spec := "inputBack", unfollowed := true, recurses := true, apart := false }
def InputBackSaid : Prop := inputBackRow.holds Tryz.pinned (OpenSpec.ofChange inputBackSpec)

/-- ITS FALSE NEIGHBOUR: 'it returns false'. Refute it at one input. -/
def inputBackWrong : ChangeSpec := { name := "inputBack", fn := fun _ => fun
  | [d1, d2, d3] => { results := [.lit (.bool false)], args := [d1, d2, d3] }
  | _ => none }
def InputBackWrongFalsely : Prop := inputBackRow.holds Tryz.pinned (OpenSpec.ofChange inputBackWrong)

/- THE SECOND FORM. 'bulk': how many values and letters a reading holds, each counted each time it is reached (what is shared counts as often as it is met; a slice's spare places count too). A statement '..UptoSaid' is the law's where the arguments, and the package variables that the reading takes, are together of bulk at most 1048576: NARROWER than '..Said'. Prove '..Said' where nothing that the law and all that it calls make is longer than what came in: it says more and counts as full. Else prove '..UptoSaid'. A law counts once. -/
mutual
def uptoBulk {H : Type} : DataW H → Nat
  | .lit (.string bytes) => bytes.length + 1
  | .lit _ => 1
  | .nil => 1
  | .ptr d => uptoBulk d + 1
  | .slice elems spare => uptoBulkAll elems + uptoBulkAll spare + 1
  | .agg parts => uptoBulkAll parts + 1
  | .iface _ d => uptoBulk d + 1
  | .map entries => uptoBulkEntries entries + 1
  | .held _ => 1
def uptoBulkAll {H : Type} : List (DataW H) → Nat
  | [] => 0
  | d :: r => uptoBulk d + uptoBulkAll r
def uptoBulkEntries {H : Type} : List (Lit × DataW H) → Nat
  | [] => 0
  | x :: r => uptoBulkEntry x + uptoBulkEntries r
def uptoBulkEntry {H : Type} : Lit × DataW H → Nat
  | (.string bytes, d) => bytes.length + uptoBulk d + 1
  | (_, d) => uptoBulk d + 1
 end
def uptoSmall : (H : Type) → List (DataW H) → Bool := fun _ ds => decide (uptoBulkAll ds ≤ 1048576)
def OpenSpec.upto (s : _root_.Go.ChangeSpec) : _root_.Go.OpenSpec := { _root_.Go.OpenSpec.ofChange s with cond := some uptoSmall }

/-- 'maundlaw19.BucketTells', WHERE WHAT IT READS IS OF BULK AT MOST 1048576: true; the input reads as it did. -/
def bucketTellsUptoRow : OpenClaim := { program := "ytlaeldgebecppaagreat", sum := "2480d372eae107f8c8e6d76a36e13a0acdb6653db60091755fa57a3d92e0166d", func := "maund/maundlaw19.BucketTells", spec := "bucketTells", unfollowed := true, recurses := true, apart := false, narrowed := true }
def BucketTellsUptoSaid : Prop := bucketTellsUptoRow.holds Tryz.pinned (OpenSpec.upto bucketTellsSpec)

/-- 'maundlaw20.TreeParts', WHERE WHAT IT READS IS OF BULK AT MOST 1048576: true; the input reads as it did. -/
def treePartsUptoRow : OpenClaim := { program := "ytlaeldgebecppaagreat", sum := "2480d372eae107f8c8e6d76a36e13a0acdb6653db60091755fa57a3d92e0166d", func := "maund/maundlaw20.TreeParts", spec := "treeParts", unfollowed := true, recurses := true, apart := false, narrowed := true }
def TreePartsUptoSaid : Prop := treePartsUptoRow.holds Tryz.pinned (OpenSpec.upto treePartsSpec)

/-- 'maundlaw10.PackLists', WHERE WHAT IT READS IS OF BULK AT MOST 1048576: true; the input reads as it did. -/
def packListsUptoRow : OpenClaim := { program := "ytlaeldgebecppaagreat", sum := "2480d372eae107f8c8e6d76a36e13a0acdb6653db60091755fa57a3d92e0166d", func := "maund/maundlaw10.PackLists", spec := "packLists", inPlace := ["slices.overlaps[maund/pack.Keyed]"], unfollowed := true, recurses := true, apart := false, narrowed := true }
def PackListsUptoSaid : Prop := packListsUptoRow.holds Tryz.pinned (OpenSpec.upto packListsSpec)

/-- 'maundlaw26.ProtoTells', WHERE WHAT IT READS IS OF BULK AT MOST 1048576: true; the input reads as it did. -/
def protoTellsUptoRow : OpenClaim := { program := "ytlaeldgebecppaagreat", sum := "2480d372eae107f8c8e6d76a36e13a0acdb6653db60091755fa57a3d92e0166d", func := "maund/maundlaw26.ProtoTells", spec := "protoTells", unfollowed := true, recurses := true, apart := false, narrowed := true }
def ProtoTellsUptoSaid : Prop := protoTellsUptoRow.holds Tryz.pinned (OpenSpec.upto protoTellsSpec)

/-- 'maundlaw26.ProtoBack', WHERE WHAT IT READS IS OF BULK AT MOST 1048576: true; the input reads as it did. -/
def protoBackUptoRow : OpenClaim := { program := "ytlaeldgebecppaagreat", sum := "2480d372eae107f8c8e6d76a36e13a0acdb6653db60091755fa57a3d92e0166d", func := "maund/maundlaw26.ProtoBack", spec := "protoBack", unfollowed := true, recurses := true, apart := false, narrowed := true }
def ProtoBackUptoSaid : Prop := protoBackUptoRow.holds Tryz.pinned (OpenSpec.upto protoBackSpec)

/-- 'maundlaw30.InputTells', WHERE WHAT IT READS IS OF BULK AT MOST 1048576: true; the input reads as it did. -/
def inputTellsUptoRow : OpenClaim := { program := "ytlaeldgebecppaagreat", sum := "2480d372eae107f8c8e6d76a36e13a0acdb6653db60091755fa57a3d92e0166d", func := "maund/maundlaw30.InputTells", spec := "inputTells", unfollowed := true, recurses := true, apart := false, narrowed := true }
def InputTellsUptoSaid : Prop := inputTellsUptoRow.holds Tryz.pinned (OpenSpec.upto inputTellsSpec)

/-- 'maundlaw30.InputBack', WHERE WHAT IT READS IS OF BULK AT MOST 1048576: true; the input reads as it did. -/
def inputBackUptoRow : OpenClaim := { program := "ytlaeldgebecppaagreat", sum := "2480d372eae107f8c8e6d76a36e13a0acdb6653db60091755fa57a3d92e0166d", func := "maund/maundlaw30.InputBack", spec := "inputBack", unfollowed := true, recurses := true, apart := false, narrowed := true }
def InputBackUptoSaid : Prop := inputBackUptoRow.holds Tryz.pinned (OpenSpec.upto inputBackSpec)

end Rows
end Go.Proofs.YtlaeldgebecppaaGreat
