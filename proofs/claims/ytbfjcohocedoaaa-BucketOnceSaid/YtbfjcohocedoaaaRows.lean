/-
  No cell of these rows narrows 'for every input' (looked for: loops, veiled, ifaces, maps, wideKeys, modest, calm, conditions, laid).
  DERIVED. THE GIVEN ROWS OF THIS SEAT. 5 by the template 'for every input the law returns true; each argument reads behind the call as it read before'; 0 by the template 'total and deterministic' (their statements: YtbfjcohocedoaaaTotals.lean).
  GIVEN WITH THE SEED: the statements are not yours to turn. If you find one false, say at which input.
  Laid BY PROGRAM, IN A SANDBOX (cutbox-rows.mjs): the forced cells as the released guide's own fill.sh prints them over the translation 336c72d82853411c… (all of the seat's roots in one cut). By AI agents, Wed Nov 11 2026. No macro, syntax, notation, axiom, sorry.
-/
import Derived.Test.YtbfjcohocedoaaaChecked
import GoSem.Claim
import GoSem.ClaimJoined
import GoSem.ClaimMapViews
import Derived.JoinedTies
import Derived.KernelRfl
namespace Go.Proofs.Ytbfjcohocedoaaa
/- THE CELL 'sum', in the pinned program and in every row, IS THE sha256 OF THE DUMP (.gsa) THAT YtbfjcohocedoaaaProg.lean LOADS. Nothing in Lean hashes anything: it is a label: what it is worth is what the hold of that sum in a sandbox is worth. -/
noncomputable def Try.pinned : Pinned := { name := "ytbfjcohocedoaaa", sum := "336c72d82853411c65ca302fbd93458426c575401541005bc7cf531c6ecff86c", checked := Try.checked }
namespace Rows
def none {H : Type} : Left H := { results := [], args := [] }

/-- 'maundlaw19.BucketSame': WHATEVER THE INPUT: true; the input reads as it did. -/
def bucketSameSpec : ChangeSpec := { name := "bucketSame", fn := fun _ => fun
  | [d1, d2] => { results := [.lit (.bool true)], args := [d1, d2] }
  | _ => none }
def bucketSameRow : OpenClaim := { program := "ytbfjcohocedoaaa", sum := "336c72d82853411c65ca302fbd93458426c575401541005bc7cf531c6ecff86c", func := "maund/maundlaw19.BucketSame", spec := "bucketSame", unfollowed := true, recurses := true, apart := false }
def BucketSameSaid : Prop := bucketSameRow.holds Try.pinned (OpenSpec.ofChange bucketSameSpec)

/-- ITS FALSE NEIGHBOUR: 'it returns false'. Refute it at one input. -/
def bucketSameWrong : ChangeSpec := { name := "bucketSame", fn := fun _ => fun
  | [d1, d2] => { results := [.lit (.bool false)], args := [d1, d2] }
  | _ => none }
def BucketSameWrongFalsely : Prop := bucketSameRow.holds Try.pinned (OpenSpec.ofChange bucketSameWrong)

/-- 'maundlaw19.BucketOnce': WHATEVER THE INPUT: true; the input reads as it did. -/
def bucketOnceSpec : ChangeSpec := { name := "bucketOnce", fn := fun _ => fun
  | [d] => { results := [.lit (.bool true)], args := [d] }
  | _ => none }
def bucketOnceRow : OpenClaim := { program := "ytbfjcohocedoaaa", sum := "336c72d82853411c65ca302fbd93458426c575401541005bc7cf531c6ecff86c", func := "maund/maundlaw19.BucketOnce", spec := "bucketOnce", unfollowed := true, recurses := true, apart := false }
def BucketOnceSaid : Prop := bucketOnceRow.holds Try.pinned (OpenSpec.ofChange bucketOnceSpec)

/-- ITS FALSE NEIGHBOUR: 'it returns false'. Refute it at one input. -/
def bucketOnceWrong : ChangeSpec := { name := "bucketOnce", fn := fun _ => fun
  | [d] => { results := [.lit (.bool false)], args := [d] }
  | _ => none }
def BucketOnceWrongFalsely : Prop := bucketOnceRow.holds Try.pinned (OpenSpec.ofChange bucketOnceWrong)

/-- 'maundlaw10.PackBack': WHATEVER THE INPUT: true; the input reads as it did. -/
def packBackSpec : ChangeSpec := { name := "packBack", fn := fun _ => fun
  | [d1, d2, d3] => { results := [.lit (.bool true)], args := [d1, d2, d3] }
  | _ => none }
def packBackRow : OpenClaim := { program := "ytbfjcohocedoaaa", sum := "336c72d82853411c65ca302fbd93458426c575401541005bc7cf531c6ecff86c", func := "maund/maundlaw10.PackBack", spec := "packBack", inPlace := ["slices.overlaps[maund/pack.Keyed]"], unfollowed := true, recurses := true, apart := false }
def PackBackSaid : Prop := packBackRow.holds Try.pinned (OpenSpec.ofChange packBackSpec)

/-- ITS FALSE NEIGHBOUR: 'it returns false'. Refute it at one input. -/
def packBackWrong : ChangeSpec := { name := "packBack", fn := fun _ => fun
  | [d1, d2, d3] => { results := [.lit (.bool false)], args := [d1, d2, d3] }
  | _ => none }
def PackBackWrongFalsely : Prop := packBackRow.holds Try.pinned (OpenSpec.ofChange packBackWrong)

/-- 'maundlaw10.PackWith': WHATEVER THE INPUT: true; the input reads as it did. -/
def packWithSpec : ChangeSpec := { name := "packWith", fn := fun _ => fun
  | [d1, d2, d3, d4] => { results := [.lit (.bool true)], args := [d1, d2, d3, d4] }
  | _ => none }
def packWithRow : OpenClaim := { program := "ytbfjcohocedoaaa", sum := "336c72d82853411c65ca302fbd93458426c575401541005bc7cf531c6ecff86c", func := "maund/maundlaw10.PackWith", spec := "packWith", inPlace := ["slices.overlaps[maund/pack.Keyed]"], unfollowed := true, recurses := true, apart := false }
def PackWithSaid : Prop := packWithRow.holds Try.pinned (OpenSpec.ofChange packWithSpec)

/-- ITS FALSE NEIGHBOUR: 'it returns false'. Refute it at one input. -/
def packWithWrong : ChangeSpec := { name := "packWith", fn := fun _ => fun
  | [d1, d2, d3, d4] => { results := [.lit (.bool false)], args := [d1, d2, d3, d4] }
  | _ => none }
def PackWithWrongFalsely : Prop := packWithRow.holds Try.pinned (OpenSpec.ofChange packWithWrong)

/-- 'maundlaw19.BucketPuts': WHATEVER THE INPUT: true; the input reads as it did. -/
def bucketPutsSpec : ChangeSpec := { name := "bucketPuts", fn := fun _ => fun
  | [d1, d2, d3] => { results := [.lit (.bool true)], args := [d1, d2, d3] }
  | _ => none }
def bucketPutsRow : OpenClaim := { program := "ytbfjcohocedoaaa", sum := "336c72d82853411c65ca302fbd93458426c575401541005bc7cf531c6ecff86c", func := "maund/maundlaw19.BucketPuts", spec := "bucketPuts", inPlace := ["slices.overlaps[maund/pack.Keyed]"], unfollowed := true, recurses := true, apart := false }
def BucketPutsSaid : Prop := bucketPutsRow.holds Try.pinned (OpenSpec.ofChange bucketPutsSpec)

/-- ITS FALSE NEIGHBOUR: 'it returns false'. Refute it at one input. -/
def bucketPutsWrong : ChangeSpec := { name := "bucketPuts", fn := fun _ => fun
  | [d1, d2, d3] => { results := [.lit (.bool false)], args := [d1, d2, d3] }
  | _ => none }
def BucketPutsWrongFalsely : Prop := bucketPutsRow.holds Try.pinned (OpenSpec.ofChange bucketPutsWrong)

/- THE SECOND FORM. 'bulk': how many values and letters a reading holds, each counted each time it is reached (what is shared counts as often as it is met; a slice's spare places count too). A statement '..UptoSaid' is the law's where the arguments, and the package variables that the reading takes, are together of bulk at most 1048576: NARROWER than '..Said'. Prove '..Said' where nothing that the law and all that it calls make is longer than what came in: it says more and counts as full. Else prove '..UptoSaid'. A law counts once. -/
mutual
def uptoBulk {H : Type} : DataW H → Nat
  | .lit (.string bytes) => bytes.length + 1
  | .lit _ => 1
  | .nil => 1
  | .ptr d => uptoBulk d + 1
  | .slice elems spare => uptoBulkAll elems + uptoBulkAll spare + 1
  | .agg parts => uptoBulkAll parts + 1
  | .iface _ d => uptoBulk d + 1
  | .map entries => uptoBulkEntries entries + 1
  | .held _ => 1
def uptoBulkAll {H : Type} : List (DataW H) → Nat
  | [] => 0
  | d :: r => uptoBulk d + uptoBulkAll r
def uptoBulkEntries {H : Type} : List (Lit × DataW H) → Nat
  | [] => 0
  | x :: r => uptoBulkEntry x + uptoBulkEntries r
def uptoBulkEntry {H : Type} : Lit × DataW H → Nat
  | (.string bytes, d) => bytes.length + uptoBulk d + 1
  | (_, d) => uptoBulk d + 1
 end
def uptoSmall : (H : Type) → List (DataW H) → Bool := fun _ ds => decide (uptoBulkAll ds ≤ 1048576)
def OpenSpec.upto (s : _root_.Go.ChangeSpec) : _root_.Go.OpenSpec := { _root_.Go.OpenSpec.ofChange s with cond := some uptoSmall }

/-- 'maundlaw19.BucketSame', WHERE WHAT IT READS IS OF BULK AT MOST 1048576: true; the input reads as it did. -/
def bucketSameUptoRow : OpenClaim := { program := "ytbfjcohocedoaaa", sum := "336c72d82853411c65ca302fbd93458426c575401541005bc7cf531c6ecff86c", func := "maund/maundlaw19.BucketSame", spec := "bucketSame", unfollowed := true, recurses := true, apart := false, narrowed := true }
def BucketSameUptoSaid : Prop := bucketSameUptoRow.holds Try.pinned (OpenSpec.upto bucketSameSpec)

/-- 'maundlaw19.BucketOnce', WHERE WHAT IT READS IS OF BULK AT MOST 1048576: true; the input reads as it did. -/
def bucketOnceUptoRow : OpenClaim := { program := "ytbfjcohocedoaaa", sum := "336c72d82853411c65ca302fbd93458426c575401541005bc7cf531c6ecff86c", func := "maund/maundlaw19.BucketOnce", spec := "bucketOnce", unfollowed := true, recurses := true, apart := false, narrowed := true }
def BucketOnceUptoSaid : Prop := bucketOnceUptoRow.holds Try.pinned (OpenSpec.upto bucketOnceSpec)

/-- 'maundlaw10.PackBack', WHERE WHAT IT READS IS OF BULK AT MOST 1048576: true; the input reads as it did. -/
def packBackUptoRow : OpenClaim := { program := "ytbfjcohocedoaaa", sum := "336c72d82853411c65ca302fbd93458426c575401541005bc7cf531c6ecff86c", func := "maund/maundlaw10.PackBack", spec := "packBack", inPlace := ["slices.overlaps[maund/pack.Keyed]"], unfollowed := true, recurses := true, apart := false, narrowed := true }
def PackBackUptoSaid : Prop := packBackUptoRow.holds Try.pinned (OpenSpec.upto packBackSpec)

/-- 'maundlaw10.PackWith', WHERE WHAT IT READS IS OF BULK AT MOST 1048576: true; the input reads as it did. -/
def packWithUptoRow : OpenClaim := { program := "ytbfjcohocedoaaa", sum := "336c72d82853411c65ca302fbd93458426c575401541005bc7cf531c6ecff86c", func := "maund/maundlaw10.PackWith", spec := "packWith", inPlace := ["slices.overlaps[maund/pack.Keyed]"], unfollowed := true, recurses := true, apart := false, narrowed := true }
def PackWithUptoSaid : Prop := packWithUptoRow.holds Try.pinned (OpenSpec.upto packWithSpec)

/-- 'maundlaw19.BucketPuts', WHERE WHAT IT READS IS OF BULK AT MOST 1048576: true; the input reads as it did. -/
def bucketPutsUptoRow : OpenClaim := { program := "ytbfjcohocedoaaa", sum := "336c72d82853411c65ca302fbd93458426c575401541005bc7cf531c6ecff86c", func := "maund/maundlaw19.BucketPuts", spec := "bucketPuts", inPlace := ["slices.overlaps[maund/pack.Keyed]"], unfollowed := true, recurses := true, apart := false, narrowed := true }
def BucketPutsUptoSaid : Prop := bucketPutsUptoRow.holds Try.pinned (OpenSpec.upto bucketPutsSpec)

end Rows
end Go.Proofs.Ytbfjcohocedoaaa
