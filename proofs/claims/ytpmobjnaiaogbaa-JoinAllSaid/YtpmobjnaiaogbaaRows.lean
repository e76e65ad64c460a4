/-
  No cell of these rows narrows 'for every input' (looked for: loops, veiled, ifaces, maps, wideKeys, modest, calm, conditions, laid).
  DERIVED. THE GIVEN ROWS OF THIS SEAT. 10 by the template 'for every input the law returns true; each argument reads behind the call as it read before'; 0 by the template 'total and deterministic' (their statements: YtpmobjnaiaogbaaTotals.lean).
  GIVEN WITH THE SEED: the statements are not yours to turn. If you find one false, say at which input.
  Laid BY PROGRAM, IN A SANDBOX (cutbox-rows.mjs): the forced cells as the released guide's own fill.sh prints them over the translation 00fe4237dc8e56a7… (all of the seat's roots in one cut). By AI agents, Wed Nov 11 2026. No macro, syntax, notation, axiom, sorry.
-/
import Derived.Test.YtpmobjnaiaogbaaChecked
import GoSem.Claim
import GoSem.ClaimJoined
import GoSem.ClaimMapViews
import Derived.JoinedTies
import Derived.KernelRfl
namespace Go.Proofs.Ytpmobjnaiaogbaa
/- THE CELL 'sum', in the pinned program and in every row, IS THE sha256 OF THE DUMP (.gsa) THAT YtpmobjnaiaogbaaProg.lean LOADS. Nothing in Lean hashes anything: it is a label: what it is worth is what the hold of that sum in a sandbox is worth. -/
noncomputable def Try.pinned : Pinned := { name := "ytpmobjnaiaogbaa", sum := "00fe4237dc8e56a7eef4aa9bfc50dc2f89569834c8fa9cf4a0fe3373246b4e6d", checked := Try.checked }
namespace Rows
def none {H : Type} : Left H := { results := [], args := [] }

/-- 'maundlaw06.CartOrders': WHATEVER THE INPUT: true; the input reads as it did. -/
def cartOrdersSpec : ChangeSpec := { name := "cartOrders", fn := fun _ => fun
  | [d1, d2] => { results := [.lit (.bool true)], args := [d1, d2] }
  | _ => none }
def cartOrdersRow : OpenClaim := { program := "ytpmobjnaiaogbaa", sum := "00fe4237dc8e56a7eef4aa9bfc50dc2f89569834c8fa9cf4a0fe3373246b4e6d", func := "maund/maundlaw06.CartOrders", spec := "cartOrders", unfollowed := true, recurses := true, apart := false }
def CartOrdersSaid : Prop := cartOrdersRow.holds Try.pinned (OpenSpec.ofChange cartOrdersSpec)

/-- ITS FALSE NEIGHBOUR: 'it returns false'. Refute it at one input. -/
def cartOrdersWrong : ChangeSpec := { name := "cartOrders", fn := fun _ => fun
  | [d1, d2] => { results := [.lit (.bool false)], args := [d1, d2] }
  | _ => none }
def CartOrdersWrongFalsely : Prop := cartOrdersRow.holds Try.pinned (OpenSpec.ofChange cartOrdersWrong)

/-- 'maundlaw08.JoinAll': WHATEVER THE INPUT: true; the input reads as it did. -/
def joinAllSpec : ChangeSpec := { name := "joinAll", fn := fun _ => fun
  | [d] => { results := [.lit (.bool true)], args := [d] }
  | _ => none }
def joinAllRow : OpenClaim := { program := "ytpmobjnaiaogbaa", sum := "00fe4237dc8e56a7eef4aa9bfc50dc2f89569834c8fa9cf4a0fe3373246b4e6d", func := "maund/maundlaw08.JoinAll", spec := "joinAll", unfollowed := true, recurses := true, apart := false }
def JoinAllSaid : Prop := joinAllRow.holds Try.pinned (OpenSpec.ofChange joinAllSpec)

/-- ITS FALSE NEIGHBOUR: 'it returns false'. Refute it at one input. -/
def joinAllWrong : ChangeSpec := { name := "joinAll", fn := fun _ => fun
  | [d] => { results := [.lit (.bool false)], args := [d] }
  | _ => none }
def JoinAllWrongFalsely : Prop := joinAllRow.holds Try.pinned (OpenSpec.ofChange joinAllWrong)

/-- 'maundlaw08.JoinMany': WHATEVER THE INPUT: true; the input reads as it did. -/
def joinManySpec : ChangeSpec := { name := "joinMany", fn := fun _ => fun
  | [d1, d2] => { results := [.lit (.bool true)], args := [d1, d2] }
  | _ => none }
def joinManyRow : OpenClaim := { program := "ytpmobjnaiaogbaa", sum := "00fe4237dc8e56a7eef4aa9bfc50dc2f89569834c8fa9cf4a0fe3373246b4e6d", func := "maund/maundlaw08.JoinMany", spec := "joinMany", unfollowed := true, recurses := true, apart := false }
def JoinManySaid : Prop := joinManyRow.holds Try.pinned (OpenSpec.ofChange joinManySpec)

/-- ITS FALSE NEIGHBOUR: 'it returns false'. Refute it at one input. -/
def joinManyWrong : ChangeSpec := { name := "joinMany", fn := fun _ => fun
  | [d1, d2] => { results := [.lit (.bool false)], args := [d1, d2] }
  | _ => none }
def JoinManyWrongFalsely : Prop := joinManyRow.holds Try.pinned (OpenSpec.ofChange joinManyWrong)

/-- 'maundlaw08.JoinLattice': WHATEVER THE INPUT: true; the input reads as it did. -/
def joinLatticeSpec : ChangeSpec := { name := "joinLattice", fn := fun _ => fun
  | [d1, d2, d3] => { results := [.lit (.bool true)], args := [d1, d2, d3] }
  | _ => none }
def joinLatticeRow : OpenClaim := { program := "ytpmobjnaiaogbaa", sum := "00fe4237dc8e56a7eef4aa9bfc50dc2f89569834c8fa9cf4a0fe3373246b4e6d", func := "maund/maundlaw08.JoinLattice", spec := "joinLattice", unfollowed := true, recurses := true, apart := false }
def JoinLatticeSaid : Prop := joinLatticeRow.holds Try.pinned (OpenSpec.ofChange joinLatticeSpec)

/-- ITS FALSE NEIGHBOUR: 'it returns false'. Refute it at one input. -/
def joinLatticeWrong : ChangeSpec := { name := "joinLattice", fn := fun _ => fun
  | [d1, d2, d3] => { results := [.lit (.bool false)], args := [d1, d2, d3] }
  | _ => none }
def JoinLatticeWrongFalsely : Prop := joinLatticeRow.holds Try.pinned (OpenSpec.ofChange joinLatticeWrong)

/-- 'maundlaw08.JoinOff': WHATEVER THE INPUT: true; the input reads as it did. -/
def joinOffSpec : ChangeSpec := { name := "joinOff", fn := fun _ => fun
  | [d1, d2, d3] => { results := [.lit (.bool true)], args := [d1, d2, d3] }
  | _ => none }
def joinOffRow : OpenClaim := { program := "ytpmobjnaiaogbaa", sum := "00fe4237dc8e56a7eef4aa9bfc50dc2f89569834c8fa9cf4a0fe3373246b4e6d", func := "maund/maundlaw08.JoinOff", spec := "joinOff", unfollowed := true, recurses := true, apart := false }
def JoinOffSaid : Prop := joinOffRow.holds Try.pinned (OpenSpec.ofChange joinOffSpec)

/-- ITS FALSE NEIGHBOUR: 'it returns false'. Refute it at one input. -/
def joinOffWrong : ChangeSpec := { name := "joinOff", fn := fun _ => fun
  | [d1, d2, d3] => { results := [.lit (.bool false)], args := [d1, d2, d3] }
  | _ => none }
def JoinOffWrongFalsely : Prop := joinOffRow.holds Try.pinned (OpenSpec.ofChange joinOffWrong)

/-- 'maundlaw07.EditDots': WHATEVER THE INPUT: true; the input reads as it did. -/
def editDotsSpec : ChangeSpec := { name := "editDots", fn := fun _ => fun
  | [d1, d2, d3] => { results := [.lit (.bool true)], args := [d1, d2, d3] }
  | _ => none }
def editDotsRow : OpenClaim := { program := "ytpmobjnaiaogbaa", sum := "00fe4237dc8e56a7eef4aa9bfc50dc2f89569834c8fa9cf4a0fe3373246b4e6d", func := "maund/maundlaw07.EditDots", spec := "editDots", unfollowed := true, recurses := true, apart := false }
def EditDotsSaid : Prop := editDotsRow.holds Try.pinned (OpenSpec.ofChange editDotsSpec)

/-- ITS FALSE NEIGHBOUR: 'it returns false'. Refute it at one input. -/
def editDotsWrong : ChangeSpec := { name := "editDots", fn := fun _ => fun
  | [d1, d2, d3] => { results := [.lit (.bool false)], args := [d1, d2, d3] }
  | _ => none }
def EditDotsWrongFalsely : Prop := editDotsRow.holds Try.pinned (OpenSpec.ofChange editDotsWrong)

/-- 'maundlaw07.EditSays': WHATEVER THE INPUT: true; the input reads as it did. -/
def editSaysSpec : ChangeSpec := { name := "editSays", fn := fun _ => fun
  | [d1, d2, d3, d4] => { results := [.lit (.bool true)], args := [d1, d2, d3, d4] }
  | _ => none }
def editSaysRow : OpenClaim := { program := "ytpmobjnaiaogbaa", sum := "00fe4237dc8e56a7eef4aa9bfc50dc2f89569834c8fa9cf4a0fe3373246b4e6d", func := "maund/maundlaw07.EditSays", spec := "editSays", unfollowed := true, recurses := true, apart := false }
def EditSaysSaid : Prop := editSaysRow.holds Try.pinned (OpenSpec.ofChange editSaysSpec)

/-- ITS FALSE NEIGHBOUR: 'it returns false'. Refute it at one input. -/
def editSaysWrong : ChangeSpec := { name := "editSays", fn := fun _ => fun
  | [d1, d2, d3, d4] => { results := [.lit (.bool false)], args := [d1, d2, d3, d4] }
  | _ => none }
def EditSaysWrongFalsely : Prop := editSaysRow.holds Try.pinned (OpenSpec.ofChange editSaysWrong)

/-- 'maundlaw04.DotsSets': WHATEVER THE INPUT: true; the input reads as it did. -/
def dotsSetsSpec : ChangeSpec := { name := "dotsSets", fn := fun _ => fun
  | [d1, d2, d3] => { results := [.lit (.bool true)], args := [d1, d2, d3] }
  | _ => none }
def dotsSetsRow : OpenClaim := { program := "ytpmobjnaiaogbaa", sum := "00fe4237dc8e56a7eef4aa9bfc50dc2f89569834c8fa9cf4a0fe3373246b4e6d", func := "maund/maundlaw04.DotsSets", spec := "dotsSets", unfollowed := true, recurses := true, apart := false }
def DotsSetsSaid : Prop := dotsSetsRow.holds Try.pinned (OpenSpec.ofChange dotsSetsSpec)

/-- ITS FALSE NEIGHBOUR: 'it returns false'. Refute it at one input. -/
def dotsSetsWrong : ChangeSpec := { name := "dotsSets", fn := fun _ => fun
  | [d1, d2, d3] => { results := [.lit (.bool false)], args := [d1, d2, d3] }
  | _ => none }
def DotsSetsWrongFalsely : Prop := dotsSetsRow.holds Try.pinned (OpenSpec.ofChange dotsSetsWrong)

/-- 'maundlaw04.DotsWhole': WHATEVER THE INPUT: true; the input reads as it did. -/
def dotsWholeSpec : ChangeSpec := { name := "dotsWhole", fn := fun _ => fun
  | [d1, d2] => { results := [.lit (.bool true)], args := [d1, d2] }
  | _ => none }
def dotsWholeRow : OpenClaim := { program := "ytpmobjnaiaogbaa", sum := "00fe4237dc8e56a7eef4aa9bfc50dc2f89569834c8fa9cf4a0fe3373246b4e6d", func := "maund/maundlaw04.DotsWhole", spec := "dotsWhole", unfollowed := true, recurses := true, apart := false }
def DotsWholeSaid : Prop := dotsWholeRow.holds Try.pinned (OpenSpec.ofChange dotsWholeSpec)

/-- ITS FALSE NEIGHBOUR: 'it returns false'. Refute it at one input. -/
def dotsWholeWrong : ChangeSpec := { name := "dotsWhole", fn := fun _ => fun
  | [d1, d2] => { results := [.lit (.bool false)], args := [d1, d2] }
  | _ => none }
def DotsWholeWrongFalsely : Prop := dotsWholeRow.holds Try.pinned (OpenSpec.ofChange dotsWholeWrong)

/-- 'maundlaw08.JoinEdits': WHATEVER THE INPUT: true; the input reads as it did. -/
def joinEditsSpec : ChangeSpec := { name := "joinEdits", fn := fun _ => fun
  | [d1, d2, d3, d4] => { results := [.lit (.bool true)], args := [d1, d2, d3, d4] }
  | _ => none }
def joinEditsRow : OpenClaim := { program := "ytpmobjnaiaogbaa", sum := "00fe4237dc8e56a7eef4aa9bfc50dc2f89569834c8fa9cf4a0fe3373246b4e6d", func := "maund/maundlaw08.JoinEdits", spec := "joinEdits", unfollowed := true, recurses := true, apart := false }
def JoinEditsSaid : Prop := joinEditsRow.holds Try.pinned (OpenSpec.ofChange joinEditsSpec)

/-- ITS FALSE NEIGHBOUR: 'it returns false'. Refute it at one input. -/
def joinEditsWrong : ChangeSpec := { name := "joinEdits", fn := fun _ => fun
  | [d1, d2, d3, d4] => { results := [.lit (.bool false)], args := [d1, d2, d3, d4] }
  | _ => none }
def JoinEditsWrongFalsely : Prop := joinEditsRow.holds Try.pinned (OpenSpec.ofChange joinEditsWrong)

/- THE SECOND FORM. 'bulk': how many values and letters a reading holds, each counted each time it is reached (what is shared counts as often as it is met; a slice's spare places count too). A statement '..UptoSaid' is the law's where the arguments, and the package variables that the reading takes, are together of bulk at most 1048576: NARROWER than '..Said'. Prove '..Said' where nothing that the law and all that it calls make is longer than what came in: it says more and counts as full. Else prove '..UptoSaid'. A law counts once. -/
mutual
def uptoBulk {H : Type} : DataW H → Nat
  | .lit (.string bytes) => bytes.length + 1
  | .lit _ => 1
  | .nil => 1
  | .ptr d => uptoBulk d + 1
  | .slice elems spare => uptoBulkAll elems + uptoBulkAll spare + 1
  | .agg parts => uptoBulkAll parts + 1
  | .iface _ d => uptoBulk d + 1
  | .map entries => uptoBulkEntries entries + 1
  | .held _ => 1
def uptoBulkAll {H : Type} : List (DataW H) → Nat
  | [] => 0
  | d :: r => uptoBulk d + uptoBulkAll r
def uptoBulkEntries {H : Type} : List (Lit × DataW H) → Nat
  | [] => 0
  | x :: r => uptoBulkEntry x + uptoBulkEntries r
def uptoBulkEntry {H : Type} : Lit × DataW H → Nat
  | (.string bytes, d) => bytes.length + uptoBulk d + 1
  | (_, d) => uptoBulk d + 1
 end
def uptoSmall : (H : Type) → List (DataW H) → Bool := fun _ ds => decide (uptoBulkAll ds ≤ 1048576)
def OpenSpec.upto (s : _root_.Go.ChangeSpec) : _root_.Go.OpenSpec := { _root_.Go.OpenSpec.ofChange s with cond := some uptoSmall }

/-- 'maundlaw06.CartOrders', WHERE WHAT IT READS IS OF BULK AT MOST 1048576: true; the input reads as it did. -/
def cartOrdersUptoRow : OpenClaim := { program := "ytpmobjnaiaogbaa", sum := "00fe4237dc8e56a7eef4aa9bfc50dc2f89569834c8fa9cf4a0fe3373246b4e6d", func := "maund/maundlaw06.CartOrders", spec := "cartOrders", unfollowed := true, recurses := true, apart := false, narrowed := true }
def CartOrdersUptoSaid : Prop := cartOrdersUptoRow.holds Try.pinned (OpenSpec.upto cartOrdersSpec)

/-- 'maundlaw08.JoinAll', WHERE WHAT IT READS IS OF BULK AT MOST 1048576: true; the input reads as it did. -/
def joinAllUptoRow : OpenClaim := { program := "ytpmobjnaiaogbaa", sum := "00fe4237dc8e56a7eef4aa9bfc50dc2f89569834c8fa9cf4a0fe3373246b4e6d", func := "maund/maundlaw08.JoinAll", spec := "joinAll", unfollowed := true, recurses := true, apart := false, narrowed := true }
def JoinAllUptoSaid : Prop := joinAllUptoRow.holds Try.pinned (OpenSpec.upto joinAllSpec)

/-- 'maundlaw08.JoinMany', WHERE WHAT IT READS IS OF BULK AT MOST 1048576: true; the input reads as it did. -/
def joinManyUptoRow : OpenClaim := { program := "ytpmobjnaiaogbaa", sum := "00fe4237dc8e56a7eef4aa9bfc50dc2f89569834c8fa9cf4a0fe3373246b4e6d", func := "maund/maundlaw08.JoinMany", spec := "joinMany", unfollowed := true, recurses := true, apart := false, narrowed := true }
def JoinManyUptoSaid : Prop := joinManyUptoRow.holds Try.pinned (OpenSpec.upto joinManySpec)

/-- 'maundlaw08.JoinLattice', WHERE WHAT IT READS IS OF BULK AT MOST 1048576: true; the input reads as it did. -/
def joinLatticeUptoRow : OpenClaim := { program := "ytpmobjnaiaogbaa", sum := "00fe4237dc8e56a7eef4aa9bfc50dc2f89569834c8fa9cf4a0fe3373246b4e6d", func := "maund/maundlaw08.JoinLattice", spec := "joinLattice", unfollowed := true, recurses := true, apart := false, narrowed := true }
def JoinLatticeUptoSaid : Prop := joinLatticeUptoRow.holds Try.pinned (OpenSpec.upto joinLatticeSpec)

/-- 'maundlaw08.JoinOff', WHERE WHAT IT READS IS OF BULK AT MOST 1048576: true; the input reads as it did. -/
def joinOffUptoRow : OpenClaim := { program := "ytpmobjnaiaogbaa", sum := "00fe4237dc8e56a7eef4aa9bfc50dc2f89569834c8fa9cf4a0fe3373246b4e6d", func := "maund/maundlaw08.JoinOff", spec := "joinOff", unfollowed := true, recurses := true, apart := false, narrowed := true }
def JoinOffUptoSaid : Prop := joinOffUptoRow.holds Try.pinned (OpenSpec.upto joinOffSpec)

/-- 'maundlaw07.EditDots', WHERE WHAT IT READS IS OF BULK AT MOST 1048576: true; the input reads as it did. -/
def editDotsUptoRow : OpenClaim := { program := "ytpmobjnaiaogbaa", sum := "00fe4237dc8e56a7eef4aa9bfc50dc2f89569834c8fa9cf4a0fe3373246b4e6d", func := "maund/maundlaw07.EditDots", spec := "editDots", unfollowed := true, recurses := true, apart := false, narrowed := true }
def EditDotsUptoSaid : Prop := editDotsUptoRow.holds Try.pinned (OpenSpec.upto editDotsSpec)

/-- 'maundlaw07.EditSays', WHERE WHAT IT READS IS OF BULK AT MOST 1048576: true; the input reads as it did. -/
def editSaysUptoRow : OpenClaim := { program := "ytpmobjnaiaogbaa", sum := "00fe4237dc8e56a7eef4aa9bfc50dc2f89569834c8fa9cf4a0fe3373246b4e6d", func := "maund/maundlaw07.EditSays", spec := "editSays", unfollowed := true, recurses := true, apart := false, narrowed := true }
def EditSaysUptoSaid : Prop := editSaysUptoRow.holds Try.pinned (OpenSpec.upto editSaysSpec)

/-- 'maundlaw04.DotsSets', WHERE WHAT IT READS IS OF BULK AT MOST 1048576: true; the input reads as it did. -/
def dotsSetsUptoRow : OpenClaim := { program := "ytpmobjnaiaogbaa", sum := "00fe4237dc8e56a7eef4aa9bfc50dc2f89569834c8fa9cf4a0fe3373246b4e6d", func := "maund/maundlaw04.DotsSets", spec := "dotsSets", unfollowed := true, recurses := true, apart := false, narrowed := true }
def DotsSetsUptoSaid : Prop := dotsSetsUptoRow.holds Try.pinned (OpenSpec.upto dotsSetsSpec)

/-- 'maundlaw04.DotsWhole', WHERE WHAT IT READS IS OF BULK AT MOST 1048576: true; the input reads as it did. -/
def dotsWholeUptoRow : OpenClaim := { program := "ytpmobjnaiaogbaa", sum := "00fe4237dc8e56a7eef4aa9bfc50dc2f89569834c8fa9cf4a0fe3373246b4e6d", func := "maund/maundlaw04.DotsWhole", spec := "dotsWhole", unfollowed := true, recurses := true, apart := false, narrowed := true }
def DotsWholeUptoSaid : Prop := dotsWholeUptoRow.holds Try.pinned (OpenSpec.upto dotsWholeSpec)

/-- 'maundlaw08.JoinEdits', WHERE WHAT IT READS IS OF BULK AT MOST 1048576: true; the input reads as it did. -/
def joinEditsUptoRow : OpenClaim := { program := "ytpmobjnaiaogbaa", sum := "00fe4237dc8e56a7eef4aa9bfc50dc2f89569834c8fa9cf4a0fe3373246b4e6d", func := "maund/maundlaw08.JoinEdits", spec := "joinEdits", unfollowed := true, recurses := true, apart := false, narrowed := true }
def JoinEditsUptoSaid : Prop := joinEditsUptoRow.holds Try.pinned (OpenSpec.upto joinEditsSpec)

end Rows
end Go.Proofs.Ytpmobjnaiaogbaa
