/-
  No cell of these rows narrows 'for every input' (looked for: loops, veiled, ifaces, maps, wideKeys, modest, calm, conditions, laid).
  DERIVED. THE GIVEN ROWS OF THIS SEAT. 11 by the template 'for every input the law returns true; each argument reads behind the call as it read before'; 0 by the template 'total and deterministic' (their statements: YtpamepepibnlfaaTotals.lean).
  GIVEN WITH THE SEED: the statements are not yours to turn. If you find one false, say at which input.
  Laid BY PROGRAM, IN A SANDBOX (cutbox-rows.mjs): the forced cells as the released guide's own fill.sh prints them over the translation 7be7d64296b347f2… (all of the seat's roots in one cut). By AI agents, Wed Nov 11 2026. No macro, syntax, notation, axiom, sorry.
-/
import Derived.Test.YtpamepepibnlfaaChecked
import GoSem.Claim
import GoSem.ClaimJoined
import GoSem.ClaimMapViews
import Derived.JoinedTies
import Derived.KernelRfl
namespace Go.Proofs.Ytpamepepibnlfaa
/- THE CELL 'sum', in the pinned program and in every row, IS THE sha256 OF THE DUMP (.gsa) THAT YtpamepepibnlfaaProg.lean LOADS. Nothing in Lean hashes anything: it is a label: what it is worth is what the hold of that sum in a sandbox is worth. -/
noncomputable def Try.pinned : Pinned := { name := "ytpamepepibnlfaa", sum := "7be7d64296b347f268e319c40a519dd7a978cb5ed5c75b2e14b569d13c0a8e09", checked := Try.checked }
namespace Rows
def none {H : Type} : Left H := { results := [], args := [] }

/-- 'maundlaw22.ClashTells': WHATEVER THE INPUT: true; the input reads as it did. -/
def clashTellsSpec : ChangeSpec := { name := "clashTells", fn := fun _ => fun
  | [d1, d2, d3] => { results := [.lit (.bool true)], args := [d1, d2, d3] }
  | _ => none }
def clashTellsRow : OpenClaim := { program := "ytpamepepibnlfaa", sum := "7be7d64296b347f268e319c40a519dd7a978cb5ed5c75b2e14b569d13c0a8e09", func := "maund/maundlaw22.ClashTells", spec := "clashTells", unfollowed := true, recurses := true, apart := false }
def ClashTellsSaid : Prop := clashTellsRow.holds Try.pinned (OpenSpec.ofChange clashTellsSpec)

/-- ITS FALSE NEIGHBOUR: 'it returns false'. Refute it at one input. -/
def clashTellsWrong : ChangeSpec := { name := "clashTells", fn := fun _ => fun
  | [d1, d2, d3] => { results := [.lit (.bool false)], args := [d1, d2, d3] }
  | _ => none }
def ClashTellsWrongFalsely : Prop := clashTellsRow.holds Try.pinned (OpenSpec.ofChange clashTellsWrong)

/-- 'maundlaw22.ClashOr': WHATEVER THE INPUT: true; the input reads as it did. -/
def clashOrSpec : ChangeSpec := { name := "clashOr", fn := fun _ => fun
  | [d1, d2] => { results := [.lit (.bool true)], args := [d1, d2] }
  | _ => none }
def clashOrRow : OpenClaim := { program := "ytpamepepibnlfaa", sum := "7be7d64296b347f268e319c40a519dd7a978cb5ed5c75b2e14b569d13c0a8e09", func := "maund/maundlaw22.ClashOr", spec := "clashOr", unfollowed := true, recurses := true, apart := false }
def ClashOrSaid : Prop := clashOrRow.holds Try.pinned (OpenSpec.ofChange clashOrSpec)

/-- ITS FALSE NEIGHBOUR: 'it returns false'. Refute it at one input. -/
def clashOrWrong : ChangeSpec := { name := "clashOr", fn := fun _ => fun
  | [d1, d2] => { results := [.lit (.bool false)], args := [d1, d2] }
  | _ => none }
def ClashOrWrongFalsely : Prop := clashOrRow.holds Try.pinned (OpenSpec.ofChange clashOrWrong)

/-- 'maundlaw22.ClashEqual': WHATEVER THE INPUT: true; the input reads as it did. -/
def clashEqualSpec : ChangeSpec := { name := "clashEqual", fn := fun _ => fun
  | [d] => { results := [.lit (.bool true)], args := [d] }
  | _ => none }
def clashEqualRow : OpenClaim := { program := "ytpamepepibnlfaa", sum := "7be7d64296b347f268e319c40a519dd7a978cb5ed5c75b2e14b569d13c0a8e09", func := "maund/maundlaw22.ClashEqual", spec := "clashEqual", unfollowed := true, recurses := true, apart := false }
def ClashEqualSaid : Prop := clashEqualRow.holds Try.pinned (OpenSpec.ofChange clashEqualSpec)

/-- ITS FALSE NEIGHBOUR: 'it returns false'. Refute it at one input. -/
def clashEqualWrong : ChangeSpec := { name := "clashEqual", fn := fun _ => fun
  | [d] => { results := [.lit (.bool false)], args := [d] }
  | _ => none }
def ClashEqualWrongFalsely : Prop := clashEqualRow.holds Try.pinned (OpenSpec.ofChange clashEqualWrong)

/-- 'maundlaw22.ClashOne': WHATEVER THE INPUT: true; the input reads as it did. -/
def clashOneSpec : ChangeSpec := { name := "clashOne", fn := fun _ => fun
  | [d1, d2, d3] => { results := [.lit (.bool true)], args := [d1, d2, d3] }
  | _ => none }
def clashOneRow : OpenClaim := { program := "ytpamepepibnlfaa", sum := "7be7d64296b347f268e319c40a519dd7a978cb5ed5c75b2e14b569d13c0a8e09", func := "maund/maundlaw22.ClashOne", spec := "clashOne", unfollowed := true, recurses := true, apart := false }
def ClashOneSaid : Prop := clashOneRow.holds Try.pinned (OpenSpec.ofChange clashOneSpec)

/-- ITS FALSE NEIGHBOUR: 'it returns false'. Refute it at one input. -/
def clashOneWrong : ChangeSpec := { name := "clashOne", fn := fun _ => fun
  | [d1, d2, d3] => { results := [.lit (.bool false)], args := [d1, d2, d3] }
  | _ => none }
def ClashOneWrongFalsely : Prop := clashOneRow.holds Try.pinned (OpenSpec.ofChange clashOneWrong)

/-- 'maundlaw06.CartMany': WHATEVER THE INPUT: true; the input reads as it did. -/
def cartManySpec : ChangeSpec := { name := "cartMany", fn := fun _ => fun
  | [d] => { results := [.lit (.bool true)], args := [d] }
  | _ => none }
def cartManyRow : OpenClaim := { program := "ytpamepepibnlfaa", sum := "7be7d64296b347f268e319c40a519dd7a978cb5ed5c75b2e14b569d13c0a8e09", func := "maund/maundlaw06.CartMany", spec := "cartMany", unfollowed := true, recurses := true, apart := false }
def CartManySaid : Prop := cartManyRow.holds Try.pinned (OpenSpec.ofChange cartManySpec)

/-- ITS FALSE NEIGHBOUR: 'it returns false'. Refute it at one input. -/
def cartManyWrong : ChangeSpec := { name := "cartMany", fn := fun _ => fun
  | [d] => { results := [.lit (.bool false)], args := [d] }
  | _ => none }
def CartManyWrongFalsely : Prop := cartManyRow.holds Try.pinned (OpenSpec.ofChange cartManyWrong)

/-- 'maundlaw06.CartValue': WHATEVER THE INPUT: true; the input reads as it did. -/
def cartValueSpec : ChangeSpec := { name := "cartValue", fn := fun _ => fun
  | [d1, d2] => { results := [.lit (.bool true)], args := [d1, d2] }
  | _ => none }
def cartValueRow : OpenClaim := { program := "ytpamepepibnlfaa", sum := "7be7d64296b347f268e319c40a519dd7a978cb5ed5c75b2e14b569d13c0a8e09", func := "maund/maundlaw06.CartValue", spec := "cartValue", unfollowed := true, recurses := true, apart := false }
def CartValueSaid : Prop := cartValueRow.holds Try.pinned (OpenSpec.ofChange cartValueSpec)

/-- ITS FALSE NEIGHBOUR: 'it returns false'. Refute it at one input. -/
def cartValueWrong : ChangeSpec := { name := "cartValue", fn := fun _ => fun
  | [d1, d2] => { results := [.lit (.bool false)], args := [d1, d2] }
  | _ => none }
def CartValueWrongFalsely : Prop := cartValueRow.holds Try.pinned (OpenSpec.ofChange cartValueWrong)

/-- 'maundlaw06.CartOrders': WHATEVER THE INPUT: true; the input reads as it did. -/
def cartOrdersSpec : ChangeSpec := { name := "cartOrders", fn := fun _ => fun
  | [d1, d2] => { results := [.lit (.bool true)], args := [d1, d2] }
  | _ => none }
def cartOrdersRow : OpenClaim := { program := "ytpamepepibnlfaa", sum := "7be7d64296b347f268e319c40a519dd7a978cb5ed5c75b2e14b569d13c0a8e09", func := "maund/maundlaw06.CartOrders", spec := "cartOrders", unfollowed := true, recurses := true, apart := false }
def CartOrdersSaid : Prop := cartOrdersRow.holds Try.pinned (OpenSpec.ofChange cartOrdersSpec)

/-- ITS FALSE NEIGHBOUR: 'it returns false'. Refute it at one input. -/
def cartOrdersWrong : ChangeSpec := { name := "cartOrders", fn := fun _ => fun
  | [d1, d2] => { results := [.lit (.bool false)], args := [d1, d2] }
  | _ => none }
def CartOrdersWrongFalsely : Prop := cartOrdersRow.holds Try.pinned (OpenSpec.ofChange cartOrdersWrong)

/-- 'maundlaw08.JoinAll': WHATEVER THE INPUT: true; the input reads as it did. -/
def joinAllSpec : ChangeSpec := { name := "joinAll", fn := fun _ => fun
  | [d] => { results := [.lit (.bool true)], args := [d] }
  | _ => none }
def joinAllRow : OpenClaim := { program := "ytpamepepibnlfaa", sum := "7be7d64296b347f268e319c40a519dd7a978cb5ed5c75b2e14b569d13c0a8e09", func := "maund/maundlaw08.JoinAll", spec := "joinAll", unfollowed := true, recurses := true, apart := false }
def JoinAllSaid : Prop := joinAllRow.holds Try.pinned (OpenSpec.ofChange joinAllSpec)

/-- ITS FALSE NEIGHBOUR: 'it returns false'. Refute it at one input. -/
def joinAllWrong : ChangeSpec := { name := "joinAll", fn := fun _ => fun
  | [d] => { results := [.lit (.bool false)], args := [d] }
  | _ => none }
def JoinAllWrongFalsely : Prop := joinAllRow.holds Try.pinned (OpenSpec.ofChange joinAllWrong)

/-- 'maundlaw08.JoinMany': WHATEVER THE INPUT: true; the input reads as it did. -/
def joinManySpec : ChangeSpec := { name := "joinMany", fn := fun _ => fun
  | [d1, d2] => { results := [.lit (.bool true)], args := [d1, d2] }
  | _ => none }
def joinManyRow : OpenClaim := { program := "ytpamepepibnlfaa", sum := "7be7d64296b347f268e319c40a519dd7a978cb5ed5c75b2e14b569d13c0a8e09", func := "maund/maundlaw08.JoinMany", spec := "joinMany", unfollowed := true, recurses := true, apart := false }
def JoinManySaid : Prop := joinManyRow.holds Try.pinned (OpenSpec.ofChange joinManySpec)

/-- ITS FALSE NEIGHBOUR: 'it returns false'. Refute it at one input. -/
def joinManyWrong : ChangeSpec := { name := "joinMany", fn := fun _ => fun
  | [d1, d2] => { results := [.lit (.bool false)], args := [d1, d2] }
  | _ => none }
def JoinManyWrongFalsely : Prop := joinManyRow.holds Try.pinned (OpenSpec.ofChange joinManyWrong)

/-- 'maundlaw08.JoinLattice': WHATEVER THE INPUT: true; the input reads as it did. -/
def joinLatticeSpec : ChangeSpec := { name := "joinLattice", fn := fun _ => fun
  | [d1, d2, d3] => { results := [.lit (.bool true)], args := [d1, d2, d3] }
  | _ => none }
def joinLatticeRow : OpenClaim := { program := "ytpamepepibnlfaa", sum := "7be7d64296b347f268e319c40a519dd7a978cb5ed5c75b2e14b569d13c0a8e09", func := "maund/maundlaw08.JoinLattice", spec := "joinLattice", unfollowed := true, recurses := true, apart := false }
def JoinLatticeSaid : Prop := joinLatticeRow.holds Try.pinned (OpenSpec.ofChange joinLatticeSpec)

/-- ITS FALSE NEIGHBOUR: 'it returns false'. Refute it at one input. -/
def joinLatticeWrong : ChangeSpec := { name := "joinLattice", fn := fun _ => fun
  | [d1, d2, d3] => { results := [.lit (.bool false)], args := [d1, d2, d3] }
  | _ => none }
def JoinLatticeWrongFalsely : Prop := joinLatticeRow.holds Try.pinned (OpenSpec.ofChange joinLatticeWrong)

/-- 'maundlaw08.JoinOff': WHATEVER THE INPUT: true; the input reads as it did. -/
def joinOffSpec : ChangeSpec := { name := "joinOff", fn := fun _ => fun
  | [d1, d2, d3] => { results := [.lit (.bool true)], args := [d1, d2, d3] }
  | _ => none }
def joinOffRow : OpenClaim := { program := "ytpamepepibnlfaa", sum := "7be7d64296b347f268e319c40a519dd7a978cb5ed5c75b2e14b569d13c0a8e09", func := "maund/maundlaw08.JoinOff", spec := "joinOff", unfollowed := true, recurses := true, apart := false }
def JoinOffSaid : Prop := joinOffRow.holds Try.pinned (OpenSpec.ofChange joinOffSpec)

/-- ITS FALSE NEIGHBOUR: 'it returns false'. Refute it at one input. -/
def joinOffWrong : ChangeSpec := { name := "joinOff", fn := fun _ => fun
  | [d1, d2, d3] => { results := [.lit (.bool false)], args := [d1, d2, d3] }
  | _ => none }
def JoinOffWrongFalsely : Prop := joinOffRow.holds Try.pinned (OpenSpec.ofChange joinOffWrong)

/- THE SECOND FORM. 'bulk': how many values and letters a reading holds, each counted each time it is reached (what is shared counts as often as it is met; a slice's spare places count too). A statement '..UptoSaid' is the law's where the arguments, and the package variables that the reading takes, are together of bulk at most 1048576: NARROWER than '..Said'. Prove '..Said' where nothing that the law and all that it calls make is longer than what came in: it says more and counts as full. Else prove '..UptoSaid'. A law counts once. -/
mutual
def uptoBulk {H : Type} : DataW H → Nat
  | .lit (.string bytes) => bytes.length + 1
  | .lit _ => 1
  | .nil => 1
  | .ptr d => uptoBulk d + 1
  | .slice elems spare => uptoBulkAll elems + uptoBulkAll spare + 1
  | .agg parts => uptoBulkAll parts + 1
  | .iface _ d => uptoBulk d + 1
  | .map entries => uptoBulkEntries entries + 1
  | .held _ => 1
def uptoBulkAll {H : Type} : List (DataW H) → Nat
  | [] => 0
  | d :: r => uptoBulk d + uptoBulkAll r
def uptoBulkEntries {H : Type} : List (Lit × DataW H) → Nat
  | [] => 0
  | x :: r => uptoBulkEntry x + uptoBulkEntries r
def uptoBulkEntry {H : Type} : Lit × DataW H → Nat
  | (.string bytes, d) => bytes.length + uptoBulk d + 1
  | (_, d) => uptoBulk d + 1
 end
def uptoSmall : (H : Type) → List (DataW H) → Bool := fun _ ds => decide (uptoBulkAll ds ≤ 1048576)
def OpenSpec.upto (s : _root_.Go.ChangeSpec) : _root_.Go.OpenSpec := { _root_.Go.OpenSpec.ofChange s with cond := some uptoSmall }

/-- 'maundlaw22.ClashTells', WHERE WHAT IT READS IS OF BULK AT MOST 1048576: true; the input reads as it did. -/
def clashTellsUptoRow : OpenClaim := { program := "ytpamepepibnlfaa", sum := "7be7d64296b347f268e319c40a519dd7a978cb5ed5c75b2e14b569d13c0a8e09", func := "maund/maundlaw22.ClashTells", spec := "clashTells", unfollowed := true, recurses := true, apart := false, narrowed := true }
def ClashTellsUptoSaid : Prop := clashTellsUptoRow.holds Try.pinned (OpenSpec.upto clashTellsSpec)

/-- 'maundlaw22.ClashOr', WHERE WHAT IT READS IS OF BULK AT MOST 1048576: true; the input reads as it did. -/
def clashOrUptoRow : OpenClaim := { program := "ytpamepepibnlfaa", sum := "7be7d64296b347f268e319c40a519dd7a978cb5ed5c75b2e14b569d13c0a8e09", func := "maund/maundlaw22.ClashOr", spec := "clashOr", unfollowed := true, recurses := true, apart := false, narrowed := true }
def ClashOrUptoSaid : Prop := clashOrUptoRow.holds Try.pinned (OpenSpec.upto clashOrSpec)

/-- 'maundlaw22.ClashEqual', WHERE WHAT IT READS IS OF BULK AT MOST 1048576: true; the input reads as it did. -/
def clashEqualUptoRow : OpenClaim := { program := "ytpamepepibnlfaa", sum := "7be7d64296b347f268e319c40a519dd7a978cb5ed5c75b2e14b569d13c0a8e09", func := "maund/maundlaw22.ClashEqual", spec := "clashEqual", unfollowed := true, recurses := true, apart := false, narrowed := true }
def ClashEqualUptoSaid : Prop := clashEqualUptoRow.holds Try.pinned (OpenSpec.upto clashEqualSpec)

/-- 'maundlaw22.ClashOne', WHERE WHAT IT READS IS OF BULK AT MOST 1048576: true; the input reads as it did. -/
def clashOneUptoRow : OpenClaim := { program := "ytpamepepibnlfaa", sum := "7be7d64296b347f268e319c40a519dd7a978cb5ed5c75b2e14b569d13c0a8e09", func := "maund/maundlaw22.ClashOne", spec := "clashOne", unfollowed := true, recurses := true, apart := false, narrowed := true }
def ClashOneUptoSaid : Prop := clashOneUptoRow.holds Try.pinned (OpenSpec.upto clashOneSpec)

/-- 'maundlaw06.CartMany', WHERE WHAT IT READS IS OF BULK AT MOST 1048576: true; the input reads as it did. -/
def cartManyUptoRow : OpenClaim := { program := "ytpamepepibnlfaa", sum := "7be7d64296b347f268e319c40a519dd7a978cb5ed5c75b2e14b569d13c0a8e09", func := "maund/maundlaw06.CartMany", spec := "cartMany", unfollowed := true, recurses := true, apart := false, narrowed := true }
def CartManyUptoSaid : Prop := cartManyUptoRow.holds Try.pinned (OpenSpec.upto cartManySpec)

/-- 'maundlaw06.CartValue', WHERE WHAT IT READS IS OF BULK AT MOST 1048576: true; the input reads as it did. -/
def cartValueUptoRow : OpenClaim := { program := "ytpamepepibnlfaa", sum := "7be7d64296b347f268e319c40a519dd7a978cb5ed5c75b2e14b569d13c0a8e09", func := "maund/maundlaw06.CartValue", spec := "cartValue", unfollowed := true, recurses := true, apart := false, narrowed := true }
def CartValueUptoSaid : Prop := cartValueUptoRow.holds Try.pinned (OpenSpec.upto cartValueSpec)

/-- 'maundlaw06.CartOrders', WHERE WHAT IT READS IS OF BULK AT MOST 1048576: true; the input reads as it did. -/
def cartOrdersUptoRow : OpenClaim := { program := "ytpamepepibnlfaa", sum := "7be7d64296b347f268e319c40a519dd7a978cb5ed5c75b2e14b569d13c0a8e09", func := "maund/maundlaw06.CartOrders", spec := "cartOrders", unfollowed := true, recurses := true, apart := false, narrowed := true }
def CartOrdersUptoSaid : Prop := cartOrdersUptoRow.holds Try.pinned (OpenSpec.upto cartOrdersSpec)

/-- 'maundlaw08.JoinAll', WHERE WHAT IT READS IS OF BULK AT MOST 1048576: true; the input reads as it did. -/
def joinAllUptoRow : OpenClaim := { program := "ytpamepepibnlfaa", sum := "7be7d64296b347f268e319c40a519dd7a978cb5ed5c75b2e14b569d13c0a8e09", func := "maund/maundlaw08.JoinAll", spec := "joinAll", unfollowed := true, recurses := true, apart := false, narrowed := true }
def JoinAllUptoSaid : Prop := joinAllUptoRow.holds Try.pinned (OpenSpec.upto joinAllSpec)

/-- 'maundlaw08.JoinMany', WHERE WHAT IT READS IS OF BULK AT MOST 1048576: true; the input reads as it did. -/
def joinManyUptoRow : OpenClaim := { program := "ytpamepepibnlfaa", sum := "7be7d64296b347f268e319c40a519dd7a978cb5ed5c75b2e14b569d13c0a8e09", func := "maund/maundlaw08.JoinMany", spec := "joinMany", unfollowed := true, recurses := true, apart := false, narrowed := true }
def JoinManyUptoSaid : Prop := joinManyUptoRow.holds Try.pinned (OpenSpec.upto joinManySpec)

/-- 'maundlaw08.JoinLattice', WHERE WHAT IT READS IS OF BULK AT MOST 1048576: true; the input reads as it did. -/
def joinLatticeUptoRow : OpenClaim := { program := "ytpamepepibnlfaa", sum := "7be7d64296b347f268e319c40a519dd7a978cb5ed5c75b2e14b569d13c0a8e09", func := "maund/maundlaw08.JoinLattice", spec := "joinLattice", unfollowed := true, recurses := true, apart := false, narrowed := true }
def JoinLatticeUptoSaid : Prop := joinLatticeUptoRow.holds Try.pinned (OpenSpec.upto joinLatticeSpec)

/-- 'maundlaw08.JoinOff', WHERE WHAT IT READS IS OF BULK AT MOST 1048576: true; the input reads as it did. -/
def joinOffUptoRow : OpenClaim := { program := "ytpamepepibnlfaa", sum := "7be7d64296b347f268e319c40a519dd7a978cb5ed5c75b2e14b569d13c0a8e09", func := "maund/maundlaw08.JoinOff", spec := "joinOff", unfollowed := true, recurses := true, apart := false, narrowed := true }
def JoinOffUptoSaid : Prop := joinOffUptoRow.holds Try.pinned (OpenSpec.upto joinOffSpec)

end Rows
end Go.Proofs.Ytpamepepibnlfaa
