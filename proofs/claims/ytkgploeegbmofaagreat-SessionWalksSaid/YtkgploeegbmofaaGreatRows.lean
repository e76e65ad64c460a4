/-
  No cell of these rows narrows 'for every input' (looked for: loops, veiled, ifaces, maps, wideKeys, modest, calm, conditions, laid).
  DERIVED. THE GIVEN ROWS OF THIS SEAT. 4 by the template 'for every input the law returns true; each argument reads behind the call as it read before'; 0 by the template 'total and deterministic' (their statements: YtkgploeegbmofaaGreatTotals.lean).
  GIVEN WITH THE SEED: the statements are not yours to turn. If you find one false, say at which input.
  Laid BY PROGRAM, IN A SANDBOX (cutbox-rows.mjs): the forced cells as the released guide's own fill.sh prints them over the translation 5be5949d3427eb8d… (all of the seat's roots in one cut). By AI agents, Wed Nov 11 2026. No macro, syntax, notation, axiom, sorry.
-/
import Derived.Test.YtkgploeegbmofaaGreatChecked
import GoSem.Claim
import GoSem.ClaimJoined
import GoSem.ClaimMapViews
import Derived.JoinedTies
import Derived.KernelRfl
namespace Go.Proofs.YtkgploeegbmofaaGreat
/- THE CELL 'sum', in the pinned program and in every row, IS THE sha256 OF THE DUMP (.gsa) THAT YtkgploeegbmofaaGreatProg.lean LOADS. Nothing in Lean hashes anything: it is a label: what it is worth is what the hold of that sum in a sandbox is worth. -/
noncomputable def Tryz.pinned : Pinned := { name := "ytkgploeegbmofaagreat", sum := "5be5949d3427eb8d6d364af818abea0269143a982f5c460dcc4e12829b75e453", checked := Tryz.checked }
namespace Rows
def none {H : Type} : Left H := { results := [], args := [] }

/-- 'maundlaw29.OutboxLives': WHATEVER THE INPUT: true; the input reads as it did. -/
def outboxLivesSpec : ChangeSpec := { name := "outboxLives", fn := fun _ => fun
  | [d] => { results := [.lit (.bool true)], args := [d] }
  | _ => none }
def outboxLivesRow : OpenClaim := { program := "ytkgploeegbmofaagreat", sum := "5be5949d3427eb8d6d364af818abea0269143a982f5c460dcc4e12829b75e453", func := "maund/maundlaw29.OutboxLives", spec := "outboxLives", unfollowed := true, recurses := true, apart := false }
def OutboxLivesSaid : Prop := outboxLivesRow.holds Tryz.pinned (OpenSpec.ofChange outboxLivesSpec)

/-- ITS FALSE NEIGHBOUR: 'it returns false'. Refute it at one input. -/
def outboxLivesWrong : ChangeSpec := { name := "outboxLives", fn := fun _ => fun
  | [d] => { results := [.lit (.bool false)], args := [d] }
  | _ => none }
def OutboxLivesWrongFalsely : Prop := outboxLivesRow.holds Tryz.pinned (OpenSpec.ofChange outboxLivesWrong)

/-- 'maundlaw27.SessionTicks': WHATEVER THE INPUT: true; the input reads as it did. -/
def sessionTicksSpec : ChangeSpec := { name := "sessionTicks", fn := fun _ => fun
  | [d1, d2] => { results := [.lit (.bool true)], args := [d1, d2] }
  | _ => none }
def sessionTicksRow : OpenClaim := { program := "ytkgploeegbmofaagreat", sum := "5be5949d3427eb8d6d364af818abea0269143a982f5c460dcc4e12829b75e453", func := "maund/maundlaw27.SessionTicks", spec := "sessionTicks", inPlace := ["slices.overlaps[maund/pack.Keyed]"], unfollowed := true, recurses := true, apart := false }
def SessionTicksSaid : Prop := sessionTicksRow.holds Tryz.pinned (OpenSpec.ofChange sessionTicksSpec)

/-- ITS FALSE NEIGHBOUR: 'it returns false'. Refute it at one input. -/
def sessionTicksWrong : ChangeSpec := { name := "sessionTicks", fn := fun _ => fun
  | [d1, d2] => { results := [.lit (.bool false)], args := [d1, d2] }
  | _ => none }
def SessionTicksWrongFalsely : Prop := sessionTicksRow.holds Tryz.pinned (OpenSpec.ofChange sessionTicksWrong)

/-- 'maundlaw27.SessionRises': WHATEVER THE INPUT: true; the input reads as it did. -/
def sessionRisesSpec : ChangeSpec := { name := "sessionRises", fn := fun _ => fun
  | [d1, d2, d3, d4] => { results := [.lit (.bool true)], args := [d1, d2, d3, d4] }
  | _ => none }
def sessionRisesRow : OpenClaim := { program := "ytkgploeegbmofaagreat", sum := "5be5949d3427eb8d6d364af818abea0269143a982f5c460dcc4e12829b75e453", func := "maund/maundlaw27.SessionRises", spec := "sessionRises", inPlace := ["slices.overlaps[maund/pack.Keyed]"], unfollowed := true, recurses := true, apart := false }
def SessionRisesSaid : Prop := sessionRisesRow.holds Tryz.pinned (OpenSpec.ofChange sessionRisesSpec)

/-- ITS FALSE NEIGHBOUR: 'it returns false'. Refute it at one input. -/
def sessionRisesWrong : ChangeSpec := { name := "sessionRises", fn := fun _ => fun
  | [d1, d2, d3, d4] => { results := [.lit (.bool false)], args := [d1, d2, d3, d4] }
  | _ => none }
def SessionRisesWrongFalsely : Prop := sessionRisesRow.holds Tryz.pinned (OpenSpec.ofChange sessionRisesWrong)

/-- 'maundlaw27.SessionWalks': WHATEVER THE INPUT: true; the input reads as it did. -/
def sessionWalksSpec : ChangeSpec := { name := "sessionWalks", fn := fun _ => fun
  | [d1, d2, d3] => { results := [.lit (.bool true)], args := [d1, d2, d3] }
  | _ => none }
def sessionWalksRow : OpenClaim := { program := "ytkgploeegbmofaagreat", sum := "5be5949d3427eb8d6d364af818abea0269143a982f5c460dcc4e12829b75e453", func := "maund/maundlaw27.SessionWalks", spec := "sessionWalks", inPlace := ["slices.overlaps[maund/pack.Keyed]"], unfollowed := true, recurses := true, apart := false }
def SessionWalksSaid : Prop := sessionWalksRow.holds Tryz.pinned (OpenSpec.ofChange sessionWalksSpec)

/-- ITS FALSE NEIGHBOUR: 'it returns false'. Refute it at one input. -/
def sessionWalksWrong : ChangeSpec := { name := "sessionWalks", fn := fun _ => fun
  | [d1, d2, d3] => { results := [.lit (.bool false)], args := [d1, d2, d3] }
  | _ => none }
def SessionWalksWrongFalsely : Prop := sessionWalksRow.holds Tryz.pinned (OpenSpec.ofChange sessionWalksWrong)

/- THE SECOND FORM. 'bulk': how many values and letters a reading holds, each counted each time it is reached (what is shared counts as often as it is met; a slice's spare places count too). A statement '..UptoSaid' is the law's where the arguments, and the package variables that the reading takes, are together of bulk at most 1048576: NARROWER than '..Said'. Prove '..Said' where nothing that the law and all that it calls make is longer than what came in: it says more and counts as full. Else prove '..UptoSaid'. A law counts once. -/
mutual
def uptoBulk {H : Type} : DataW H → Nat
  | .lit (.string bytes) => bytes.length + 1
  | .lit _ => 1
  | .nil => 1
  | .ptr d => uptoBulk d + 1
  | .slice elems spare => uptoBulkAll elems + uptoBulkAll spare + 1
  | .agg parts => uptoBulkAll parts + 1
  | .iface _ d => uptoBulk d + 1
  | .map entries => uptoBulkEntries entries + 1
  | .held _ => 1
def uptoBulkAll {H : Type} : List (DataW H) → Nat
  | [] => 0
  | d :: r => uptoBulk d + uptoBulkAll r
def uptoBulkEntries {H : Type} : List (Lit × DataW H) → Nat
  | [] => 0
  | x :: r => uptoBulkEntry x + uptoBulkEntries r
def uptoBulkEntry {H : Type} : Lit × DataW H → Nat
  | (.string bytes, d) => bytes.length + uptoBulk d + 1
  | (_, d) => uptoBulk d + 1
 end
def uptoSmall : (H : Type) → List (DataW H) → Bool := fun _ ds => decide (uptoBulkAll ds ≤ 1048576)
def OpenSpec.upto (s : _root_.Go.ChangeSpec) : _root_.Go.OpenSpec := { _root_.Go.OpenSpec.ofChange s with cond := some uptoSmall }

/-- 'maundlaw29.OutboxLives', WHERE WHAT IT READS IS OF BULK AT MOST 1048576: true; the input reads as it did. -/
def outboxLivesUptoRow : OpenClaim := { program := "ytkgploeegbmofaagreat", sum := "5be5949d3427eb8d6d364af818abea0269143a982f5c460dcc4e12829b75e453", func := "maund/maundlaw29.OutboxLives", spec := "outboxLives", unfollowed := true, recurses := true, apart := false, narrowed := true }
def OutboxLivesUptoSaid : Prop := outboxLivesUptoRow.holds Tryz.pinned (OpenSpec.upto outboxLivesSpec)

/-- 'maundlaw27.SessionTicks', WHERE WHAT IT READS IS OF BULK AT MOST 1048576: true; the input reads as it did. -/
def sessionTicksUptoRow : OpenClaim := { program := "ytkgploeegbmofaagreat", sum := "5be5949d3427eb8d6d364af818abea0269143a982f5c460dcc4e12829b75e453", func := "maund/maundlaw27.SessionTicks", spec := "sessionTicks", inPlace := ["slices.overlaps[maund/pack.Keyed]"], unfollowed := true, recurses := true, apart := false, narrowed := true }
def SessionTicksUptoSaid : Prop := sessionTicksUptoRow.holds Tryz.pinned (OpenSpec.upto sessionTicksSpec)

/-- 'maundlaw27.SessionRises', WHERE WHAT IT READS IS OF BULK AT MOST 1048576: true; the input reads as it did. -/
def sessionRisesUptoRow : OpenClaim := { program := "ytkgploeegbmofaagreat", sum := "5be5949d3427eb8d6d364af818abea0269143a982f5c460dcc4e12829b75e453", func := "maund/maundlaw27.SessionRises", spec := "sessionRises", inPlace := ["slices.overlaps[maund/pack.Keyed]"], unfollowed := true, recurses := true, apart := false, narrowed := true }
def SessionRisesUptoSaid : Prop := sessionRisesUptoRow.holds Tryz.pinned (OpenSpec.upto sessionRisesSpec)

/-- 'maundlaw27.SessionWalks', WHERE WHAT IT READS IS OF BULK AT MOST 1048576: true; the input reads as it did. -/
def sessionWalksUptoRow : OpenClaim := { program := "ytkgploeegbmofaagreat", sum := "5be5949d3427eb8d6d364af818abea0269143a982f5c460dcc4e12829b75e453", func := "maund/maundlaw27.SessionWalks", spec := "sessionWalks", inPlace := ["slices.overlaps[maund/pack.Keyed]"], unfollowed := true, recurses := true, apart := false, narrowed := true }
def SessionWalksUptoSaid : Prop := sessionWalksUptoRow.holds Tryz.pinned (OpenSpec.upto sessionWalksSpec)

end Rows
end Go.Proofs.YtkgploeegbmofaaGreat
