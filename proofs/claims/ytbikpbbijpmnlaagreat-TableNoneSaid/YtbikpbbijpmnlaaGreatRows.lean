/-
  No cell of these rows narrows 'for every input' (looked for: loops, veiled, ifaces, maps, wideKeys, modest, calm, conditions, laid).
  DERIVED. THE GIVEN ROWS OF THIS SEAT. 6 by the template 'for every input the law returns true; each argument reads behind the call as it read before'; 0 by the template 'total and deterministic' (their statements: YtbikpbbijpmnlaaGreatTotals.lean).
  GIVEN WITH THE SEED: the statements are not yours to turn. If you find one false, say at which input.
  Laid BY PROGRAM, IN A SANDBOX (cutbox-rows.mjs): the forced cells as the released guide's own fill.sh prints them over the translation 86cf46cf357ec961… (all of the seat's roots in one cut). By AI agents, Wed Nov 11 2026. No macro, syntax, notation, axiom, sorry.
-/
import Derived.Test.YtbikpbbijpmnlaaGreatChecked
import GoSem.Claim
import GoSem.ClaimJoined
import GoSem.ClaimMapViews
import Derived.JoinedTies
import Derived.KernelRfl
namespace Go.Proofs.YtbikpbbijpmnlaaGreat
/- THE CELL 'sum', in the pinned program and in every row, IS THE sha256 OF THE DUMP (.gsa) THAT YtbikpbbijpmnlaaGreatProg.lean LOADS. Nothing in Lean hashes anything: it is a label: what it is worth is what the hold of that sum in a sandbox is worth. -/
noncomputable def Tryz.pinned : Pinned := { name := "ytbikpbbijpmnlaagreat", sum := "86cf46cf357ec9616debff9c1d3dffddb4f3635a64e64064f8007003c3b79d67", checked := Tryz.checked }
namespace Rows
def none {H : Type} : Left H := { results := [], args := [] }

/-- 'latchkeylaw21.TableGoesOn': WHATEVER THE INPUT: true; the input reads as it did. -/
def tableGoesOnSpec : ChangeSpec := { name := "tableGoesOn", fn := fun _ => fun
  | [d1, d2] => { results := [.lit (.bool true)], args := [d1, d2] }
  | _ => none }
def tableGoesOnRow : OpenClaim := { program := "ytbikpbbijpmnlaagreat", sum := "86cf46cf357ec9616debff9c1d3dffddb4f3635a64e64064f8007003c3b79d67", func := "latchkey/latchkeylaw21.TableGoesOn", spec := "tableGoesOn", inPlace := ["slices.overlaps[int]"], unfollowed := true, recurses := true, apart := false }
def TableGoesOnSaid : Prop := tableGoesOnRow.holds Tryz.pinned (OpenSpec.ofChange tableGoesOnSpec)

/-- ITS FALSE NEIGHBOUR: 'it returns false'. Refute it at one input. -/
def tableGoesOnWrong : ChangeSpec := { name := "tableGoesOn", fn := fun _ => fun
  | [d1, d2] => { results := [.lit (.bool false)], args := [d1, d2] }
  | _ => none }
def TableGoesOnWrongFalsely : Prop := tableGoesOnRow.holds Tryz.pinned (OpenSpec.ofChange tableGoesOnWrong)

/-- 'latchkeylaw21.TableTwice': WHATEVER THE INPUT: true; the input reads as it did. -/
def tableTwiceSpec : ChangeSpec := { name := "tableTwice", fn := fun _ => fun
  | [d1, d2, d3] => { results := [.lit (.bool true)], args := [d1, d2, d3] }
  | _ => none }
def tableTwiceRow : OpenClaim := { program := "ytbikpbbijpmnlaagreat", sum := "86cf46cf357ec9616debff9c1d3dffddb4f3635a64e64064f8007003c3b79d67", func := "latchkey/latchkeylaw21.TableTwice", spec := "tableTwice", inPlace := ["slices.overlaps[int]"], unfollowed := true, recurses := true, apart := false }
def TableTwiceSaid : Prop := tableTwiceRow.holds Tryz.pinned (OpenSpec.ofChange tableTwiceSpec)

/-- ITS FALSE NEIGHBOUR: 'it returns false'. Refute it at one input. -/
def tableTwiceWrong : ChangeSpec := { name := "tableTwice", fn := fun _ => fun
  | [d1, d2, d3] => { results := [.lit (.bool false)], args := [d1, d2, d3] }
  | _ => none }
def TableTwiceWrongFalsely : Prop := tableTwiceRow.holds Tryz.pinned (OpenSpec.ofChange tableTwiceWrong)

/-- 'latchkeylaw21.TableTerms': WHATEVER THE INPUT: true; the input reads as it did. -/
def tableTermsSpec : ChangeSpec := { name := "tableTerms", fn := fun _ => fun
  | [d1, d2] => { results := [.lit (.bool true)], args := [d1, d2] }
  | _ => none }
def tableTermsRow : OpenClaim := { program := "ytbikpbbijpmnlaagreat", sum := "86cf46cf357ec9616debff9c1d3dffddb4f3635a64e64064f8007003c3b79d67", func := "latchkey/latchkeylaw21.TableTerms", spec := "tableTerms", inPlace := ["slices.overlaps[int]"], unfollowed := true, recurses := true, apart := false }
def TableTermsSaid : Prop := tableTermsRow.holds Tryz.pinned (OpenSpec.ofChange tableTermsSpec)

/-- ITS FALSE NEIGHBOUR: 'it returns false'. Refute it at one input. -/
def tableTermsWrong : ChangeSpec := { name := "tableTerms", fn := fun _ => fun
  | [d1, d2] => { results := [.lit (.bool false)], args := [d1, d2] }
  | _ => none }
def TableTermsWrongFalsely : Prop := tableTermsRow.holds Tryz.pinned (OpenSpec.ofChange tableTermsWrong)

/-- 'latchkeylaw21.TableGone': WHATEVER THE INPUT: true; the input reads as it did. -/
def tableGoneSpec : ChangeSpec := { name := "tableGone", fn := fun _ => fun
  | [d1, d2] => { results := [.lit (.bool true)], args := [d1, d2] }
  | _ => none }
def tableGoneRow : OpenClaim := { program := "ytbikpbbijpmnlaagreat", sum := "86cf46cf357ec9616debff9c1d3dffddb4f3635a64e64064f8007003c3b79d67", func := "latchkey/latchkeylaw21.TableGone", spec := "tableGone", inPlace := ["slices.overlaps[int]"], unfollowed := true, recurses := true, apart := false }
def TableGoneSaid : Prop := tableGoneRow.holds Tryz.pinned (OpenSpec.ofChange tableGoneSpec)

/-- ITS FALSE NEIGHBOUR: 'it returns false'. Refute it at one input. -/
def tableGoneWrong : ChangeSpec := { name := "tableGone", fn := fun _ => fun
  | [d1, d2] => { results := [.lit (.bool false)], args := [d1, d2] }
  | _ => none }
def TableGoneWrongFalsely : Prop := tableGoneRow.holds Tryz.pinned (OpenSpec.ofChange tableGoneWrong)

/-- 'latchkeylaw21.TablePlays': WHATEVER THE INPUT: true; the input reads as it did. -/
def tablePlaysSpec : ChangeSpec := { name := "tablePlays", fn := fun _ => fun
  | [d] => { results := [.lit (.bool true)], args := [d] }
  | _ => none }
def tablePlaysRow : OpenClaim := { program := "ytbikpbbijpmnlaagreat", sum := "86cf46cf357ec9616debff9c1d3dffddb4f3635a64e64064f8007003c3b79d67", func := "latchkey/latchkeylaw21.TablePlays", spec := "tablePlays", inPlace := ["slices.overlaps[int]"], unfollowed := true, recurses := true, apart := false }
def TablePlaysSaid : Prop := tablePlaysRow.holds Tryz.pinned (OpenSpec.ofChange tablePlaysSpec)

/-- ITS FALSE NEIGHBOUR: 'it returns false'. Refute it at one input. -/
def tablePlaysWrong : ChangeSpec := { name := "tablePlays", fn := fun _ => fun
  | [d] => { results := [.lit (.bool false)], args := [d] }
  | _ => none }
def TablePlaysWrongFalsely : Prop := tablePlaysRow.holds Tryz.pinned (OpenSpec.ofChange tablePlaysWrong)

/-- 'latchkeylaw21.TableNone': WHATEVER THE INPUT: true; the input reads as it did. -/
def tableNoneSpec : ChangeSpec := { name := "tableNone", fn := fun _ => fun
  | [d] => { results := [.lit (.bool true)], args := [d] }
  | _ => none }
def tableNoneRow : OpenClaim := { program := "ytbikpbbijpmnlaagreat", sum := "86cf46cf357ec9616debff9c1d3dffddb4f3635a64e64064f8007003c3b79d67", func := "latchkey/latchkeylaw21.TableNone", spec := "tableNone", inPlace := ["slices.overlaps[int]"], unfollowed := true, recurses := true, apart := false }
def TableNoneSaid : Prop := tableNoneRow.holds Tryz.pinned (OpenSpec.ofChange tableNoneSpec)

/-- ITS FALSE NEIGHBOUR: 'it returns false'. Refute it at one input. -/
def tableNoneWrong : ChangeSpec := { name := "tableNone", fn := fun _ => fun
  | [d] => { results := [.lit (.bool false)], args := [d] }
  | _ => none }
def TableNoneWrongFalsely : Prop := tableNoneRow.holds Tryz.pinned (OpenSpec.ofChange tableNoneWrong)

/- THE SECOND FORM. 'bulk': how many values and letters a reading holds, each counted each time it is reached (what is shared counts as often as it is met; a slice's spare places count too). A statement '..UptoSaid' is the law's where the arguments, and the package variables that the reading takes, are together of bulk at most 1048576: NARROWER than '..Said'. Prove '..Said' where nothing that the law and all that it calls make is longer than what came in: it says more and counts as full. Else prove '..UptoSaid'. A law counts once. -/
mutual
def uptoBulk {H : Type} : DataW H → Nat
  | .lit (.string bytes) => bytes.length + 1
  | .lit _ => 1
  | .nil => 1
  | .ptr d => uptoBulk d + 1
  | .slice elems spare => uptoBulkAll elems + uptoBulkAll spare + 1
  | .agg parts => uptoBulkAll parts + 1
  | .iface _ d => uptoBulk d + 1
  | .map entries => uptoBulkEntries entries + 1
  | .held _ => 1
def uptoBulkAll {H : Type} : List (DataW H) → Nat
  | [] => 0
  | d :: r => uptoBulk d + uptoBulkAll r
def uptoBulkEntries {H : Type} : List (Lit × DataW H) → Nat
  | [] => 0
  | x :: r => uptoBulkEntry x + uptoBulkEntries r
def uptoBulkEntry {H : Type} : Lit × DataW H → Nat
  | (.string bytes, d) => bytes.length + uptoBulk d + 1
  | (_, d) => uptoBulk d + 1
 end
def uptoSmall : (H : Type) → List (DataW H) → Bool := fun _ ds => decide (uptoBulkAll ds ≤ 1048576)
def OpenSpec.upto (s : _root_.Go.ChangeSpec) : _root_.Go.OpenSpec := { _root_.Go.OpenSpec.ofChange s with cond := some uptoSmall }

/-- 'latchkeylaw21.TableGoesOn', WHERE WHAT IT READS IS OF BULK AT MOST 1048576: true; the input reads as it did. -/
def tableGoesOnUptoRow : OpenClaim := { program := "ytbikpbbijpmnlaagreat", sum := "86cf46cf357ec9616debff9c1d3dffddb4f3635a64e64064f8007003c3b79d67", func := "latchkey/latchkeylaw21.TableGoesOn", spec := "tableGoesOn", inPlace := ["slices.overlaps[int]"], unfollowed := true, recurses := true, apart := false, narrowed := true }
def TableGoesOnUptoSaid : Prop := tableGoesOnUptoRow.holds Tryz.pinned (OpenSpec.upto tableGoesOnSpec)

/-- 'latchkeylaw21.TableTwice', WHERE WHAT IT READS IS OF BULK AT MOST 1048576: true; the input reads as it did. -/
def tableTwiceUptoRow : OpenClaim := { program := "ytbikpbbijpmnlaagreat", sum := "86cf46cf357ec9616debff9c1d3dffddb4f3635a64e64064f8007003c3b79d67", func := "latchkey/latchkeylaw21.TableTwice", spec := "tableTwice", inPlace := ["slices.overlaps[int]"], unfollowed := true, recurses := true, apart := false, narrowed := true }
def TableTwiceUptoSaid : Prop := tableTwiceUptoRow.holds Tryz.pinned (OpenSpec.upto tableTwiceSpec)

/-- 'latchkeylaw21.TableTerms', WHERE WHAT IT READS IS OF BULK AT MOST 1048576: true; the input reads as it did. -/
def tableTermsUptoRow : OpenClaim := { program := "ytbikpbbijpmnlaagreat", sum := "86cf46cf357ec9616debff9c1d3dffddb4f3635a64e64064f8007003c3b79d67", func := "latchkey/latchkeylaw21.TableTerms", spec := "tableTerms", inPlace := ["slices.overlaps[int]"], unfollowed := true, recurses := true, apart := false, narrowed := true }
def TableTermsUptoSaid : Prop := tableTermsUptoRow.holds Tryz.pinned (OpenSpec.upto tableTermsSpec)

/-- 'latchkeylaw21.TableGone', WHERE WHAT IT READS IS OF BULK AT MOST 1048576: true; the input reads as it did. -/
def tableGoneUptoRow : OpenClaim := { program := "ytbikpbbijpmnlaagreat", sum := "86cf46cf357ec9616debff9c1d3dffddb4f3635a64e64064f8007003c3b79d67", func := "latchkey/latchkeylaw21.TableGone", spec := "tableGone", inPlace := ["slices.overlaps[int]"], unfollowed := true, recurses := true, apart := false, narrowed := true }
def TableGoneUptoSaid : Prop := tableGoneUptoRow.holds Tryz.pinned (OpenSpec.upto tableGoneSpec)

/-- 'latchkeylaw21.TablePlays', WHERE WHAT IT READS IS OF BULK AT MOST 1048576: true; the input reads as it did. -/
def tablePlaysUptoRow : OpenClaim := { program := "ytbikpbbijpmnlaagreat", sum := "86cf46cf357ec9616debff9c1d3dffddb4f3635a64e64064f8007003c3b79d67", func := "latchkey/latchkeylaw21.TablePlays", spec := "tablePlays", inPlace := ["slices.overlaps[int]"], unfollowed := true, recurses := true, apart := false, narrowed := true }
def TablePlaysUptoSaid : Prop := tablePlaysUptoRow.holds Tryz.pinned (OpenSpec.upto tablePlaysSpec)

/-- 'latchkeylaw21.TableNone', WHERE WHAT IT READS IS OF BULK AT MOST 1048576: true; the input reads as it did. -/
def tableNoneUptoRow : OpenClaim := { program := "ytbikpbbijpmnlaagreat", sum := "86cf46cf357ec9616debff9c1d3dffddb4f3635a64e64064f8007003c3b79d67", func := "latchkey/latchkeylaw21.TableNone", spec := "tableNone", inPlace := ["slices.overlaps[int]"], unfollowed := true, recurses := true, apart := false, narrowed := true }
def TableNoneUptoSaid : Prop := tableNoneUptoRow.holds Tryz.pinned (OpenSpec.upto tableNoneSpec)

end Rows
end Go.Proofs.YtbikpbbijpmnlaaGreat
