/-
  No cell of these rows narrows 'for every input' (looked for: loops, veiled, ifaces, maps, wideKeys, modest, calm, conditions, laid).
  DERIVED. THE GIVEN ROWS OF THIS SEAT. 4 by the template 'for every input the law returns true; each argument reads behind the call as it read before'; 0 by the template 'total and deterministic' (their statements: YtcihgcdakooacaaTotals.lean).
  GIVEN WITH THE SEED: the statements are not yours to turn. If you find one false, say at which input.
  Laid BY PROGRAM, IN A SANDBOX (cutbox-rows.mjs): the forced cells as the released guide's own fill.sh prints them over the translation 0224c42540349772… (all of the seat's roots in one cut). By AI agents, Wed Nov 11 2026. No macro, syntax, notation, axiom, sorry.
-/
import Derived.Test.YtcihgcdakooacaaChecked
import GoSem.Claim
import GoSem.ClaimJoined
import GoSem.ClaimMapViews
import Derived.JoinedTies
import Derived.KernelRfl
namespace Go.Proofs.Ytcihgcdakooacaa
/- THE CELL 'sum', in the pinned program and in every row, IS THE sha256 OF THE DUMP (.gsa) THAT YtcihgcdakooacaaProg.lean LOADS. Nothing in Lean hashes anything: it is a label: what it is worth is what the hold of that sum in a sandbox is worth. -/
noncomputable def Try.pinned : Pinned := { name := "ytcihgcdakooacaa", sum := "0224c4254034977247bbcfc9b6c783748e07bb4a7a6a13a0d76d316581d5d7af", checked := Try.checked }
namespace Rows
def none {H : Type} : Left H := { results := [], args := [] }

/-- 'latchkeylaw23.LeaseNever': WHATEVER THE INPUT: true; the input reads as it did. -/
def leaseNeverSpec : ChangeSpec := { name := "leaseNever", fn := fun _ => fun
  | [d1, d2] => { results := [.lit (.bool true)], args := [d1, d2] }
  | _ => none }
def leaseNeverRow : OpenClaim := { program := "ytcihgcdakooacaa", sum := "0224c4254034977247bbcfc9b6c783748e07bb4a7a6a13a0d76d316581d5d7af", func := "latchkey/latchkeylaw23.LeaseNever", spec := "leaseNever", unfollowed := true, recurses := true, apart := false }
def LeaseNeverSaid : Prop := leaseNeverRow.holds Try.pinned (OpenSpec.ofChange leaseNeverSpec)

/-- ITS FALSE NEIGHBOUR: 'it returns false'. Refute it at one input. -/
def leaseNeverWrong : ChangeSpec := { name := "leaseNever", fn := fun _ => fun
  | [d1, d2] => { results := [.lit (.bool false)], args := [d1, d2] }
  | _ => none }
def LeaseNeverWrongFalsely : Prop := leaseNeverRow.holds Try.pinned (OpenSpec.ofChange leaseNeverWrong)

/-- 'latchkeylaw23.LeaseOutlives': WHATEVER THE INPUT: true; the input reads as it did. -/
def leaseOutlivesSpec : ChangeSpec := { name := "leaseOutlives", fn := fun _ => fun
  | [d1, d2, d3] => { results := [.lit (.bool true)], args := [d1, d2, d3] }
  | _ => none }
def leaseOutlivesRow : OpenClaim := { program := "ytcihgcdakooacaa", sum := "0224c4254034977247bbcfc9b6c783748e07bb4a7a6a13a0d76d316581d5d7af", func := "latchkey/latchkeylaw23.LeaseOutlives", spec := "leaseOutlives", unfollowed := true, recurses := true, apart := false }
def LeaseOutlivesSaid : Prop := leaseOutlivesRow.holds Try.pinned (OpenSpec.ofChange leaseOutlivesSpec)

/-- ITS FALSE NEIGHBOUR: 'it returns false'. Refute it at one input. -/
def leaseOutlivesWrong : ChangeSpec := { name := "leaseOutlives", fn := fun _ => fun
  | [d1, d2, d3] => { results := [.lit (.bool false)], args := [d1, d2, d3] }
  | _ => none }
def LeaseOutlivesWrongFalsely : Prop := leaseOutlivesRow.holds Try.pinned (OpenSpec.ofChange leaseOutlivesWrong)

/-- 'latchkeylaw23.LeaseAnswers': WHATEVER THE INPUT: true; the input reads as it did. -/
def leaseAnswersSpec : ChangeSpec := { name := "leaseAnswers", fn := fun _ => fun
  | [d1, d2] => { results := [.lit (.bool true)], args := [d1, d2] }
  | _ => none }
def leaseAnswersRow : OpenClaim := { program := "ytcihgcdakooacaa", sum := "0224c4254034977247bbcfc9b6c783748e07bb4a7a6a13a0d76d316581d5d7af", func := "latchkey/latchkeylaw23.LeaseAnswers", spec := "leaseAnswers", unfollowed := true, recurses := true, apart := false }
def LeaseAnswersSaid : Prop := leaseAnswersRow.holds Try.pinned (OpenSpec.ofChange leaseAnswersSpec)

/-- ITS FALSE NEIGHBOUR: 'it returns false'. Refute it at one input. -/
def leaseAnswersWrong : ChangeSpec := { name := "leaseAnswers", fn := fun _ => fun
  | [d1, d2] => { results := [.lit (.bool false)], args := [d1, d2] }
  | _ => none }
def LeaseAnswersWrongFalsely : Prop := leaseAnswersRow.holds Try.pinned (OpenSpec.ofChange leaseAnswersWrong)

/-- 'latchkeylaw23.LeaseNone': WHATEVER THE INPUT: true; the input reads as it did. -/
def leaseNoneSpec : ChangeSpec := { name := "leaseNone", fn := fun _ => fun
  | [d1, d2] => { results := [.lit (.bool true)], args := [d1, d2] }
  | _ => none }
def leaseNoneRow : OpenClaim := { program := "ytcihgcdakooacaa", sum := "0224c4254034977247bbcfc9b6c783748e07bb4a7a6a13a0d76d316581d5d7af", func := "latchkey/latchkeylaw23.LeaseNone", spec := "leaseNone", unfollowed := true, recurses := true, apart := false }
def LeaseNoneSaid : Prop := leaseNoneRow.holds Try.pinned (OpenSpec.ofChange leaseNoneSpec)

/-- ITS FALSE NEIGHBOUR: 'it returns false'. Refute it at one input. -/
def leaseNoneWrong : ChangeSpec := { name := "leaseNone", fn := fun _ => fun
  | [d1, d2] => { results := [.lit (.bool false)], args := [d1, d2] }
  | _ => none }
def LeaseNoneWrongFalsely : Prop := leaseNoneRow.holds Try.pinned (OpenSpec.ofChange leaseNoneWrong)

/- THE SECOND FORM. 'bulk': how many values and letters a reading holds, each counted each time it is reached (what is shared counts as often as it is met; a slice's spare places count too). A statement '..UptoSaid' is the law's where the arguments, and the package variables that the reading takes, are together of bulk at most 1048576: NARROWER than '..Said'. Prove '..Said' where nothing that the law and all that it calls make is longer than what came in: it says more and counts as full. Else prove '..UptoSaid'. A law counts once. -/
mutual
def uptoBulk {H : Type} : DataW H → Nat
  | .lit (.string bytes) => bytes.length + 1
  | .lit _ => 1
  | .nil => 1
  | .ptr d => uptoBulk d + 1
  | .slice elems spare => uptoBulkAll elems + uptoBulkAll spare + 1
  | .agg parts => uptoBulkAll parts + 1
  | .iface _ d => uptoBulk d + 1
  | .map entries => uptoBulkEntries entries + 1
  | .held _ => 1
def uptoBulkAll {H : Type} : List (DataW H) → Nat
  | [] => 0
  | d :: r => uptoBulk d + uptoBulkAll r
def uptoBulkEntries {H : Type} : List (Lit × DataW H) → Nat
  | [] => 0
  | x :: r => uptoBulkEntry x + uptoBulkEntries r
def uptoBulkEntry {H : Type} : Lit × DataW H → Nat
  | (.string bytes, d) => bytes.length + uptoBulk d + 1
  | (_, d) => uptoBulk d + 1
 end
def uptoSmall : (H : Type) → List (DataW H) → Bool := fun _ ds => decide (uptoBulkAll ds ≤ 1048576)
def OpenSpec.upto (s : _root_.Go.ChangeSpec) : _root_.Go.OpenSpec := { _root_.Go.OpenSpec.ofChange s with cond := some uptoSmall }

/-- 'latchkeylaw23.LeaseNever', WHERE WHAT IT READS IS OF BULK AT MOST 1048576: true; the input reads as it did. -/
def leaseNeverUptoRow : OpenClaim := { program := "ytcihgcdakooacaa", sum := "0224c4254034977247bbcfc9b6c783748e07bb4a7a6a13a0d76d316581d5d7af", func := "latchkey/latchkeylaw23.LeaseNever", spec := "leaseNever", unfollowed := true, recurses := true, apart := false, narrowed := true }
def LeaseNeverUptoSaid : Prop := leaseNeverUptoRow.holds Try.pinned (OpenSpec.upto leaseNeverSpec)

/-- 'latchkeylaw23.LeaseOutlives', WHERE WHAT IT READS IS OF BULK AT MOST 1048576: true; the input reads as it did. -/
def leaseOutlivesUptoRow : OpenClaim := { program := "ytcihgcdakooacaa", sum := "0224c4254034977247bbcfc9b6c783748e07bb4a7a6a13a0d76d316581d5d7af", func := "latchkey/latchkeylaw23.LeaseOutlives", spec := "leaseOutlives", unfollowed := true, recurses := true, apart := false, narrowed := true }
def LeaseOutlivesUptoSaid : Prop := leaseOutlivesUptoRow.holds Try.pinned (OpenSpec.upto leaseOutlivesSpec)

/-- 'latchkeylaw23.LeaseAnswers', WHERE WHAT IT READS IS OF BULK AT MOST 1048576: true; the input reads as it did. -/
def leaseAnswersUptoRow : OpenClaim := { program := "ytcihgcdakooacaa", sum := "0224c4254034977247bbcfc9b6c783748e07bb4a7a6a13a0d76d316581d5d7af", func := "latchkey/latchkeylaw23.LeaseAnswers", spec := "leaseAnswers", unfollowed := true, recurses := true, apart := false, narrowed := true }
def LeaseAnswersUptoSaid : Prop := leaseAnswersUptoRow.holds Try.pinned (OpenSpec.upto leaseAnswersSpec)

/-- 'latchkeylaw23.LeaseNone', WHERE WHAT IT READS IS OF BULK AT MOST 1048576: true; the input reads as it did. -/
def leaseNoneUptoRow : OpenClaim := { program := "ytcihgcdakooacaa", sum := "0224c4254034977247bbcfc9b6c783748e07bb4a7a6a13a0d76d316581d5d7af", func := "latchkey/latchkeylaw23.LeaseNone", spec := "leaseNone", unfollowed := true, recurses := true, apart := false, narrowed := true }
def LeaseNoneUptoSaid : Prop := leaseNoneUptoRow.holds Try.pinned (OpenSpec.upto leaseNoneSpec)

end Rows
end Go.Proofs.Ytcihgcdakooacaa
