/-
  No cell of these rows narrows 'for every input' (looked for: loops, veiled, ifaces, maps, wideKeys, modest, calm, conditions, laid).
  DERIVED. THE GIVEN ROWS OF THIS SEAT. 5 by the template 'for every input the law returns true; each argument reads behind the call as it read before'; 0 by the template 'total and deterministic' (their statements: YtodojllclghoiaaTotals.lean).
  GIVEN WITH THE SEED: the statements are not yours to turn. If you find one false, say at which input.
  Laid BY PROGRAM, IN A SANDBOX (cutbox-rows.mjs): the forced cells as the released guide's own fill.sh prints them over the translation 2c5c17b003d8b503… (all of the seat's roots in one cut). By AI agents, Wed Nov 11 2026. No macro, syntax, notation, axiom, sorry.
-/
import Derived.Test.YtodojllclghoiaaChecked
import GoSem.Claim
import GoSem.ClaimJoined
import GoSem.ClaimMapViews
import Derived.JoinedTies
import Derived.KernelRfl
namespace Go.Proofs.Ytodojllclghoiaa
/- THE CELL 'sum', in the pinned program and in every row, IS THE sha256 OF THE DUMP (.gsa) THAT YtodojllclghoiaaProg.lean LOADS. Nothing in Lean hashes anything: it is a label: what it is worth is what the hold of that sum in a sandbox is worth. -/
noncomputable def Try.pinned : Pinned := { name := "ytodojllclghoiaa", sum := "2c5c17b003d8b50395b1676d3a4a58c83f1b3c4afbcfe1227f09d101045a26d9", checked := Try.checked }
namespace Rows
def none {H : Type} : Left H := { results := [], args := [] }

/-- 'latchkeylaw18.SessionOnce': WHATEVER THE INPUT: true; the input reads as it did. -/
def sessionOnceSpec : ChangeSpec := { name := "sessionOnce", fn := fun _ => fun
  | [d1, d2] => { results := [.lit (.bool true)], args := [d1, d2] }
  | _ => none }
def sessionOnceRow : OpenClaim := { program := "ytodojllclghoiaa", sum := "2c5c17b003d8b50395b1676d3a4a58c83f1b3c4afbcfe1227f09d101045a26d9", func := "latchkey/latchkeylaw18.SessionOnce", spec := "sessionOnce", unfollowed := true, recurses := true, apart := false }
def SessionOnceSaid : Prop := sessionOnceRow.holds Try.pinned (OpenSpec.ofChange sessionOnceSpec)

/-- ITS FALSE NEIGHBOUR: 'it returns false'. Refute it at one input. -/
def sessionOnceWrong : ChangeSpec := { name := "sessionOnce", fn := fun _ => fun
  | [d1, d2] => { results := [.lit (.bool false)], args := [d1, d2] }
  | _ => none }
def SessionOnceWrongFalsely : Prop := sessionOnceRow.holds Try.pinned (OpenSpec.ofChange sessionOnceWrong)

/-- 'latchkeylaw18.SessionLives': WHATEVER THE INPUT: true; the input reads as it did. -/
def sessionLivesSpec : ChangeSpec := { name := "sessionLives", fn := fun _ => fun
  | [d] => { results := [.lit (.bool true)], args := [d] }
  | _ => none }
def sessionLivesRow : OpenClaim := { program := "ytodojllclghoiaa", sum := "2c5c17b003d8b50395b1676d3a4a58c83f1b3c4afbcfe1227f09d101045a26d9", func := "latchkey/latchkeylaw18.SessionLives", spec := "sessionLives", unfollowed := true, recurses := true, apart := false }
def SessionLivesSaid : Prop := sessionLivesRow.holds Try.pinned (OpenSpec.ofChange sessionLivesSpec)

/-- ITS FALSE NEIGHBOUR: 'it returns false'. Refute it at one input. -/
def sessionLivesWrong : ChangeSpec := { name := "sessionLives", fn := fun _ => fun
  | [d] => { results := [.lit (.bool false)], args := [d] }
  | _ => none }
def SessionLivesWrongFalsely : Prop := sessionLivesRow.holds Try.pinned (OpenSpec.ofChange sessionLivesWrong)

/-- 'latchkeylaw18.SessionGoesOn': WHATEVER THE INPUT: true; the input reads as it did. -/
def sessionGoesOnSpec : ChangeSpec := { name := "sessionGoesOn", fn := fun _ => fun
  | [d1, d2] => { results := [.lit (.bool true)], args := [d1, d2] }
  | _ => none }
def sessionGoesOnRow : OpenClaim := { program := "ytodojllclghoiaa", sum := "2c5c17b003d8b50395b1676d3a4a58c83f1b3c4afbcfe1227f09d101045a26d9", func := "latchkey/latchkeylaw18.SessionGoesOn", spec := "sessionGoesOn", unfollowed := true, recurses := true, apart := false }
def SessionGoesOnSaid : Prop := sessionGoesOnRow.holds Try.pinned (OpenSpec.ofChange sessionGoesOnSpec)

/-- ITS FALSE NEIGHBOUR: 'it returns false'. Refute it at one input. -/
def sessionGoesOnWrong : ChangeSpec := { name := "sessionGoesOn", fn := fun _ => fun
  | [d1, d2] => { results := [.lit (.bool false)], args := [d1, d2] }
  | _ => none }
def SessionGoesOnWrongFalsely : Prop := sessionGoesOnRow.holds Try.pinned (OpenSpec.ofChange sessionGoesOnWrong)

/-- 'latchkeylaw18.SessionPlays': WHATEVER THE INPUT: true; the input reads as it did. -/
def sessionPlaysSpec : ChangeSpec := { name := "sessionPlays", fn := fun _ => fun
  | [d] => { results := [.lit (.bool true)], args := [d] }
  | _ => none }
def sessionPlaysRow : OpenClaim := { program := "ytodojllclghoiaa", sum := "2c5c17b003d8b50395b1676d3a4a58c83f1b3c4afbcfe1227f09d101045a26d9", func := "latchkey/latchkeylaw18.SessionPlays", spec := "sessionPlays", unfollowed := true, recurses := true, apart := false }
def SessionPlaysSaid : Prop := sessionPlaysRow.holds Try.pinned (OpenSpec.ofChange sessionPlaysSpec)

/-- ITS FALSE NEIGHBOUR: 'it returns false'. Refute it at one input. -/
def sessionPlaysWrong : ChangeSpec := { name := "sessionPlays", fn := fun _ => fun
  | [d] => { results := [.lit (.bool false)], args := [d] }
  | _ => none }
def SessionPlaysWrongFalsely : Prop := sessionPlaysRow.holds Try.pinned (OpenSpec.ofChange sessionPlaysWrong)

/-- 'latchkeylaw18.SessionNone': WHATEVER THE INPUT: true; the input reads as it did. -/
def sessionNoneSpec : ChangeSpec := { name := "sessionNone", fn := fun _ => fun
  | [d] => { results := [.lit (.bool true)], args := [d] }
  | _ => none }
def sessionNoneRow : OpenClaim := { program := "ytodojllclghoiaa", sum := "2c5c17b003d8b50395b1676d3a4a58c83f1b3c4afbcfe1227f09d101045a26d9", func := "latchkey/latchkeylaw18.SessionNone", spec := "sessionNone", unfollowed := true, recurses := true, apart := false }
def SessionNoneSaid : Prop := sessionNoneRow.holds Try.pinned (OpenSpec.ofChange sessionNoneSpec)

/-- ITS FALSE NEIGHBOUR: 'it returns false'. Refute it at one input. -/
def sessionNoneWrong : ChangeSpec := { name := "sessionNone", fn := fun _ => fun
  | [d] => { results := [.lit (.bool false)], args := [d] }
  | _ => none }
def SessionNoneWrongFalsely : Prop := sessionNoneRow.holds Try.pinned (OpenSpec.ofChange sessionNoneWrong)

/- THE SECOND FORM. 'bulk': how many values and letters a reading holds, each counted each time it is reached (what is shared counts as often as it is met; a slice's spare places count too). A statement '..UptoSaid' is the law's where the arguments, and the package variables that the reading takes, are together of bulk at most 1048576: NARROWER than '..Said'. Prove '..Said' where nothing that the law and all that it calls make is longer than what came in: it says more and counts as full. Else prove '..UptoSaid'. A law counts once. -/
mutual
def uptoBulk {H : Type} : DataW H → Nat
  | .lit (.string bytes) => bytes.length + 1
  | .lit _ => 1
  | .nil => 1
  | .ptr d => uptoBulk d + 1
  | .slice elems spare => uptoBulkAll elems + uptoBulkAll spare + 1
  | .agg parts => uptoBulkAll parts + 1
  | .iface _ d => uptoBulk d + 1
  | .map entries => uptoBulkEntries entries + 1
  | .held _ => 1
def uptoBulkAll {H : Type} : List (DataW H) → Nat
  | [] => 0
  | d :: r => uptoBulk d + uptoBulkAll r
def uptoBulkEntries {H : Type} : List (Lit × DataW H) → Nat
  | [] => 0
  | x :: r => uptoBulkEntry x + uptoBulkEntries r
def uptoBulkEntry {H : Type} : Lit × DataW H → Nat
  | (.string bytes, d) => bytes.length + uptoBulk d + 1
  | (_, d) => uptoBulk d + 1
 end
def uptoSmall : (H : Type) → List (DataW H) → Bool := fun _ ds => decide (uptoBulkAll ds ≤ 1048576)
def OpenSpec.upto (s : _root_.Go.ChangeSpec) : _root_.Go.OpenSpec := { _root_.Go.OpenSpec.ofChange s with cond := some uptoSmall }

/-- 'latchkeylaw18.SessionOnce', WHERE WHAT IT READS IS OF BULK AT MOST 1048576: true; the input reads as it did. -/
def sessionOnceUptoRow : OpenClaim := { program := "ytodojllclghoiaa", sum := "2c5c17b003d8b50395b1676d3a4a58c83f1b3c4afbcfe1227f09d101045a26d9", func := "latchkey/latchkeylaw18.SessionOnce", spec := "sessionOnce", unfollowed := true, recurses := true, apart := false, narrowed := true }
def SessionOnceUptoSaid : Prop := sessionOnceUptoRow.holds Try.pinned (OpenSpec.upto sessionOnceSpec)

/-- 'latchkeylaw18.SessionLives', WHERE WHAT IT READS IS OF BULK AT MOST 1048576: true; the input reads as it did. -/
def sessionLivesUptoRow : OpenClaim := { program := "ytodojllclghoiaa", sum := "2c5c17b003d8b50395b1676d3a4a58c83f1b3c4afbcfe1227f09d101045a26d9", func := "latchkey/latchkeylaw18.SessionLives", spec := "sessionLives", unfollowed := true, recurses := true, apart := false, narrowed := true }
def SessionLivesUptoSaid : Prop := sessionLivesUptoRow.holds Try.pinned (OpenSpec.upto sessionLivesSpec)

/-- 'latchkeylaw18.SessionGoesOn', WHERE WHAT IT READS IS OF BULK AT MOST 1048576: true; the input reads as it did. -/
def sessionGoesOnUptoRow : OpenClaim := { program := "ytodojllclghoiaa", sum := "2c5c17b003d8b50395b1676d3a4a58c83f1b3c4afbcfe1227f09d101045a26d9", func := "latchkey/latchkeylaw18.SessionGoesOn", spec := "sessionGoesOn", unfollowed := true, recurses := true, apart := false, narrowed := true }
def SessionGoesOnUptoSaid : Prop := sessionGoesOnUptoRow.holds Try.pinned (OpenSpec.upto sessionGoesOnSpec)

/-- 'latchkeylaw18.SessionPlays', WHERE WHAT IT READS IS OF BULK AT MOST 1048576: true; the input reads as it did. -/
def sessionPlaysUptoRow : OpenClaim := { program := "ytodojllclghoiaa", sum := "2c5c17b003d8b50395b1676d3a4a58c83f1b3c4afbcfe1227f09d101045a26d9", func := "latchkey/latchkeylaw18.SessionPlays", spec := "sessionPlays", unfollowed := true, recurses := true, apart := false, narrowed := true }
def SessionPlaysUptoSaid : Prop := sessionPlaysUptoRow.holds Try.pinned (OpenSpec.upto sessionPlaysSpec)

/-- 'latchkeylaw18.SessionNone', WHERE WHAT IT READS IS OF BULK AT MOST 1048576: true; the input reads as it did. -/
def sessionNoneUptoRow : OpenClaim := { program := "ytodojllclghoiaa", sum := "2c5c17b003d8b50395b1676d3a4a58c83f1b3c4afbcfe1227f09d101045a26d9", func := "latchkey/latchkeylaw18.SessionNone", spec := "sessionNone", unfollowed := true, recurses := true, apart := false, narrowed := true }
def SessionNoneUptoSaid : Prop := sessionNoneUptoRow.holds Try.pinned (OpenSpec.upto sessionNoneSpec)

end Rows
end Go.Proofs.Ytodojllclghoiaa
