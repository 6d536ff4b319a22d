/-
  No cell of these rows narrows 'for every input' (looked for: loops, veiled, ifaces, maps, wideKeys, modest, calm, conditions, laid).
  DERIVED. THE GIVEN ROWS OF THIS SEAT. 6 by the template 'for every input the law returns true; each argument reads behind the call as it read before'; 0 by the template 'total and deterministic' (their statements: YtelbpnlpmaihhaaTotals.lean).
  GIVEN WITH THE SEED: the statements are not yours to turn. If you find one false, say at which input.
  Laid BY PROGRAM, IN A SANDBOX (cutbox-rows.mjs): the forced cells as the released guide's own fill.sh prints them over the translation 8733e65d2c800a17… (all of the seat's roots in one cut). By AI agents, Wed Nov 11 2026. No macro, syntax, notation, axiom, sorry.
-/
import Derived.Test.YtelbpnlpmaihhaaChecked
import GoSem.Claim
import GoSem.ClaimJoined
import GoSem.ClaimMapViews
import Derived.JoinedTies
import Derived.KernelRfl
namespace Go.Proofs.Ytelbpnlpmaihhaa
/- THE CELL 'sum', in the pinned program and in every row, IS THE sha256 OF THE DUMP (.gsa) THAT YtelbpnlpmaihhaaProg.lean LOADS. Nothing in Lean hashes anything: it is a label: what it is worth is what the hold of that sum in a sandbox is worth. -/
noncomputable def Try.pinned : Pinned := { name := "ytelbpnlpmaihhaa", sum := "8733e65d2c800a17639e31f50065744d78cb89eab45db3b255fd39ae23e66cfd", checked := Try.checked }
namespace Rows
def none {H : Type} : Left H := { results := [], args := [] }

/-- 'latchkeylaw19.LocksOrder': WHATEVER THE INPUT: true; the input reads as it did. -/
def locksOrderSpec : ChangeSpec := { name := "locksOrder", fn := fun _ => fun
  | [d] => { results := [.lit (.bool true)], args := [d] }
  | _ => none }
def locksOrderRow : OpenClaim := { program := "ytelbpnlpmaihhaa", sum := "8733e65d2c800a17639e31f50065744d78cb89eab45db3b255fd39ae23e66cfd", func := "latchkey/latchkeylaw19.LocksOrder", spec := "locksOrder", inPlace := ["slices.overlaps[int]"], unfollowed := true, recurses := true, apart := false }
def LocksOrderSaid : Prop := locksOrderRow.holds Try.pinned (OpenSpec.ofChange locksOrderSpec)

/-- ITS FALSE NEIGHBOUR: 'it returns false'. Refute it at one input. -/
def locksOrderWrong : ChangeSpec := { name := "locksOrder", fn := fun _ => fun
  | [d] => { results := [.lit (.bool false)], args := [d] }
  | _ => none }
def LocksOrderWrongFalsely : Prop := locksOrderRow.holds Try.pinned (OpenSpec.ofChange locksOrderWrong)

/-- 'latchkeylaw19.LocksTokens': WHATEVER THE INPUT: true; the input reads as it did. -/
def locksTokensSpec : ChangeSpec := { name := "locksTokens", fn := fun _ => fun
  | [d1, d2] => { results := [.lit (.bool true)], args := [d1, d2] }
  | _ => none }
def locksTokensRow : OpenClaim := { program := "ytelbpnlpmaihhaa", sum := "8733e65d2c800a17639e31f50065744d78cb89eab45db3b255fd39ae23e66cfd", func := "latchkey/latchkeylaw19.LocksTokens", spec := "locksTokens", inPlace := ["slices.overlaps[int]"], unfollowed := true, recurses := true, apart := false }
def LocksTokensSaid : Prop := locksTokensRow.holds Try.pinned (OpenSpec.ofChange locksTokensSpec)

/-- ITS FALSE NEIGHBOUR: 'it returns false'. Refute it at one input. -/
def locksTokensWrong : ChangeSpec := { name := "locksTokens", fn := fun _ => fun
  | [d1, d2] => { results := [.lit (.bool false)], args := [d1, d2] }
  | _ => none }
def LocksTokensWrongFalsely : Prop := locksTokensRow.holds Try.pinned (OpenSpec.ofChange locksTokensWrong)

/-- 'latchkeylaw19.LocksAlone': WHATEVER THE INPUT: true; the input reads as it did. -/
def locksAloneSpec : ChangeSpec := { name := "locksAlone", fn := fun _ => fun
  | [d] => { results := [.lit (.bool true)], args := [d] }
  | _ => none }
def locksAloneRow : OpenClaim := { program := "ytelbpnlpmaihhaa", sum := "8733e65d2c800a17639e31f50065744d78cb89eab45db3b255fd39ae23e66cfd", func := "latchkey/latchkeylaw19.LocksAlone", spec := "locksAlone", inPlace := ["slices.overlaps[int]"], unfollowed := true, recurses := true, apart := false }
def LocksAloneSaid : Prop := locksAloneRow.holds Try.pinned (OpenSpec.ofChange locksAloneSpec)

/-- ITS FALSE NEIGHBOUR: 'it returns false'. Refute it at one input. -/
def locksAloneWrong : ChangeSpec := { name := "locksAlone", fn := fun _ => fun
  | [d] => { results := [.lit (.bool false)], args := [d] }
  | _ => none }
def LocksAloneWrongFalsely : Prop := locksAloneRow.holds Try.pinned (OpenSpec.ofChange locksAloneWrong)

/-- 'latchkeylaw19.LocksNone': WHATEVER THE INPUT: true; the input reads as it did. -/
def locksNoneSpec : ChangeSpec := { name := "locksNone", fn := fun _ => fun
  | [d] => { results := [.lit (.bool true)], args := [d] }
  | _ => none }
def locksNoneRow : OpenClaim := { program := "ytelbpnlpmaihhaa", sum := "8733e65d2c800a17639e31f50065744d78cb89eab45db3b255fd39ae23e66cfd", func := "latchkey/latchkeylaw19.LocksNone", spec := "locksNone", inPlace := ["slices.overlaps[int]"], unfollowed := true, recurses := true, apart := false }
def LocksNoneSaid : Prop := locksNoneRow.holds Try.pinned (OpenSpec.ofChange locksNoneSpec)

/-- ITS FALSE NEIGHBOUR: 'it returns false'. Refute it at one input. -/
def locksNoneWrong : ChangeSpec := { name := "locksNone", fn := fun _ => fun
  | [d] => { results := [.lit (.bool false)], args := [d] }
  | _ => none }
def LocksNoneWrongFalsely : Prop := locksNoneRow.holds Try.pinned (OpenSpec.ofChange locksNoneWrong)

/-- 'latchkeylaw19.LocksReads': WHATEVER THE INPUT: true; the input reads as it did. -/
def locksReadsSpec : ChangeSpec := { name := "locksReads", fn := fun _ => fun
  | [d] => { results := [.lit (.bool true)], args := [d] }
  | _ => none }
def locksReadsRow : OpenClaim := { program := "ytelbpnlpmaihhaa", sum := "8733e65d2c800a17639e31f50065744d78cb89eab45db3b255fd39ae23e66cfd", func := "latchkey/latchkeylaw19.LocksReads", spec := "locksReads", inPlace := ["slices.overlaps[int]"], unfollowed := true, recurses := true, apart := false }
def LocksReadsSaid : Prop := locksReadsRow.holds Try.pinned (OpenSpec.ofChange locksReadsSpec)

/-- ITS FALSE NEIGHBOUR: 'it returns false'. Refute it at one input. -/
def locksReadsWrong : ChangeSpec := { name := "locksReads", fn := fun _ => fun
  | [d] => { results := [.lit (.bool false)], args := [d] }
  | _ => none }
def LocksReadsWrongFalsely : Prop := locksReadsRow.holds Try.pinned (OpenSpec.ofChange locksReadsWrong)

/-- 'latchkeylaw19.LocksPlays': WHATEVER THE INPUT: true; the input reads as it did. -/
def locksPlaysSpec : ChangeSpec := { name := "locksPlays", fn := fun _ => fun
  | [d] => { results := [.lit (.bool true)], args := [d] }
  | _ => none }
def locksPlaysRow : OpenClaim := { program := "ytelbpnlpmaihhaa", sum := "8733e65d2c800a17639e31f50065744d78cb89eab45db3b255fd39ae23e66cfd", func := "latchkey/latchkeylaw19.LocksPlays", spec := "locksPlays", inPlace := ["slices.overlaps[int]"], unfollowed := true, recurses := true, apart := false }
def LocksPlaysSaid : Prop := locksPlaysRow.holds Try.pinned (OpenSpec.ofChange locksPlaysSpec)

/-- ITS FALSE NEIGHBOUR: 'it returns false'. Refute it at one input. -/
def locksPlaysWrong : ChangeSpec := { name := "locksPlays", fn := fun _ => fun
  | [d] => { results := [.lit (.bool false)], args := [d] }
  | _ => none }
def LocksPlaysWrongFalsely : Prop := locksPlaysRow.holds Try.pinned (OpenSpec.ofChange locksPlaysWrong)

/- THE SECOND FORM. 'bulk': how many values and letters a reading holds, each counted each time it is reached (what is shared counts as often as it is met; a slice's spare places count too). A statement '..UptoSaid' is the law's where the arguments, and the package variables that the reading takes, are together of bulk at most 1048576: NARROWER than '..Said'. Prove '..Said' where nothing that the law and all that it calls make is longer than what came in: it says more and counts as full. Else prove '..UptoSaid'. A law counts once. -/
mutual
def uptoBulk {H : Type} : DataW H → Nat
  | .lit (.string bytes) => bytes.length + 1
  | .lit _ => 1
  | .nil => 1
  | .ptr d => uptoBulk d + 1
  | .slice elems spare => uptoBulkAll elems + uptoBulkAll spare + 1
  | .agg parts => uptoBulkAll parts + 1
  | .iface _ d => uptoBulk d + 1
  | .map entries => uptoBulkEntries entries + 1
  | .held _ => 1
def uptoBulkAll {H : Type} : List (DataW H) → Nat
  | [] => 0
  | d :: r => uptoBulk d + uptoBulkAll r
def uptoBulkEntries {H : Type} : List (Lit × DataW H) → Nat
  | [] => 0
  | x :: r => uptoBulkEntry x + uptoBulkEntries r
def uptoBulkEntry {H : Type} : Lit × DataW H → Nat
  | (.string bytes, d) => bytes.length + uptoBulk d + 1
  | (_, d) => uptoBulk d + 1
 end
def uptoSmall : (H : Type) → List (DataW H) → Bool := fun _ ds => decide (uptoBulkAll ds ≤ 1048576)
def OpenSpec.upto (s : _root_.Go.ChangeSpec) : _root_.Go.OpenSpec := { _root_.Go.OpenSpec.ofChange s with cond := some uptoSmall }

/-- 'latchkeylaw19.LocksOrder', WHERE WHAT IT READS IS OF BULK AT MOST 1048576: true; the input reads as it did. -/
def locksOrderUptoRow : OpenClaim := { program := "ytelbpnlpmaihhaa", sum := "8733e65d2c800a17639e31f50065744d78cb89eab45db3b255fd39ae23e66cfd", func := "latchkey/latchkeylaw19.LocksOrder", spec := "locksOrder", inPlace := ["slices.overlaps[int]"], unfollowed := true, recurses := true, apart := false, narrowed := true }
def LocksOrderUptoSaid : Prop := locksOrderUptoRow.holds Try.pinned (OpenSpec.upto locksOrderSpec)

/-- 'latchkeylaw19.LocksTokens', WHERE WHAT IT READS IS OF BULK AT MOST 1048576: true; the input reads as it did. -/
def locksTokensUptoRow : OpenClaim := { program := "ytelbpnlpmaihhaa", sum := "8733e65d2c800a17639e31f50065744d78cb89eab45db3b255fd39ae23e66cfd", func := "latchkey/latchkeylaw19.LocksTokens", spec := "locksTokens", inPlace := ["slices.overlaps[int]"], unfollowed := true, recurses := true, apart := false, narrowed := true }
def LocksTokensUptoSaid : Prop := locksTokensUptoRow.holds Try.pinned (OpenSpec.upto locksTokensSpec)

/-- 'latchkeylaw19.LocksAlone', WHERE WHAT IT READS IS OF BULK AT MOST 1048576: true; the input reads as it did. -/
def locksAloneUptoRow : OpenClaim := { program := "ytelbpnlpmaihhaa", sum := "8733e65d2c800a17639e31f50065744d78cb89eab45db3b255fd39ae23e66cfd", func := "latchkey/latchkeylaw19.LocksAlone", spec := "locksAlone", inPlace := ["slices.overlaps[int]"], unfollowed := true, recurses := true, apart := false, narrowed := true }
def LocksAloneUptoSaid : Prop := locksAloneUptoRow.holds Try.pinned (OpenSpec.upto locksAloneSpec)

/-- 'latchkeylaw19.LocksNone', WHERE WHAT IT READS IS OF BULK AT MOST 1048576: true; the input reads as it did. -/
def locksNoneUptoRow : OpenClaim := { program := "ytelbpnlpmaihhaa", sum := "8733e65d2c800a17639e31f50065744d78cb89eab45db3b255fd39ae23e66cfd", func := "latchkey/latchkeylaw19.LocksNone", spec := "locksNone", inPlace := ["slices.overlaps[int]"], unfollowed := true, recurses := true, apart := false, narrowed := true }
def LocksNoneUptoSaid : Prop := locksNoneUptoRow.holds Try.pinned (OpenSpec.upto locksNoneSpec)

/-- 'latchkeylaw19.LocksReads', WHERE WHAT IT READS IS OF BULK AT MOST 1048576: true; the input reads as it did. -/
def locksReadsUptoRow : OpenClaim := { program := "ytelbpnlpmaihhaa", sum := "8733e65d2c800a17639e31f50065744d78cb89eab45db3b255fd39ae23e66cfd", func := "latchkey/latchkeylaw19.LocksReads", spec := "locksReads", inPlace := ["slices.overlaps[int]"], unfollowed := true, recurses := true, apart := false, narrowed := true }
def LocksReadsUptoSaid : Prop := locksReadsUptoRow.holds Try.pinned (OpenSpec.upto locksReadsSpec)

/-- 'latchkeylaw19.LocksPlays', WHERE WHAT IT READS IS OF BULK AT MOST 1048576: true; the input reads as it did. -/
def locksPlaysUptoRow : OpenClaim := { program := "ytelbpnlpmaihhaa", sum := "8733e65d2c800a17639e31f50065744d78cb89eab45db3b255fd39ae23e66cfd", func := "latchkey/latchkeylaw19.LocksPlays", spec := "locksPlays", inPlace := ["slices.overlaps[int]"], unfollowed := true, recurses := true, apart := false, narrowed := true }
def LocksPlaysUptoSaid : Prop := locksPlaysUptoRow.holds Try.pinned (OpenSpec.upto locksPlaysSpec)

end Rows
end Go.Proofs.Ytelbpnlpmaihhaa
