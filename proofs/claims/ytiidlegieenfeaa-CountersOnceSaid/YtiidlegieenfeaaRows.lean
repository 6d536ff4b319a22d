/-
  No cell of these rows narrows 'for every input' (looked for: loops, veiled, ifaces, maps, wideKeys, modest, calm, conditions, laid).
  DERIVED. THE GIVEN ROWS OF THIS SEAT. 5 by the template 'for every input the law returns true; each argument reads behind the call as it read before'; 0 by the template 'total and deterministic' (their statements: YtiidlegieenfeaaTotals.lean).
  GIVEN WITH THE SEED: the statements are not yours to turn. If you find one false, say at which input.
  Laid BY PROGRAM, IN A SANDBOX (cutbox-rows.mjs): the forced cells as the released guide's own fill.sh prints them over the translation 3fde19fc9bc6d6d6… (all of the seat's roots in one cut). By AI agents, Wed Nov 11 2026. No macro, syntax, notation, axiom, sorry.
-/
import Derived.Test.YtiidlegieenfeaaChecked
import GoSem.Claim
import GoSem.ClaimJoined
import GoSem.ClaimMapViews
import Derived.JoinedTies
import Derived.KernelRfl
namespace Go.Proofs.Ytiidlegieenfeaa
/- THE CELL 'sum', in the pinned program and in every row, IS THE sha256 OF THE DUMP (.gsa) THAT YtiidlegieenfeaaProg.lean LOADS. Nothing in Lean hashes anything: it is a label: what it is worth is what the hold of that sum in a sandbox is worth. -/
noncomputable def Try.pinned : Pinned := { name := "ytiidlegieenfeaa", sum := "3fde19fc9bc6d6d673e0980d4581c5ead93d2bf63f7d070151e6055ee5750e73", checked := Try.checked }
namespace Rows
def none {H : Type} : Left H := { results := [], args := [] }

/-- 'latchkeylaw20.CountersSums': WHATEVER THE INPUT: true; the input reads as it did. -/
def countersSumsSpec : ChangeSpec := { name := "countersSums", fn := fun _ => fun
  | [d] => { results := [.lit (.bool true)], args := [d] }
  | _ => none }
def countersSumsRow : OpenClaim := { program := "ytiidlegieenfeaa", sum := "3fde19fc9bc6d6d673e0980d4581c5ead93d2bf63f7d070151e6055ee5750e73", func := "latchkey/latchkeylaw20.CountersSums", spec := "countersSums", unfollowed := true, recurses := true, apart := false }
def CountersSumsSaid : Prop := countersSumsRow.holds Try.pinned (OpenSpec.ofChange countersSumsSpec)

/-- ITS FALSE NEIGHBOUR: 'it returns false'. Refute it at one input. -/
def countersSumsWrong : ChangeSpec := { name := "countersSums", fn := fun _ => fun
  | [d] => { results := [.lit (.bool false)], args := [d] }
  | _ => none }
def CountersSumsWrongFalsely : Prop := countersSumsRow.holds Try.pinned (OpenSpec.ofChange countersSumsWrong)

/-- 'latchkeylaw20.CountersOnce': WHATEVER THE INPUT: true; the input reads as it did. -/
def countersOnceSpec : ChangeSpec := { name := "countersOnce", fn := fun _ => fun
  | [d1, d2] => { results := [.lit (.bool true)], args := [d1, d2] }
  | _ => none }
def countersOnceRow : OpenClaim := { program := "ytiidlegieenfeaa", sum := "3fde19fc9bc6d6d673e0980d4581c5ead93d2bf63f7d070151e6055ee5750e73", func := "latchkey/latchkeylaw20.CountersOnce", spec := "countersOnce", unfollowed := true, recurses := true, apart := false }
def CountersOnceSaid : Prop := countersOnceRow.holds Try.pinned (OpenSpec.ofChange countersOnceSpec)

/-- ITS FALSE NEIGHBOUR: 'it returns false'. Refute it at one input. -/
def countersOnceWrong : ChangeSpec := { name := "countersOnce", fn := fun _ => fun
  | [d1, d2] => { results := [.lit (.bool false)], args := [d1, d2] }
  | _ => none }
def CountersOnceWrongFalsely : Prop := countersOnceRow.holds Try.pinned (OpenSpec.ofChange countersOnceWrong)

/-- 'latchkeylaw20.CountersNone': WHATEVER THE INPUT: true; the input reads as it did. -/
def countersNoneSpec : ChangeSpec := { name := "countersNone", fn := fun _ => fun
  | [d] => { results := [.lit (.bool true)], args := [d] }
  | _ => none }
def countersNoneRow : OpenClaim := { program := "ytiidlegieenfeaa", sum := "3fde19fc9bc6d6d673e0980d4581c5ead93d2bf63f7d070151e6055ee5750e73", func := "latchkey/latchkeylaw20.CountersNone", spec := "countersNone", unfollowed := true, recurses := true, apart := false }
def CountersNoneSaid : Prop := countersNoneRow.holds Try.pinned (OpenSpec.ofChange countersNoneSpec)

/-- ITS FALSE NEIGHBOUR: 'it returns false'. Refute it at one input. -/
def countersNoneWrong : ChangeSpec := { name := "countersNone", fn := fun _ => fun
  | [d] => { results := [.lit (.bool false)], args := [d] }
  | _ => none }
def CountersNoneWrongFalsely : Prop := countersNoneRow.holds Try.pinned (OpenSpec.ofChange countersNoneWrong)

/-- 'latchkeylaw20.CountersPlays': WHATEVER THE INPUT: true; the input reads as it did. -/
def countersPlaysSpec : ChangeSpec := { name := "countersPlays", fn := fun _ => fun
  | [d] => { results := [.lit (.bool true)], args := [d] }
  | _ => none }
def countersPlaysRow : OpenClaim := { program := "ytiidlegieenfeaa", sum := "3fde19fc9bc6d6d673e0980d4581c5ead93d2bf63f7d070151e6055ee5750e73", func := "latchkey/latchkeylaw20.CountersPlays", spec := "countersPlays", unfollowed := true, recurses := true, apart := false }
def CountersPlaysSaid : Prop := countersPlaysRow.holds Try.pinned (OpenSpec.ofChange countersPlaysSpec)

/-- ITS FALSE NEIGHBOUR: 'it returns false'. Refute it at one input. -/
def countersPlaysWrong : ChangeSpec := { name := "countersPlays", fn := fun _ => fun
  | [d] => { results := [.lit (.bool false)], args := [d] }
  | _ => none }
def CountersPlaysWrongFalsely : Prop := countersPlaysRow.holds Try.pinned (OpenSpec.ofChange countersPlaysWrong)

/-- 'latchkeylaw20.CountersReads': WHATEVER THE INPUT: true; the input reads as it did. -/
def countersReadsSpec : ChangeSpec := { name := "countersReads", fn := fun _ => fun
  | [d] => { results := [.lit (.bool true)], args := [d] }
  | _ => none }
def countersReadsRow : OpenClaim := { program := "ytiidlegieenfeaa", sum := "3fde19fc9bc6d6d673e0980d4581c5ead93d2bf63f7d070151e6055ee5750e73", func := "latchkey/latchkeylaw20.CountersReads", spec := "countersReads", unfollowed := true, recurses := true, apart := false }
def CountersReadsSaid : Prop := countersReadsRow.holds Try.pinned (OpenSpec.ofChange countersReadsSpec)

/-- ITS FALSE NEIGHBOUR: 'it returns false'. Refute it at one input. -/
def countersReadsWrong : ChangeSpec := { name := "countersReads", fn := fun _ => fun
  | [d] => { results := [.lit (.bool false)], args := [d] }
  | _ => none }
def CountersReadsWrongFalsely : Prop := countersReadsRow.holds Try.pinned (OpenSpec.ofChange countersReadsWrong)

/- THE SECOND FORM. 'bulk': how many values and letters a reading holds, each counted each time it is reached (what is shared counts as often as it is met; a slice's spare places count too). A statement '..UptoSaid' is the law's where the arguments, and the package variables that the reading takes, are together of bulk at most 1048576: NARROWER than '..Said'. Prove '..Said' where nothing that the law and all that it calls make is longer than what came in: it says more and counts as full. Else prove '..UptoSaid'. A law counts once. -/
mutual
def uptoBulk {H : Type} : DataW H → Nat
  | .lit (.string bytes) => bytes.length + 1
  | .lit _ => 1
  | .nil => 1
  | .ptr d => uptoBulk d + 1
  | .slice elems spare => uptoBulkAll elems + uptoBulkAll spare + 1
  | .agg parts => uptoBulkAll parts + 1
  | .iface _ d => uptoBulk d + 1
  | .map entries => uptoBulkEntries entries + 1
  | .held _ => 1
def uptoBulkAll {H : Type} : List (DataW H) → Nat
  | [] => 0
  | d :: r => uptoBulk d + uptoBulkAll r
def uptoBulkEntries {H : Type} : List (Lit × DataW H) → Nat
  | [] => 0
  | x :: r => uptoBulkEntry x + uptoBulkEntries r
def uptoBulkEntry {H : Type} : Lit × DataW H → Nat
  | (.string bytes, d) => bytes.length + uptoBulk d + 1
  | (_, d) => uptoBulk d + 1
 end
def uptoSmall : (H : Type) → List (DataW H) → Bool := fun _ ds => decide (uptoBulkAll ds ≤ 1048576)
def OpenSpec.upto (s : _root_.Go.ChangeSpec) : _root_.Go.OpenSpec := { _root_.Go.OpenSpec.ofChange s with cond := some uptoSmall }

/-- 'latchkeylaw20.CountersSums', WHERE WHAT IT READS IS OF BULK AT MOST 1048576: true; the input reads as it did. -/
def countersSumsUptoRow : OpenClaim := { program := "ytiidlegieenfeaa", sum := "3fde19fc9bc6d6d673e0980d4581c5ead93d2bf63f7d070151e6055ee5750e73", func := "latchkey/latchkeylaw20.CountersSums", spec := "countersSums", unfollowed := true, recurses := true, apart := false, narrowed := true }
def CountersSumsUptoSaid : Prop := countersSumsUptoRow.holds Try.pinned (OpenSpec.upto countersSumsSpec)

/-- 'latchkeylaw20.CountersOnce', WHERE WHAT IT READS IS OF BULK AT MOST 1048576: true; the input reads as it did. -/
def countersOnceUptoRow : OpenClaim := { program := "ytiidlegieenfeaa", sum := "3fde19fc9bc6d6d673e0980d4581c5ead93d2bf63f7d070151e6055ee5750e73", func := "latchkey/latchkeylaw20.CountersOnce", spec := "countersOnce", unfollowed := true, recurses := true, apart := false, narrowed := true }
def CountersOnceUptoSaid : Prop := countersOnceUptoRow.holds Try.pinned (OpenSpec.upto countersOnceSpec)

/-- 'latchkeylaw20.CountersNone', WHERE WHAT IT READS IS OF BULK AT MOST 1048576: true; the input reads as it did. -/
def countersNoneUptoRow : OpenClaim := { program := "ytiidlegieenfeaa", sum := "3fde19fc9bc6d6d673e0980d4581c5ead93d2bf63f7d070151e6055ee5750e73", func := "latchkey/latchkeylaw20.CountersNone", spec := "countersNone", unfollowed := true, recurses := true, apart := false, narrowed := true }
def CountersNoneUptoSaid : Prop := countersNoneUptoRow.holds Try.pinned (OpenSpec.upto countersNoneSpec)

/-- 'latchkeylaw20.CountersPlays', WHERE WHAT IT READS IS OF BULK AT MOST 1048576: true; the input reads as it did. -/
def countersPlaysUptoRow : OpenClaim := { program := "ytiidlegieenfeaa", sum := "3fde19fc9bc6d6d673e0980d4581c5ead93d2bf63f7d070151e6055ee5750e73", func := "latchkey/latchkeylaw20.CountersPlays", spec := "countersPlays", unfollowed := true, recurses := true, apart := false, narrowed := true }
def CountersPlaysUptoSaid : Prop := countersPlaysUptoRow.holds Try.pinned (OpenSpec.upto countersPlaysSpec)

/-- 'latchkeylaw20.CountersReads', WHERE WHAT IT READS IS OF BULK AT MOST 1048576: true; the input reads as it did. -/
def countersReadsUptoRow : OpenClaim := { program := "ytiidlegieenfeaa", sum := "3fde19fc9bc6d6d673e0980d4581c5ead93d2bf63f7d070151e6055ee5750e73", func := "latchkey/latchkeylaw20.CountersReads", spec := "countersReads", unfollowed := true, recurses := true, apart := false, narrowed := true }
def CountersReadsUptoSaid : Prop := countersReadsUptoRow.holds Try.pinned (OpenSpec.upto countersReadsSpec)

end Rows
end Go.Proofs.Ytiidlegieenfeaa
