/-
  No cell of these rows narrows 'for every input' (looked for: loops, veiled, ifaces, maps, wideKeys, modest, calm, conditions, laid).
  DERIVED. THE GIVEN ROWS OF THIS SEAT. 4 by the template 'for every input the law returns true; each argument reads behind the call as it read before'; 0 by the template 'total and deterministic' (their statements: YtnloocmdjlfbpaaGreatTotals.lean).
  GIVEN WITH THE SEED: the statements are not yours to turn. If you find one false, say at which input.
  Laid BY PROGRAM, IN A SANDBOX (cutbox-rows.mjs): the forced cells as the released guide's own fill.sh prints them over the translation 5d1c1cfc1f1305c0… (all of the seat's roots in one cut). By AI agents, Wed Nov 11 2026. No macro, syntax, notation, axiom, sorry.
-/
import Derived.Test.YtnloocmdjlfbpaaGreatChecked
import GoSem.Claim
import GoSem.ClaimJoined
import GoSem.ClaimMapViews
import Derived.JoinedTies
import Derived.KernelRfl
namespace Go.Proofs.YtnloocmdjlfbpaaGreat
/- THE CELL 'sum', in the pinned program and in every row, IS THE sha256 OF THE DUMP (.gsa) THAT YtnloocmdjlfbpaaGreatProg.lean LOADS. Nothing in Lean hashes anything: it is a label: what it is worth is what the hold of that sum in a sandbox is worth. -/
noncomputable def Tryz.pinned : Pinned := { name := "ytnloocmdjlfbpaagreat", sum := "5d1c1cfc1f1305c0b1005124f0bafb244cac8a7b7e8eeb6debe8bfe422fdc5d5", checked := Tryz.checked }
namespace Rows
def none {H : Type} : Left H := { results := [], args := [] }

/-- 'latchkeylaw22.ReplicaRecords': WHATEVER THE INPUT: true; the input reads as it did. -/
def replicaRecordsSpec : ChangeSpec := { name := "replicaRecords", fn := fun _ => fun
  | [d1, d2, d3] => { results := [.lit (.bool true)], args := [d1, d2, d3] }
  | _ => none }
def replicaRecordsRow : OpenClaim := { program := "ytnloocmdjlfbpaagreat", sum := "5d1c1cfc1f1305c0b1005124f0bafb244cac8a7b7e8eeb6debe8bfe422fdc5d5", func := "latchkey/latchkeylaw22.ReplicaRecords", spec := "replicaRecords", inPlace := ["slices.overlaps[latchkey/api.Entry]"], unfollowed := true, recurses := true, apart := false }
def ReplicaRecordsSaid : Prop := replicaRecordsRow.holds Tryz.pinned (OpenSpec.ofChange replicaRecordsSpec)

/-- ITS FALSE NEIGHBOUR: 'it returns false'. Refute it at one input. -/
def replicaRecordsWrong : ChangeSpec := { name := "replicaRecords", fn := fun _ => fun
  | [d1, d2, d3] => { results := [.lit (.bool false)], args := [d1, d2, d3] }
  | _ => none }
def ReplicaRecordsWrongFalsely : Prop := replicaRecordsRow.holds Tryz.pinned (OpenSpec.ofChange replicaRecordsWrong)

/-- 'latchkeylaw22.ReplicaLeads': WHATEVER THE INPUT: true; the input reads as it did. -/
def replicaLeadsSpec : ChangeSpec := { name := "replicaLeads", fn := fun _ => fun
  | [d1, d2] => { results := [.lit (.bool true)], args := [d1, d2] }
  | _ => none }
def replicaLeadsRow : OpenClaim := { program := "ytnloocmdjlfbpaagreat", sum := "5d1c1cfc1f1305c0b1005124f0bafb244cac8a7b7e8eeb6debe8bfe422fdc5d5", func := "latchkey/latchkeylaw22.ReplicaLeads", spec := "replicaLeads", inPlace := ["slices.overlaps[latchkey/api.Entry]"], unfollowed := true, recurses := true, apart := false }
def ReplicaLeadsSaid : Prop := replicaLeadsRow.holds Tryz.pinned (OpenSpec.ofChange replicaLeadsSpec)

/-- ITS FALSE NEIGHBOUR: 'it returns false'. Refute it at one input. -/
def replicaLeadsWrong : ChangeSpec := { name := "replicaLeads", fn := fun _ => fun
  | [d1, d2] => { results := [.lit (.bool false)], args := [d1, d2] }
  | _ => none }
def ReplicaLeadsWrongFalsely : Prop := replicaLeadsRow.holds Tryz.pinned (OpenSpec.ofChange replicaLeadsWrong)

/-- 'latchkeylaw22.ReplicaAgrees': WHATEVER THE INPUT: true; the input reads as it did. -/
def replicaAgreesSpec : ChangeSpec := { name := "replicaAgrees", fn := fun _ => fun
  | [d1, d2] => { results := [.lit (.bool true)], args := [d1, d2] }
  | _ => none }
def replicaAgreesRow : OpenClaim := { program := "ytnloocmdjlfbpaagreat", sum := "5d1c1cfc1f1305c0b1005124f0bafb244cac8a7b7e8eeb6debe8bfe422fdc5d5", func := "latchkey/latchkeylaw22.ReplicaAgrees", spec := "replicaAgrees", inPlace := ["slices.overlaps[latchkey/api.Entry]"], unfollowed := true, recurses := true, apart := false }
def ReplicaAgreesSaid : Prop := replicaAgreesRow.holds Tryz.pinned (OpenSpec.ofChange replicaAgreesSpec)

/-- ITS FALSE NEIGHBOUR: 'it returns false'. Refute it at one input. -/
def replicaAgreesWrong : ChangeSpec := { name := "replicaAgrees", fn := fun _ => fun
  | [d1, d2] => { results := [.lit (.bool false)], args := [d1, d2] }
  | _ => none }
def ReplicaAgreesWrongFalsely : Prop := replicaAgreesRow.holds Tryz.pinned (OpenSpec.ofChange replicaAgreesWrong)

/-- 'latchkeylaw22.ReplicaNone': WHATEVER THE INPUT: true; the input reads as it did. -/
def replicaNoneSpec : ChangeSpec := { name := "replicaNone", fn := fun _ => fun
  | [d] => { results := [.lit (.bool true)], args := [d] }
  | _ => none }
def replicaNoneRow : OpenClaim := { program := "ytnloocmdjlfbpaagreat", sum := "5d1c1cfc1f1305c0b1005124f0bafb244cac8a7b7e8eeb6debe8bfe422fdc5d5", func := "latchkey/latchkeylaw22.ReplicaNone", spec := "replicaNone", inPlace := ["slices.overlaps[latchkey/api.Entry]"], unfollowed := true, recurses := true, apart := false }
def ReplicaNoneSaid : Prop := replicaNoneRow.holds Tryz.pinned (OpenSpec.ofChange replicaNoneSpec)

/-- ITS FALSE NEIGHBOUR: 'it returns false'. Refute it at one input. -/
def replicaNoneWrong : ChangeSpec := { name := "replicaNone", fn := fun _ => fun
  | [d] => { results := [.lit (.bool false)], args := [d] }
  | _ => none }
def ReplicaNoneWrongFalsely : Prop := replicaNoneRow.holds Tryz.pinned (OpenSpec.ofChange replicaNoneWrong)

/- THE SECOND FORM. 'bulk': how many values and letters a reading holds, each counted each time it is reached (what is shared counts as often as it is met; a slice's spare places count too). A statement '..UptoSaid' is the law's where the arguments, and the package variables that the reading takes, are together of bulk at most 1048576: NARROWER than '..Said'. Prove '..Said' where nothing that the law and all that it calls make is longer than what came in: it says more and counts as full. Else prove '..UptoSaid'. A law counts once. -/
mutual
def uptoBulk {H : Type} : DataW H → Nat
  | .lit (.string bytes) => bytes.length + 1
  | .lit _ => 1
  | .nil => 1
  | .ptr d => uptoBulk d + 1
  | .slice elems spare => uptoBulkAll elems + uptoBulkAll spare + 1
  | .agg parts => uptoBulkAll parts + 1
  | .iface _ d => uptoBulk d + 1
  | .map entries => uptoBulkEntries entries + 1
  | .held _ => 1
def uptoBulkAll {H : Type} : List (DataW H) → Nat
  | [] => 0
  | d :: r => uptoBulk d + uptoBulkAll r
def uptoBulkEntries {H : Type} : List (Lit × DataW H) → Nat
  | [] => 0
  | x :: r => uptoBulkEntry x + uptoBulkEntries r
def uptoBulkEntry {H : Type} : Lit × DataW H → Nat
  | (.string bytes, d) => bytes.length + uptoBulk d + 1
  | (_, d) => uptoBulk d + 1
 end
def uptoSmall : (H : Type) → List (DataW H) → Bool := fun _ ds => decide (uptoBulkAll ds ≤ 1048576)
def OpenSpec.upto (s : _root_.Go.ChangeSpec) : _root_.Go.OpenSpec := { _root_.Go.OpenSpec.ofChange s with cond := some uptoSmall }

/-- 'latchkeylaw22.ReplicaRecords', WHERE WHAT IT READS IS OF BULK AT MOST 1048576: true; the input reads as it did. -/
def replicaRecordsUptoRow : OpenClaim := { program := "ytnloocmdjlfbpaagreat", sum := "5d1c1cfc1f1305c0b1005124f0bafb244cac8a7b7e8eeb6debe8bfe422fdc5d5", func := "latchkey/latchkeylaw22.ReplicaRecords", spec := "replicaRecords", inPlace := ["slices.overlaps[latchkey/api.Entry]"], unfollowed := true, recurses := true, apart := false, narrowed := true }
def ReplicaRecordsUptoSaid : Prop := replicaRecordsUptoRow.holds Tryz.pinned (OpenSpec.upto replicaRecordsSpec)

/-- 'latchkeylaw22.ReplicaLeads', WHERE WHAT IT READS IS OF BULK AT MOST 1048576: true; the input reads as it did. -/
def replicaLeadsUptoRow : OpenClaim := { program := "ytnloocmdjlfbpaagreat", sum := "5d1c1cfc1f1305c0b1005124f0bafb244cac8a7b7e8eeb6debe8bfe422fdc5d5", func := "latchkey/latchkeylaw22.ReplicaLeads", spec := "replicaLeads", inPlace := ["slices.overlaps[latchkey/api.Entry]"], unfollowed := true, recurses := true, apart := false, narrowed := true }
def ReplicaLeadsUptoSaid : Prop := replicaLeadsUptoRow.holds Tryz.pinned (OpenSpec.upto replicaLeadsSpec)

/-- 'latchkeylaw22.ReplicaAgrees', WHERE WHAT IT READS IS OF BULK AT MOST 1048576: true; the input reads as it did. -/
def replicaAgreesUptoRow : OpenClaim := { program := "ytnloocmdjlfbpaagreat", sum := "5d1c1cfc1f1305c0b1005124f0bafb244cac8a7b7e8eeb6debe8bfe422fdc5d5", func := "latchkey/latchkeylaw22.ReplicaAgrees", spec := "replicaAgrees", inPlace := ["slices.overlaps[latchkey/api.Entry]"], unfollowed := true, recurses := true, apart := false, narrowed := true }
def ReplicaAgreesUptoSaid : Prop := replicaAgreesUptoRow.holds Tryz.pinned (OpenSpec.upto replicaAgreesSpec)

/-- 'latchkeylaw22.ReplicaNone', WHERE WHAT IT READS IS OF BULK AT MOST 1048576: true; the input reads as it did. -/
def replicaNoneUptoRow : OpenClaim := { program := "ytnloocmdjlfbpaagreat", sum := "5d1c1cfc1f1305c0b1005124f0bafb244cac8a7b7e8eeb6debe8bfe422fdc5d5", func := "latchkey/latchkeylaw22.ReplicaNone", spec := "replicaNone", inPlace := ["slices.overlaps[latchkey/api.Entry]"], unfollowed := true, recurses := true, apart := false, narrowed := true }
def ReplicaNoneUptoSaid : Prop := replicaNoneUptoRow.holds Tryz.pinned (OpenSpec.upto replicaNoneSpec)

end Rows
end Go.Proofs.YtnloocmdjlfbpaaGreat
