/-
  No cell of these rows narrows 'for every input' (looked for: loops, veiled, ifaces, maps, wideKeys, modest, calm, conditions, laid).
  DERIVED. THE GIVEN ROWS OF THIS SEAT. 5 by the template 'for every input the law returns true; each argument reads behind the call as it read before'; 0 by the template 'total and deterministic' (their statements: YtiaiikacjcfccaaGreatTotals.lean).
  GIVEN WITH THE SEED: the statements are not yours to turn. If you find one false, say at which input.
  Laid BY PROGRAM, IN A SANDBOX (cutbox-rows.mjs): the forced cells as the released guide's own fill.sh prints them over the translation 7408dab4931f2b75… (all of the seat's roots in one cut). By AI agents, Wed Nov 11 2026. No macro, syntax, notation, axiom, sorry.
-/
import Derived.Test.YtiaiikacjcfccaaGreatChecked
import GoSem.Claim
import GoSem.ClaimJoined
import GoSem.ClaimMapViews
import Derived.JoinedTies
import Derived.KernelRfl
namespace Go.Proofs.YtiaiikacjcfccaaGreat
/- THE CELL 'sum', in the pinned program and in every row, IS THE sha256 OF THE DUMP (.gsa) THAT YtiaiikacjcfccaaGreatProg.lean LOADS. Nothing in Lean hashes anything: it is a label: what it is worth is what the hold of that sum in a sandbox is worth. -/
noncomputable def Tryz.pinned : Pinned := { name := "ytiaiikacjcfccaagreat", sum := "7408dab4931f2b7513b4a5ff6dfde8dfe03dca010f287ee44bc051728ed2c346", checked := Tryz.checked }
namespace Rows
def none {H : Type} : Left H := { results := [], args := [] }

/-- 'latchkeylaw24.ServerExpires': WHATEVER THE INPUT: true; the input reads as it did. -/
def serverExpiresSpec : ChangeSpec := { name := "serverExpires", fn := fun _ => fun
  | [d1, d2] => { results := [.lit (.bool true)], args := [d1, d2] }
  | _ => none }
def serverExpiresRow : OpenClaim := { program := "ytiaiikacjcfccaagreat", sum := "7408dab4931f2b7513b4a5ff6dfde8dfe03dca010f287ee44bc051728ed2c346", func := "latchkey/latchkeylaw24.ServerExpires", spec := "serverExpires", inPlace := ["slices.overlaps[latchkey/api.Entry]", "slices.overlaps[int]"], unfollowed := true, recurses := true, apart := false }
def ServerExpiresSaid : Prop := serverExpiresRow.holds Tryz.pinned (OpenSpec.ofChange serverExpiresSpec)

/-- ITS FALSE NEIGHBOUR: 'it returns false'. Refute it at one input. -/
def serverExpiresWrong : ChangeSpec := { name := "serverExpires", fn := fun _ => fun
  | [d1, d2] => { results := [.lit (.bool false)], args := [d1, d2] }
  | _ => none }
def ServerExpiresWrongFalsely : Prop := serverExpiresRow.holds Tryz.pinned (OpenSpec.ofChange serverExpiresWrong)

/-- 'latchkeylaw24.ServerAlone': WHATEVER THE INPUT: true; the input reads as it did. -/
def serverAloneSpec : ChangeSpec := { name := "serverAlone", fn := fun _ => fun
  | [d] => { results := [.lit (.bool true)], args := [d] }
  | _ => none }
def serverAloneRow : OpenClaim := { program := "ytiaiikacjcfccaagreat", sum := "7408dab4931f2b7513b4a5ff6dfde8dfe03dca010f287ee44bc051728ed2c346", func := "latchkey/latchkeylaw24.ServerAlone", spec := "serverAlone", inPlace := ["slices.overlaps[latchkey/api.Entry]", "slices.overlaps[int]"], unfollowed := true, recurses := true, apart := false }
def ServerAloneSaid : Prop := serverAloneRow.holds Tryz.pinned (OpenSpec.ofChange serverAloneSpec)

/-- ITS FALSE NEIGHBOUR: 'it returns false'. Refute it at one input. -/
def serverAloneWrong : ChangeSpec := { name := "serverAlone", fn := fun _ => fun
  | [d] => { results := [.lit (.bool false)], args := [d] }
  | _ => none }
def ServerAloneWrongFalsely : Prop := serverAloneRow.holds Tryz.pinned (OpenSpec.ofChange serverAloneWrong)

/-- 'latchkeylaw24.ServerPlays': WHATEVER THE INPUT: true; the input reads as it did. -/
def serverPlaysSpec : ChangeSpec := { name := "serverPlays", fn := fun _ => fun
  | [d1, d2, d3] => { results := [.lit (.bool true)], args := [d1, d2, d3] }
  | _ => none }
def serverPlaysRow : OpenClaim := { program := "ytiaiikacjcfccaagreat", sum := "7408dab4931f2b7513b4a5ff6dfde8dfe03dca010f287ee44bc051728ed2c346", func := "latchkey/latchkeylaw24.ServerPlays", spec := "serverPlays", inPlace := ["slices.overlaps[latchkey/api.Entry]", "slices.overlaps[int]"], unfollowed := true, recurses := true, apart := false }
def ServerPlaysSaid : Prop := serverPlaysRow.holds Tryz.pinned (OpenSpec.ofChange serverPlaysSpec)

/-- ITS FALSE NEIGHBOUR: 'it returns false'. Refute it at one input. -/
def serverPlaysWrong : ChangeSpec := { name := "serverPlays", fn := fun _ => fun
  | [d1, d2, d3] => { results := [.lit (.bool false)], args := [d1, d2, d3] }
  | _ => none }
def ServerPlaysWrongFalsely : Prop := serverPlaysRow.holds Tryz.pinned (OpenSpec.ofChange serverPlaysWrong)

/-- 'latchkeylaw24.ServerStarts': WHATEVER THE INPUT: true; the input reads as it did. -/
def serverStartsSpec : ChangeSpec := { name := "serverStarts", fn := fun _ => fun
  | [d] => { results := [.lit (.bool true)], args := [d] }
  | _ => none }
def serverStartsRow : OpenClaim := { program := "ytiaiikacjcfccaagreat", sum := "7408dab4931f2b7513b4a5ff6dfde8dfe03dca010f287ee44bc051728ed2c346", func := "latchkey/latchkeylaw24.ServerStarts", spec := "serverStarts", inPlace := ["slices.overlaps[latchkey/api.Entry]", "slices.overlaps[int]"], unfollowed := true, recurses := true, apart := false }
def ServerStartsSaid : Prop := serverStartsRow.holds Tryz.pinned (OpenSpec.ofChange serverStartsSpec)

/-- ITS FALSE NEIGHBOUR: 'it returns false'. Refute it at one input. -/
def serverStartsWrong : ChangeSpec := { name := "serverStarts", fn := fun _ => fun
  | [d] => { results := [.lit (.bool false)], args := [d] }
  | _ => none }
def ServerStartsWrongFalsely : Prop := serverStartsRow.holds Tryz.pinned (OpenSpec.ofChange serverStartsWrong)

/-- 'latchkeylaw24.ServerNone': WHATEVER THE INPUT: true; the input reads as it did. -/
def serverNoneSpec : ChangeSpec := { name := "serverNone", fn := fun _ => fun
  | [d] => { results := [.lit (.bool true)], args := [d] }
  | _ => none }
def serverNoneRow : OpenClaim := { program := "ytiaiikacjcfccaagreat", sum := "7408dab4931f2b7513b4a5ff6dfde8dfe03dca010f287ee44bc051728ed2c346", func := "latchkey/latchkeylaw24.ServerNone", spec := "serverNone", inPlace := ["slices.overlaps[latchkey/api.Entry]", "slices.overlaps[int]"], unfollowed := true, recurses := true, apart := false }
def ServerNoneSaid : Prop := serverNoneRow.holds Tryz.pinned (OpenSpec.ofChange serverNoneSpec)

/-- ITS FALSE NEIGHBOUR: 'it returns false'. Refute it at one input. -/
def serverNoneWrong : ChangeSpec := { name := "serverNone", fn := fun _ => fun
  | [d] => { results := [.lit (.bool false)], args := [d] }
  | _ => none }
def ServerNoneWrongFalsely : Prop := serverNoneRow.holds Tryz.pinned (OpenSpec.ofChange serverNoneWrong)

/- THE SECOND FORM. 'bulk': how many values and letters a reading holds, each counted each time it is reached (what is shared counts as often as it is met; a slice's spare places count too). A statement '..UptoSaid' is the law's where the arguments, and the package variables that the reading takes, are together of bulk at most 1048576: NARROWER than '..Said'. Prove '..Said' where nothing that the law and all that it calls make is longer than what came in: it says more and counts as full. Else prove '..UptoSaid'. A law counts once. -/
mutual
def uptoBulk {H : Type} : DataW H → Nat
  | .lit (.string bytes) => bytes.length + 1
  | .lit _ => 1
  | .nil => 1
  | .ptr d => uptoBulk d + 1
  | .slice elems spare => uptoBulkAll elems + uptoBulkAll spare + 1
  | .agg parts => uptoBulkAll parts + 1
  | .iface _ d => uptoBulk d + 1
  | .map entries => uptoBulkEntries entries + 1
  | .held _ => 1
def uptoBulkAll {H : Type} : List (DataW H) → Nat
  | [] => 0
  | d :: r => uptoBulk d + uptoBulkAll r
def uptoBulkEntries {H : Type} : List (Lit × DataW H) → Nat
  | [] => 0
  | x :: r => uptoBulkEntry x + uptoBulkEntries r
def uptoBulkEntry {H : Type} : Lit × DataW H → Nat
  | (.string bytes, d) => bytes.length + uptoBulk d + 1
  | (_, d) => uptoBulk d + 1
 end
def uptoSmall : (H : Type) → List (DataW H) → Bool := fun _ ds => decide (uptoBulkAll ds ≤ 1048576)
def OpenSpec.upto (s : _root_.Go.ChangeSpec) : _root_.Go.OpenSpec := { _root_.Go.OpenSpec.ofChange s with cond := some uptoSmall }

/-- 'latchkeylaw24.ServerExpires', WHERE WHAT IT READS IS OF BULK AT MOST 1048576: true; the input reads as it did. -/
def serverExpiresUptoRow : OpenClaim := { program := "ytiaiikacjcfccaagreat", sum := "7408dab4931f2b7513b4a5ff6dfde8dfe03dca010f287ee44bc051728ed2c346", func := "latchkey/latchkeylaw24.ServerExpires", spec := "serverExpires", inPlace := ["slices.overlaps[latchkey/api.Entry]", "slices.overlaps[int]"], unfollowed := true, recurses := true, apart := false, narrowed := true }
def ServerExpiresUptoSaid : Prop := serverExpiresUptoRow.holds Tryz.pinned (OpenSpec.upto serverExpiresSpec)

/-- 'latchkeylaw24.ServerAlone', WHERE WHAT IT READS IS OF BULK AT MOST 1048576: true; the input reads as it did. -/
def serverAloneUptoRow : OpenClaim := { program := "ytiaiikacjcfccaagreat", sum := "7408dab4931f2b7513b4a5ff6dfde8dfe03dca010f287ee44bc051728ed2c346", func := "latchkey/latchkeylaw24.ServerAlone", spec := "serverAlone", inPlace := ["slices.overlaps[latchkey/api.Entry]", "slices.overlaps[int]"], unfollowed := true, recurses := true, apart := false, narrowed := true }
def ServerAloneUptoSaid : Prop := serverAloneUptoRow.holds Tryz.pinned (OpenSpec.upto serverAloneSpec)

/-- 'latchkeylaw24.ServerPlays', WHERE WHAT IT READS IS OF BULK AT MOST 1048576: true; the input reads as it did. -/
def serverPlaysUptoRow : OpenClaim := { program := "ytiaiikacjcfccaagreat", sum := "7408dab4931f2b7513b4a5ff6dfde8dfe03dca010f287ee44bc051728ed2c346", func := "latchkey/latchkeylaw24.ServerPlays", spec := "serverPlays", inPlace := ["slices.overlaps[latchkey/api.Entry]", "slices.overlaps[int]"], unfollowed := true, recurses := true, apart := false, narrowed := true }
def ServerPlaysUptoSaid : Prop := serverPlaysUptoRow.holds Tryz.pinned (OpenSpec.upto serverPlaysSpec)

/-- 'latchkeylaw24.ServerStarts', WHERE WHAT IT READS IS OF BULK AT MOST 1048576: true; the input reads as it did. -/
def serverStartsUptoRow : OpenClaim := { program := "ytiaiikacjcfccaagreat", sum := "7408dab4931f2b7513b4a5ff6dfde8dfe03dca010f287ee44bc051728ed2c346", func := "latchkey/latchkeylaw24.ServerStarts", spec := "serverStarts", inPlace := ["slices.overlaps[latchkey/api.Entry]", "slices.overlaps[int]"], unfollowed := true, recurses := true, apart := false, narrowed := true }
def ServerStartsUptoSaid : Prop := serverStartsUptoRow.holds Tryz.pinned (OpenSpec.upto serverStartsSpec)

/-- 'latchkeylaw24.ServerNone', WHERE WHAT IT READS IS OF BULK AT MOST 1048576: true; the input reads as it did. -/
def serverNoneUptoRow : OpenClaim := { program := "ytiaiikacjcfccaagreat", sum := "7408dab4931f2b7513b4a5ff6dfde8dfe03dca010f287ee44bc051728ed2c346", func := "latchkey/latchkeylaw24.ServerNone", spec := "serverNone", inPlace := ["slices.overlaps[latchkey/api.Entry]", "slices.overlaps[int]"], unfollowed := true, recurses := true, apart := false, narrowed := true }
def ServerNoneUptoSaid : Prop := serverNoneUptoRow.holds Tryz.pinned (OpenSpec.upto serverNoneSpec)

end Rows
end Go.Proofs.YtiaiikacjcfccaaGreat
