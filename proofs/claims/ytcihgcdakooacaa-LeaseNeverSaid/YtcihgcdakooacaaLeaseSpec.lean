/-
  The book of leases as plain data.
-/
import Derived.Test.YtcihgcdakooacaaIntContains
import Derived.Test.YtcihgcdakooacaaIntClone
import Derived.Test.YtcihgcdakooacaaIntSort
import Derived.Test.YtcihgcdakooacaaIntCompact
import Derived.Test.YtcihgcdakooacaaQuiet
import Derived.Test.YtcihgcdakooacaaOpen
namespace Go.Proofs.Ytcihgcdakooacaa
set_option linter.unusedVariables false
set_option linter.unusedSimpArgs false

structure KeepS where
  session : Int
  tag : Int
  client : Int
  at_ : Int
  round : Int

def iv (n : Int) : Value := .int .i64 n
def KeepS.cells (k : KeepS) : List Value := [.int .i64 k.session, .int .i64 k.tag, .int .i64 k.client, .int .i64 k.at_, .int .i64 k.round]
theorem KeepS.cells_length (k : KeepS) : k.cells.length = 5 := rfl

structure LeaseS where
  ends : List (Int × Int)
  keeps : List KeepS

abbrev ikv : Int × Int → Value × Value := akv (Value.int .i64) (Value.int .i64)

/-- The book at block g: off (none), or on. -/
def LeaseSt (w0 w : World) (g : Nat) (R : List Hp) : Option LeaseS → Prop
  | none => St w0 w (.cells g [.bool false, .map none, .slice none 0 0] 57 :: R)
  | some σ => ∃ b ao cap, St w0 w (.cells g [.bool true, .map (some b), .slice ao σ.keeps.length cap] 57 :: .mp b (.int .i64) (σ.ends.map ikv) :: .row 59 5 ao σ.keeps.length cap (σ.keeps.flatMap KeepS.cells) :: R)

/-- An answer to a keep. -/
def msgCells (m : KeepS × Int) : List Value :=
  [.int .i64 14, .int .i64 0, .int .i64 (5 + m.1.client), .int .i64 0, .int .i64 0, .int .i64 m.1.tag, .int .i64 m.1.session, .int .i64 m.2, .slice none 0 0, .int .i64 0, .int .i64 0, .int .i64 0, .string ⟨#[]⟩, .int .i64 0, .int .i64 0, .int .i64 0, .int .i64 0, .int .u64 0, .int .i64 0, .string ⟨#[]⟩]
theorem msgCells_length (m : KeepS × Int) : (msgCells m).length = 20 := rfl

structure ConfS where
  ends : List (Int × Int)
  left : List KeepS
  out : List (KeepS × Int)

def confStep (round : Int) (opens dying : List Int) (c : ConfS) (k : KeepS) : ConfS :=
  if round < k.round then { c with left := c.left ++ [k] }
  else if opens.contains k.session = false then { c with out := c.out ++ [(k, 11)] }
  else if dying.contains k.session then c
  else { c with ends := aput c.ends k.session (match aget c.ends k.session with | none => k.at_ + 900 | some o => max (k.at_ + 900) o), out := c.out ++ [(k, 0)] }

def confD (round : Int) (opens dying : List Int) (σ : LeaseS) : ConfS := σ.keeps.foldl (confStep round opens dying) ⟨σ.ends, [], []⟩

structure DueS where
  ends : List (Int × Int)
  out : List Int
def dueStep (now : Int) (dying : List Int) (c : DueS) (s : Int) : DueS :=
  if dying.contains s then c
  else match aget c.ends s with
    | none => { c with ends := aput c.ends s (now + 900) }
    | some e => if e ≤ now then { c with out := c.out ++ [s] } else c
def dueD (now : Int) (opens dying : List Int) (σ : LeaseS) : DueS := (Lib.compact (sortI opens)).foldl (dueStep now dying) ⟨σ.ends, []⟩

/-- New cells seen as a row. -/
theorem St.asRow {w0 w : World} {H : List Hp} (h : St w0 w H) (i : Nat) {g : Nat} {vs : List Value} {e : TypeId} (hi : H[i]? = some (.cells g vs e)) (n size : Nat) (hl : vs.length = n * size) (hm : n ≤ maxLen) :
    St w0 w (H.set i (.row e size (some ⟨g, 0, none⟩) n n vs)) := by
  have hb : w.heap[g]? = some (.cells vs.toArray e (0, 0)) := h.at_ i hi
  refine h.setAt i hi (Turn.refl _ _) (by simp [Hp.fp]) (fun b hb => .inl (by simpa [Hp.fp] using hb)) ?_
  exact row_mk hb (Nat.le_refl _) hm (by simp [hl]) (by simp only [List.toList_toArray]; rw [List.take_of_length_le (by omega)])
end Go.Proofs.Ytcihgcdakooacaa
