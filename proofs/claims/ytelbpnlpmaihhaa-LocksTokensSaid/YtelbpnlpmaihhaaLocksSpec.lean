/-
  The locks as plain data.
-/
import Derived.Test.YtelbpnlpmaihhaaSl19
import Derived.Test.YtelbpnlpmaihhaaIntContains
import Derived.Test.YtelbpnlpmaihhaaIntClone
import Derived.Test.YtelbpnlpmaihhaaIntSearch
namespace Go.Proofs.Ytelbpnlpmaihhaa
set_option linter.unusedVariables false
set_option linter.unusedSimpArgs false

theorem flat_map1 {α : Type} (f : α → Value) (l : List α) : l.map f = l.flatMap fun x => [f x] := by
  induction l with
  | nil => rfl
  | cons x r ih => simp [ih]

def WaitS.cells (x : WaitS) : List Value := [.int .i64 x.session, .int .i64 x.seq, .bool x.reader]
theorem WaitS.cells_length (x : WaitS) : x.cells.length = 3 := rfl
def WaitS.val (x : WaitS) : Value := .agg #[.int .i64 x.session, .int .i64 x.seq, .bool x.reader]

structure RepS where
  session : Int
  seq : Int
  err : Int
  token : Int
  n : Int
def RepS.cells (r : RepS) : List Value := [.int .i64 r.session, .int .i64 r.seq, .int .i64 r.err, .int .u64 r.token, .int .i64 r.n]
theorem RepS.cells_length (x : RepS) : x.cells.length = 5 := rfl

structure CmdS where
  kind : Int
  session : Int
  seq : Int
  name : ByteArray
  n : Int

structure LockS where
  held : List Int
  writer : Bool
  queue : List WaitS

/-- A lock in memory. -/
structure LM where
  blk : Nat
  ha : Option Addr
  hc : Nat
  qa : Option Addr
  qc : Nat
  s : LockS
def LM.hp (z : LM) : List Hp := [.cells z.blk [.slice z.ha z.s.held.length z.hc, .bool z.s.writer, .slice z.qa z.s.queue.length z.qc] 75,
  .row 3 1 z.ha z.s.held.length z.hc (z.s.held.map (Value.int .i64)), .row 70 3 z.qa z.s.queue.length z.qc (z.s.queue.flatMap WaitS.cells)]
def kvL (x : ByteArray × LM) : Value × Value := (.string x.1, .pointer (some ⟨x.2.blk, 0, none⟩))
def datL (x : ByteArray × LM) : ByteArray × LockS := (x.1, x.2.s)

structure LocksS where
  l : List (ByteArray × LockS)
  tok : Int

/-- The locks at block g. -/
def LocksSt (w0 w : World) (g : Nat) (σ : LocksS) (R : List Hp) : Prop :=
  ∃ (m : Nat) (Z : List (ByteArray × LM)), Z.map datL = σ.l ∧ St w0 w (.cells g [.map (some m), .int .u64 σ.tok] 68 :: .mp m .string (Z.map kvL) :: (Z.flatMap (fun x => x.2.hp) ++ R))

theorem LocksSt.use {w0 w : World} {g : Nat} {R : List Hp} {σ : LocksS} (h : LocksSt w0 w g σ R) : ∃ D : List Hp, St w0 w (D ++ R) ∧ ∀ w' R', St w0 w' (D ++ R') → LocksSt w0 w' g σ R' := by
  obtain ⟨m, Z, h1, hS⟩ := h
  exact ⟨.cells g [.map (some m), .int .u64 σ.tok] 68 :: .mp m .string (Z.map kvL) :: Z.flatMap (fun x => x.2.hp), by simpa using hS, fun w' R' h' => ⟨m, Z, h1, by simpa using h'⟩⟩
theorem LocksSt.rest {w0 w : World} {g : Nat} {R : List Hp} {σ : LocksS} (h : LocksSt w0 w g σ R) : St w0 w R := by
  obtain ⟨D, hS, _⟩ := h.use
  exact hS.dropA
theorem LocksSt.re {w0 w : World} {g : Nat} {R R' : List Hp} {σ : LocksS} (h : LocksSt w0 w g σ R) (hf : ∀ D, St w0 w (D ++ R) → St w0 w (D ++ R')) : LocksSt w0 w g σ R' := by
  obtain ⟨D, hS, hb⟩ := h.use
  exact hb _ _ (hf D hS)
theorem LocksSt.sub {w0 w : World} {g : Nat} {R R' : List Hp} {σ : LocksS} (h : LocksSt w0 w g σ R) (hs : R'.Sublist R) : LocksSt w0 w g σ R' := h.re fun D hS => St.sub hS (hs.append_left D)
theorem LocksSt.perm {w0 w : World} {g : Nat} {R R' : List Hp} {σ : LocksS} (h : LocksSt w0 w g σ R) (hs : R.Perm R') : LocksSt w0 w g σ R' := h.re fun D hS => St.perm hS (hs.append_left D)

def tokLast : Int := 18446744073709551615

def insD (zs : List Int) (x : Int) : List Int := zs.take (zs.countP (· < x)) ++ [x] ++ zs.drop (zs.countP (· < x))

def grantD (tok : Int) (x : LockS) (w : WaitS) : RepS × Int × LockS :=
  if w.reader then (⟨w.session, w.seq, 0, tok, 0⟩, tok, { x with held := insD x.held w.session, writer := false })
  else if tok = tokLast then (⟨w.session, w.seq, 16, 0, 0⟩, tok, x)
  else (⟨w.session, w.seq, 0, tok + 1, 0⟩, tok + 1, { x with held := insD x.held w.session, writer := true })

/-- Who waits is served: the replies, the counter, the lock. -/
def serveL : List WaitS → Int → List Int → Bool → List RepS × Int × LockS
  | [], tok, h, wr => ([], tok, ⟨h, wr, []⟩)
  | w :: q, tok, h, wr =>
    if h ≠ [] ∧ (wr = true ∨ w.reader = false) then ([], tok, ⟨h, wr, w :: q⟩)
    else
      let g := grantD tok ⟨h, wr, []⟩ w
      let r := serveL q g.2.1 g.2.2.held g.2.2.writer
      (g.1 :: r.1, r.2)
def serveD (σ : LocksS) (name : ByteArray) (x : LockS) : List RepS × LocksS :=
  let r := serveL x.queue σ.tok x.held x.writer
  (r.1, if r.2.2.held = [] then ⟨adel σ.l name, r.2.1⟩ else ⟨aput σ.l name r.2.2, r.2.1⟩)

def asksD (x : LockS) (s : Int) : Bool := x.held.contains s || x.queue.any (fun w => w.session == s)

def askD (σ : LocksS) (c : CmdS) : List RepS × Bool × LocksS :=
  if c.kind ≠ 5 ∧ c.kind ≠ 7 then ([], false, σ)
  else match aget σ.l c.name with
    | none =>
      if 256 ≤ σ.l.length then ([⟨c.session, c.seq, 17, 0, 0⟩], false, σ)
      else
        let g := grantD σ.tok ⟨[], false, []⟩ ⟨c.session, c.seq, c.kind == 7⟩
        ([g.1], false, if g.1.err = 0 then ⟨aput σ.l c.name g.2.2, g.2.1⟩ else ⟨σ.l, g.2.1⟩)
    | some x =>
      if asksD x c.session then ([⟨c.session, c.seq, 12, 0, 0⟩], false, σ)
      else if (c.kind == 7) = true ∧ x.writer = false ∧ x.queue = [] then
        let g := grantD σ.tok x ⟨c.session, c.seq, true⟩
        ([g.1], false, ⟨aput σ.l c.name g.2.2, g.2.1⟩)
      else ([], true, ⟨aput σ.l c.name { x with queue := x.queue ++ [⟨c.session, c.seq, c.kind == 7⟩] }, σ.tok⟩)

def relD (σ : LocksS) (c : CmdS) : List RepS × LocksS :=
  if c.kind ≠ 6 ∧ c.kind ≠ 8 then ([], σ)
  else match aget σ.l c.name with
    | none => ([⟨c.session, c.seq, 13, 0, 0⟩], σ)
    | some x =>
      if x.writer ≠ (c.kind == 6) ∨ x.held.contains c.session = false then ([⟨c.session, c.seq, 13, 0, 0⟩], σ)
      else
        let r := serveD σ c.name { x with held := x.held.filter (fun n => n != c.session) }
        (⟨c.session, c.seq, 0, 0, 0⟩ :: r.1, r.2)
end Go.Proofs.Ytelbpnlpmaihhaa
