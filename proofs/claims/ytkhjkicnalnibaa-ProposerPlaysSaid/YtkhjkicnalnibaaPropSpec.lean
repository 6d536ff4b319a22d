/-
  A proposer as plain data, and how it lies in memory.
-/
import Derived.Test.YtkhjkicnalnibaaRFor
import Derived.Test.YtkhjkicnalnibaaSlMore
import Derived.Test.YtkhjkicnalnibaaRowCells
import Derived.Test.YtkhjkicnalnibaaPtrMap
import Derived.Test.YtkhjkicnalnibaaFieldV
import Derived.Test.YtkhjkicnalnibaaArr3
import Derived.Test.YtkhjkicnalnibaaOpen
import Derived.Test.YtkhjkicnalnibaaProg
import Derived.Deep.DeepCutAuto
import Derived.Deep.CutBlock
import Derived.WalkLawsBesides
import Derived.WalkSpells
namespace Go.Proofs.Ytkhjkicnalnibaa
set_option linter.unusedVariables false
set_option linter.unusedSimpArgs false

structure CmdS where
  kind : Int
  session : Int
  seq : Int
  name : ByteArray
  n : Int
  deriving DecidableEq
def CmdS.cells (c : CmdS) : List Value := [.int .i64 c.kind, .int .i64 c.session, .int .i64 c.seq, .string c.name, .int .i64 c.n]
def cmd0 : CmdS := ⟨0, 0, 0, ⟨#[]⟩, 0⟩
structure EntS where
  slot : Int
  ballot : Int
  cmd : CmdS
  deriving DecidableEq
def EntS.cells (e : EntS) : List Value := [.int .i64 e.slot, .int .i64 e.ballot, .int .i64 e.cmd.kind, .int .i64 e.cmd.session, .int .i64 e.cmd.seq, .string e.cmd.name, .int .i64 e.cmd.n]
theorem EntS.cells_length (e : EntS) : e.cells.length = 7 := rfl
def ent0 : EntS := ⟨0, 0, cmd0⟩

structure SlotS where
  e : EntS
  who : List Int
  most : Bool

structure PropS where
  n : Int
  ballot : Int
  frm : Int
  next : Int
  who : List Int
  best : List EntS
  ready : Bool
  vals : List EntS
  opn : List SlotS

def majD (n : Int) : Int := max n 0 / 2 + 1
def srvD (n k : Int) : Bool := decide (0 ≤ k) && decide (k < n)

/-- The best entries of their slots, one more having come. -/
def keepD (frm : Int) (best : List EntS) (e : EntS) : List EntS :=
  if e.slot < frm then best
  else match best.findIdx? (fun x => decide (x.slot = e.slot)) with
    | none => best ++ [e]
    | some i => if (best.getD i ent0).ballot < e.ballot then best.set i e else best
def bestD (best : List EntS) (s : Int) : Option EntS := best.find? (fun x => decide (x.slot = s))
def bcmd (best : List EntS) (s : Int) : CmdS := match bestD best s with
  | some e => e.cmd
  | none => cmd0
def lastD (frm : Int) (best : List EntS) : Int := best.foldl (fun m e => max m e.slot) (frm - 1)
def fillD (ballot : Int) (best : List EntS) (s : Int) (k : Nat) : List EntS := (List.range k).map fun (i : Nat) => ⟨s + (i : Int), ballot, bcmd best (s + (i : Int))⟩
def termD (s ballot : Int) : EntS := ⟨s, ballot, ⟨1, 0, 0, ⟨#[]⟩, ballot⟩⟩
def valsD (frm ballot : Int) (best : List EntS) : List EntS := fillD ballot best frm (lastD frm best + 1 - frm).toNat ++ [termD (lastD frm best + 1) ballot]
def newS (e : EntS) : SlotS := ⟨e, [], false⟩

def promiseD (σ : PropS) (k : Int) (es : List EntS) : Bool × PropS :=
  if srvD σ.n k = false ∨ σ.ready = true ∨ k ∈ σ.who then (false, σ)
  else if ((σ.who ++ [k]).length : Int) < majD σ.n then (false, { σ with who := σ.who ++ [k], best := es.foldl (keepD σ.frm) σ.best })
  else (true, { σ with who := σ.who ++ [k], best := es.foldl (keepD σ.frm) σ.best, ready := true, vals := σ.vals ++ valsD σ.frm σ.ballot (es.foldl (keepD σ.frm) σ.best), opn := σ.opn ++ (valsD σ.frm σ.ballot (es.foldl (keepD σ.frm) σ.best)).map newS, next := lastD σ.frm (es.foldl (keepD σ.frm) σ.best) + 2 })

def slotAt (l : List SlotS) (at_ : Int) : Option Nat := l.findIdx? (fun x => decide (x.e.slot = at_))
def acceptedD (σ : PropS) (k at_ : Int) : Bool × PropS :=
  if srvD σ.n k = false then (false, σ)
  else match slotAt σ.opn at_ with
    | none => (false, σ)
    | some i => let x := σ.opn.getD i ⟨ent0, [], false⟩
      if x.most = true ∨ k ∈ x.who then (false, σ)
      else (decide (majD σ.n ≤ ((x.who ++ [k]).length : Int)), { σ with opn := σ.opn.set i ⟨x.e, x.who ++ [k], decide (majD σ.n ≤ ((x.who ++ [k]).length : Int))⟩ })
def proposeD (σ : PropS) (c : CmdS) : EntS × PropS :=
  if σ.ready = false then (ent0, σ) else (⟨σ.next, σ.ballot, c⟩, { σ with opn := σ.opn ++ [newS ⟨σ.next, σ.ballot, c⟩], next := σ.next + 1 })
def chosenD (σ : PropS) (at_ : Int) : PropS := { σ with opn := σ.opn.filter fun x => !decide (x.e.slot = at_) }

/-- What holds of a proposer behind K deeds. -/
structure PropS.ok (σ : PropS) (K : Nat) : Prop where
  f1 : 1 ≤ σ.frm
  f2 : σ.frm ≤ 1099511627776
  who : σ.who.length ≤ K
  best : ∀ e ∈ σ.best, σ.frm ≤ e.slot ∧ e.slot ≤ σ.frm + 1000
  nb : σ.best.length ≤ 1000 * K
  vals : σ.vals.length ≤ 2000
  opn : σ.opn.length ≤ 2000 + K
  rise : σ.opn.Pairwise fun x y => x.e.slot < y.e.slot
  below : ∀ x ∈ σ.opn, x.e.slot < σ.next
  next : σ.next ≤ σ.frm + 2000 + K
  nlow : -2000000 ≤ σ.next
  ow : ∀ x ∈ σ.opn, x.who.length ≤ K
  idle : σ.ready = false → σ.opn = [] ∧ σ.vals = []

/-- A slot in memory. -/
structure SlotM where
  blk : Nat
  mw : Nat
  s : SlotS
def kvW (k : Int) : Value × Value := (.int .i64 k, .bool true)
def kvB (e : EntS) : Value × Value := (.int .i64 e.slot, .agg e.cells.toArray)
def kvO (z : SlotM) : Value × Value := (.int .i64 z.s.e.slot, .pointer (some ⟨z.blk, 0, none⟩))
abbrev sCells (mw : Nat) (s : SlotS) : List Value := [.int .i64 s.e.slot, .int .i64 s.e.ballot, .int .i64 s.e.cmd.kind, .int .i64 s.e.cmd.session, .int .i64 s.e.cmd.seq, .string s.e.cmd.name, .int .i64 s.e.cmd.n, .map (some mw), .bool s.most]
abbrev ohp (z : SlotM) : List Hp := [.cells z.blk (sCells z.mw z.s) 67, .mp z.mw (.int .i64) (z.s.who.map kvW)]

/-- The struct itself. -/
abbrev pc (p mw mb mo : Nat) (σ : PropS) (va : Option Addr) (vl vc : Nat) : Hp := .cells p [.int .i64 σ.n, .int .i64 σ.ballot, .int .i64 σ.frm, .int .i64 σ.next, .map (some mw), .map (some mb), .bool σ.ready, .slice va vl vc, .map (some mo)] 58
abbrev vrow (va : Option Addr) (vc : Nat) (l : List EntS) : Hp := .row 30 7 va l.length vc (l.flatMap EntS.cells)

def PropSt (w0 w : World) (p : Nat) (σ : PropS) (R : List Hp) : Prop :=
  ∃ (mw mb mo : Nat) (va : Option Addr) (vc : Nat) (O : List SlotM), O.map (·.s) = σ.opn ∧
    St w0 w (pc p mw mb mo σ va σ.vals.length vc :: .mp mw (.int .i64) (σ.who.map kvW) :: .mp mb (.int .i64) (σ.best.map kvB) :: vrow va vc σ.vals :: .mp mo (.int .i64) (O.map kvO) :: (O.flatMap ohp ++ R))

theorem PropSt.use {w0 w : World} {p : Nat} {R : List Hp} {σ : PropS} (h : PropSt w0 w p σ R) : ∃ D : List Hp, St w0 w (D ++ R) ∧ ∀ w' R', St w0 w' (D ++ R') → PropSt w0 w' p σ R' := by
  obtain ⟨mw, mb, mo, va, vc, O, hO, hS⟩ := h
  exact ⟨pc p mw mb mo σ va σ.vals.length vc :: .mp mw (.int .i64) (σ.who.map kvW) :: .mp mb (.int .i64) (σ.best.map kvB) :: vrow va vc σ.vals :: .mp mo (.int .i64) (O.map kvO) :: O.flatMap ohp, by simpa using hS, fun w' R' h' => ⟨mw, mb, mo, va, vc, O, hO, by simpa using h'⟩⟩
theorem PropSt.rest {w0 w : World} {p : Nat} {R : List Hp} {σ : PropS} (h : PropSt w0 w p σ R) : St w0 w R := by
  obtain ⟨D, hS, _⟩ := h.use
  exact hS.dropA
theorem PropSt.re {w0 w : World} {p : Nat} {R R' : List Hp} {σ : PropS} (h : PropSt w0 w p σ R) (hf : ∀ D, St w0 w (D ++ R) → St w0 w (D ++ R')) : PropSt w0 w p σ R' := by
  obtain ⟨D, hS, hb⟩ := h.use
  exact hb _ _ (hf D hS)
theorem PropSt.sub {w0 w : World} {p : Nat} {R R' : List Hp} {σ : PropS} (h : PropSt w0 w p σ R) (hs : R'.Sublist R) : PropSt w0 w p σ R' := h.re fun D hS => St.sub hS (hs.append_left D)
theorem PropSt.perm {w0 w : World} {p : Nat} {R R' : List Hp} {σ : PropS} (h : PropSt w0 w p σ R) (hs : R.Perm R') : PropSt w0 w p σ R' := h.re fun D hS => St.perm hS (hs.append_left D)

theorem St.mapI {w0 w : World} {H : List Hp} {b i : Nat} {d : TypeDesc} {kvs : List (Value × Value)} (h : St w0 w H) (hi : AtM H b i d kvs) : Hp.on w (.mp b d kvs) := h.at_ i hi.get

/-- What is owned beside it to the front. -/
theorem opn_of_use {w0 w : World} {A R : List Hp} {Pd : World → List Hp → Prop} (hu : ∃ D : List Hp, St w0 w (D ++ (A ++ R)) ∧ ∀ w' R', St w0 w' (D ++ R') → Pd w' R') :
    ∃ D : List Hp, St w0 w (A ++ D) ∧ ∀ w' A', St w0 w' (A' ++ D) → Pd w' (A' ++ R) := by
  obtain ⟨D, hS, hb⟩ := hu
  exact ⟨D ++ R, hS.perm (swapL _ _ _), fun w' A' h => hb w' _ (h.perm (swapL _ _ _))⟩
theorem PropSt.opn {w0 w : World} {p : Nat} {A R : List Hp} {σ : PropS} (h : PropSt w0 w p σ (A ++ R)) : ∃ D : List Hp, St w0 w (A ++ D) ∧ ∀ w' A', St w0 w' (A' ++ D) → PropSt w0 w' p σ (A' ++ R) := opn_of_use h.use

theorem set_same {α : Type} {l : List α} {k : Nat} {x : α} (h : l[k]? = some x) : l.set k x = l := by
  apply List.ext_getElem?
  intro q
  by_cases hq : k = q
  · subst hq; rw [List.getElem?_set_self (List.getElem?_eq_some_iff.1 h).1, h]
  · rw [List.getElem?_set_ne hq]

theorem kvW_some {l : List Int} {k : Int} (h : k ∈ l) : ∃ j : Nat, (l.map kvW)[j]? = some (Value.int .i64 k, Value.bool true) := by
  obtain ⟨j, hj⟩ := List.getElem?_of_mem h
  exact ⟨j, by rw [List.getElem?_map, hj]; rfl⟩
theorem kvW_none {l : List Int} {k : Int} (h : k ∉ l) : ∀ p ∈ l.map kvW, p.1 ≠ Value.int .i64 k := by
  intro p hp e
  obtain ⟨x, hx, rfl⟩ := List.mem_map.1 hp
  simp only [kvW] at e
  injection e with _ e
  subst e
  exact h hx
theorem kvB_none {l : List EntS} {s : Int} (h : l.findIdx? (fun x => decide (x.slot = s)) = none) : ∀ p ∈ l.map kvB, p.1 ≠ Value.int .i64 s := by
  intro p hp e
  obtain ⟨x, hx, rfl⟩ := List.mem_map.1 hp
  simp only [kvB] at e
  injection e with _ e
  have := List.findIdx?_eq_none_iff.1 h x hx
  simp [e] at this
theorem idx_some {α : Type} {f : α → Int} {l : List α} {s : Int} {i : Nat} (h : l.findIdx? (fun x => decide (f x = s)) = some i) : ∃ x, l[i]? = some x ∧ f x = s := by
  obtain ⟨hl, h1, _⟩ := List.findIdx?_eq_some_iff_getElem.1 h
  exact ⟨l[i], List.getElem?_eq_getElem hl, by simpa using h1⟩
theorem kvO_none {O : List SlotM} {l : List SlotS} {s : Int} (hO : O.map (·.s) = l) (h : slotAt l s = none) : ∀ p ∈ O.map kvO, p.1 ≠ Value.int .i64 s := by
  intro p hp e
  obtain ⟨x, hx, rfl⟩ := List.mem_map.1 hp
  simp only [kvO] at e
  injection e with _ e
  have := List.findIdx?_eq_none_iff.1 h x.s (by rw [← hO]; exact List.mem_map.2 ⟨x, hx, rfl⟩)
  simp [e] at this
theorem getD_of {α : Type} {l : List α} {i : Nat} {x d : α} (h : l[i]? = some x) : l.getD i d = x := by
  rw [List.getD_eq_getElem?_getD, h]; rfl

/-- Entries in memory, at a slice's value. -/
def Ents (w : World) (ad : Option Addr) (es : List EntS) : Prop := ∀ i e, es[i]? = some e → ∃ g j, ad = some ⟨g, j, none⟩ ∧ w.rangeAt g (j + i * 7) e.cells
end Go.Proofs.Ytkhjkicnalnibaa
