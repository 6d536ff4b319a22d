/-
  Sessions as plain data, and how they lie in memory.
-/
import Derived.Test.YtodojllclghoiaaCodecP
import Derived.Test.YtodojllclghoiaaIntSort
import Derived.Test.YtodojllclghoiaaIterCI
import Derived.Test.YtodojllclghoiaaMapIter
import Derived.Deep.LoopGhost
namespace Go.Proofs.Ytodojllclghoiaa
set_option linter.unusedVariables false
set_option linter.unusedSimpArgs false
open Go.RowKit

structure RepS where
  session : Int
  seq : Int
  err : Int
  token : Int
  n : Int
def RepS.cells (r : RepS) : List Value := [.int .i64 r.session, .int .i64 r.seq, .int .i64 r.err, .int .u64 r.token, .int .i64 r.n]
theorem RepS.cells_length (x : RepS) : x.cells.length = 5 := rfl
def rep0 : RepS := ⟨0, 0, 0, 0, 0⟩

structure OneS where
  client : Int
  life : Int
  isOpen : Bool
  seq : Int
  said : Bool
  reply : RepS
def OneS.cells (x : OneS) : List Value := [.int .i64 x.client, .int .i64 x.life, .bool x.isOpen, .int .i64 x.seq, .bool x.said, .int .i64 x.reply.session, .int .i64 x.reply.seq, .int .i64 x.reply.err, .int .u64 x.reply.token, .int .i64 x.reply.n]

structure SesS where
  l : List OneS
  c : List (Int × (Int × Int))

def kvI (i : Nat) (z : Nat × OneS) : Value × Value := (.int .i64 ((i : Int) + 1), .pointer (some ⟨z.1, 0, none⟩))
def evC (x : Int × Int) : Value := .agg #[.int .i64 x.1, .int .i64 x.2]
def kvC : Int × (Int × Int) → Value × Value := akv (Value.int .i64) evC
abbrev oneC (blk : Nat) (x : OneS) : Hp := .cells blk x.cells 67
abbrev shp (z : Nat × OneS) : List Hp := [oneC z.1 z.2]
abbrev sc (p ml mc : Nat) : Hp := .cells p [.map (some ml), .map (some mc)] 62

def SesSt (w0 w : World) (p : Nat) (σ : SesS) (R : List Hp) : Prop :=
  ∃ (ml mc : Nat) (Z : List (Nat × OneS)), Z.map (·.2) = σ.l ∧ St w0 w (sc p ml mc :: .mp ml (.int .i64) (Z.mapIdx kvI) :: .mp mc (.int .i64) (σ.c.map kvC) :: (Z.flatMap shp ++ R))

theorem SesSt.use {w0 w : World} {p : Nat} {R : List Hp} {σ : SesS} (h : SesSt w0 w p σ R) : ∃ D : List Hp, St w0 w (D ++ R) ∧ ∀ w' R', St w0 w' (D ++ R') → SesSt w0 w' p σ R' := by
  obtain ⟨ml, mc, Z, h1, hS⟩ := h
  exact ⟨sc p ml mc :: .mp ml (.int .i64) (Z.mapIdx kvI) :: .mp mc (.int .i64) (σ.c.map kvC) :: Z.flatMap shp, by simpa using hS, fun w' R' h' => ⟨ml, mc, Z, h1, by simpa using h'⟩⟩
theorem SesSt.rest {w0 w : World} {p : Nat} {R : List Hp} {σ : SesS} (h : SesSt w0 w p σ R) : St w0 w R := by
  obtain ⟨D, hS, _⟩ := h.use
  exact hS.dropA
theorem SesSt.re {w0 w : World} {p : Nat} {R R' : List Hp} {σ : SesS} (h : SesSt w0 w p σ R) (hf : ∀ D, St w0 w (D ++ R) → St w0 w (D ++ R')) : SesSt w0 w p σ R' := by
  obtain ⟨D, hS, hb⟩ := h.use
  exact hb _ _ (hf D hS)
theorem SesSt.sub {w0 w : World} {p : Nat} {R R' : List Hp} {σ : SesS} (h : SesSt w0 w p σ R) (hs : R'.Sublist R) : SesSt w0 w p σ R' := h.re fun D hS => St.sub hS (hs.append_left D)
theorem SesSt.perm {w0 w : World} {p : Nat} {R R' : List Hp} {σ : SesS} (h : SesSt w0 w p σ R) (hs : R.Perm R') : SesSt w0 w p σ R' := h.re fun D hS => St.perm hS (hs.append_left D)

theorem front3 (A : List Hp) (a b c : Hp) (B : List Hp) : (A ++ (a :: b :: c :: B)).Perm (a :: b :: c :: (A ++ B)) :=
  List.perm_middle.trans (.cons _ (List.perm_middle.trans (.cons _ List.perm_middle)))

theorem mapIdx_set_same {Z : List (Nat × OneS)} {k : Nat} {z z' : Nat × OneS} (h : Z[k]? = some z) (hb : z'.1 = z.1) : (Z.set k z').mapIdx kvI = Z.mapIdx kvI := by
  apply List.ext_getElem?
  intro q
  rw [List.getElem?_mapIdx, List.getElem?_mapIdx]
  by_cases hq : k = q
  · subst hq
    rw [List.getElem?_set_self (List.getElem?_eq_some_iff.1 h).1, h]
    simp [kvI, hb]
  · rw [List.getElem?_set_ne hq]

section
variable {w0 w : World} {p : Nat} {σ : SesS} {R : List Hp}
/-- A session that is there. -/
theorem ses_open {k : Nat} {x : OneS} (h : SesSt w0 w p σ R) (hx : σ.l[k]? = some x) : ∃ (ml mc : Nat) (kl : List (Value × Value)) (blk : Nat) (D : List Hp), (∃ j : Nat, kl[j]? = some (.int .i64 ((k : Int) + 1), .pointer (some ⟨blk, 0, none⟩))) ∧ kl.length = σ.l.length ∧
    St w0 w (sc p ml mc :: .mp ml (.int .i64) kl :: .mp mc (.int .i64) (σ.c.map kvC) :: oneC blk x :: D) ∧
    (∀ w' x' c' A, St w0 w' (A ++ (sc p ml mc :: .mp ml (.int .i64) kl :: .mp mc (.int .i64) (c'.map kvC) :: oneC blk x' :: D)) → SesSt w0 w' p ⟨σ.l.set k x', c'⟩ (A ++ R)) := by
  obtain ⟨ml, mc, Z, hZ, hS⟩ := h
  rw [← hZ, List.getElem?_map] at hx
  obtain ⟨z, hz, rfl⟩ := Option.map_eq_some_iff.1 hx
  refine ⟨ml, mc, Z.mapIdx kvI, z.1, (Z.eraseIdx k).flatMap shp ++ R, ⟨k, by rw [List.getElem?_mapIdx, hz]; rfl⟩, by rw [List.length_mapIdx, ← hZ, List.length_map], St.takeOut (f := shp) (A := [_, _, _]) hz hS, fun w' x' c' A h => ?_⟩
  refine ⟨ml, mc, Z.set k (z.1, x'), by rw [List.map_set, hZ], ?_⟩
  rw [mapIdx_set_same (z' := (z.1, x')) hz rfl]
  refine St.putIn (f := shp) (A := [_, _, _]) (z' := (z.1, x')) hz ?_
  refine h.perm ((front3 _ _ _ _ _).trans (.cons _ (.cons _ (.cons _ ?_))))
  show (A ++ ([oneC z.1 x'] ++ ((Z.eraseIdx k).flatMap shp ++ R))).Perm ([oneC z.1 x'] ++ ((Z.eraseIdx k).flatMap shp ++ (A ++ R)))
  exact (swapL _ _ _).trans (.append_left _ (swapL _ _ _))

/-- All of them, and a new one. -/
theorem ses_all (h : SesSt w0 w p σ R) : ∃ (ml mc : Nat) (kl : List (Value × Value)) (D : List Hp), (∀ n : Int, (∀ k : Nat, k < σ.l.length → n ≠ (k : Int) + 1) → ∀ q ∈ kl, q.1 ≠ .int .i64 n) ∧ kl.length = σ.l.length ∧
    St w0 w (sc p ml mc :: .mp ml (.int .i64) kl :: .mp mc (.int .i64) (σ.c.map kvC) :: D) ∧
    (∀ w' c' A, St w0 w' (A ++ (sc p ml mc :: .mp ml (.int .i64) kl :: .mp mc (.int .i64) (c'.map kvC) :: D)) → SesSt w0 w' p ⟨σ.l, c'⟩ (A ++ R)) ∧
    (∀ w' x' blk c' A, St w0 w' (A ++ (sc p ml mc :: .mp ml (.int .i64) (kl ++ [(.int .i64 ((σ.l.length : Int) + 1), .pointer (some ⟨blk, 0, none⟩))]) :: .mp mc (.int .i64) (c'.map kvC) :: oneC blk x' :: D)) → SesSt w0 w' p ⟨σ.l ++ [x'], c'⟩ (A ++ R)) := by
  obtain ⟨ml, mc, Z, hZ, hS⟩ := h
  have hlen : Z.length = σ.l.length := by rw [← hZ, List.length_map]
  refine ⟨ml, mc, Z.mapIdx kvI, Z.flatMap shp ++ R, fun n hn q hq e => ?_, by rw [List.length_mapIdx, hlen], hS, fun w' c' A h => ?_, fun w' x' blk c' A h => ?_⟩
  · obtain ⟨i, hi⟩ := List.getElem?_of_mem hq
    rw [List.getElem?_mapIdx] at hi
    obtain ⟨z, hz, rfl⟩ := Option.map_eq_some_iff.1 hi
    simp only [kvI] at e
    injection e with _ e
    exact hn i (by rw [← hlen]; exact (List.getElem?_eq_some_iff.1 hz).1) e.symm
  · exact ⟨ml, mc, Z, hZ, h.perm ((front3 _ _ _ _ _).trans (.cons _ (.cons _ (.cons _ (swapL _ _ _)))))⟩
  · refine ⟨ml, mc, Z ++ [(blk, x')], by rw [List.map_append, hZ]; rfl, ?_⟩
    rw [List.mapIdx_append]
    have e : [(blk, x')].mapIdx (fun i => kvI (i + Z.length)) = [(Value.int .i64 ((σ.l.length : Int) + 1), Value.pointer (some ⟨blk, 0, none⟩))] := by
      simp [kvI, hlen]
    rw [e]
    refine St.addOne (f := shp) (A := [_, _, _]) (z := (blk, x')) ?_
    refine h.perm ((front3 _ _ _ _ _).trans (.cons _ (.cons _ (.cons _ ?_))))
    show (A ++ ([oneC blk x'] ++ (Z.flatMap shp ++ R))).Perm ([oneC blk x'] ++ (Z.flatMap shp ++ (A ++ R)))
    exact (swapL _ _ _).trans (.append_left _ (swapL _ _ _))
end

-- the functions
def allS (σ : SesS) : List Int := ((σ.l.mapIdx fun i x => (i, x)).filter fun y => y.2.isOpen).map fun y => (y.1 : Int) + 1
def latS (σ : SesS) (client : Int) : Int × Int := (aget σ.c client).getD (0, 0)
def openS (σ : SesS) (client life : Int) : (Int × Bool × Int) × SesS :=
  if client < 0 ∨ 8 ≤ client ∨ life < 1 ∨ 1073741824 < life then ((0, false, 1), σ)
  else if life < (latS σ client).1 then ((0, false, 18), σ)
  else if life = (latS σ client).1 then (((latS σ client).2, false, 0), σ)
  else if 256 ≤ (allS σ).length then ((0, false, 17), σ)
  else (((σ.l.length : Int) + 1, true, 0), ⟨σ.l ++ [⟨client, life, true, 0, false, rep0⟩], aput σ.c client (life, (σ.l.length : Int) + 1)⟩)
/-- A session's place. -/
def atS (σ : SesS) (id : Int) : Option (Nat × OneS) := if 1 ≤ id then (σ.l[(id - 1).toNat]?).map fun x => ((id - 1).toNat, x) else none
def beginS (σ : SesS) (id seq : Int) : RepS × Int × SesS :=
  match atS σ id with
  | none => (rep0, 4, σ)
  | some (k, x) =>
    if x.said = true ∧ x.seq = seq ∧ 0 < seq then (x.reply, 1, σ)
    else if x.isOpen = false then (rep0, 4, σ)
    else if seq = x.seq then (rep0, 2, σ)
    else if seq < x.seq then (rep0, 3, σ)
    else if 0 < x.seq ∧ x.said = false then (rep0, 5, σ)
    else (rep0, 0, ⟨σ.l.set k { x with seq := seq, said := false }, σ.c⟩)
def endS (σ : SesS) (r : RepS) : Bool × SesS :=
  match atS σ r.session with
  | none => (false, σ)
  | some (k, x) => if x.said = true ∨ x.seq < 1 ∨ x.seq ≠ r.seq then (false, σ) else (true, ⟨σ.l.set k { x with said := true, reply := r }, σ.c⟩)
def closeS (σ : SesS) (id : Int) : Bool × SesS :=
  match atS σ id with
  | none => (false, σ)
  | some (k, x) => if x.isOpen = true then (true, ⟨σ.l.set k { x with isOpen := false }, σ.c⟩) else (false, σ)
def clientS (σ : SesS) (id : Int) : Int × Int × Bool :=
  match atS σ id with
  | none => (0, 0, false)
  | some (_, x) => (x.client, x.life, true)
end Go.Proofs.Ytodojllclghoiaa
