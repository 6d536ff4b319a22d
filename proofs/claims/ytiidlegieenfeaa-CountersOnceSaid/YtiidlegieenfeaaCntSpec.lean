/-
  Waitgroups and onces as plain data, and how they lie in memory.
-/
import Derived.Test.YtiidlegieenfeaaSlMore
import Derived.Test.YtiidlegieenfeaaRegA
import Derived.Test.YtiidlegieenfeaaOpen
import Derived.Test.YtiidlegieenfeaaProg
import Derived.Deep.DeepCutAuto
import Derived.Deep.CutBlock
import Derived.WalkLawsBesides
import Derived.WalkSpells
namespace Go.Proofs.Ytiidlegieenfeaa
set_option linter.unusedVariables false
set_option linter.unusedSimpArgs false

structure QW where
  session : Int
  seq : Int
def QW.cells (x : QW) : List Value := [.int .i64 x.session, .int .i64 x.seq]
theorem QW.cells_length (x : QW) : x.cells.length = 2 := rfl

structure RepS where
  session : Int
  seq : Int
  err : Int
  token : Int
  n : Int
def RepS.cells (r : RepS) : List Value := [.int .i64 r.session, .int .i64 r.seq, .int .i64 r.err, .int .u64 r.token, .int .i64 r.n]
theorem RepS.cells_length (x : RepS) : x.cells.length = 5 := rfl

structure CmdS where
  kind : Int
  session : Int
  seq : Int
  name : ByteArray
  n : Int

/-- A waitgroup (n: its count) or a once (n: who runs it). -/
structure OS where
  n : Int
  q : List QW
structure OM where
  blk : Nat
  qa : Option Addr
  qc : Nat
  s : OS
def OM.hp (t : TypeId) (z : OM) : List Hp := [.cells z.blk [.int .i64 z.s.n, .slice z.qa z.s.q.length z.qc] t, .row 78 2 z.qa z.s.q.length z.qc (z.s.q.flatMap QW.cells)]
abbrev ghp (x : ByteArray × OM) : List Hp := x.2.hp 71
abbrev ohp (x : ByteArray × OM) : List Hp := x.2.hp 76
def kvO (x : ByteArray × OM) : Value × Value := (.string x.1, .pointer (some ⟨x.2.blk, 0, none⟩))
def datO (x : ByteArray × OM) : ByteArray × OS := (x.1, x.2.s)

structure CntS where
  g : List (ByteArray × OS)
  o : List (ByteArray × OS)

def CntSt (w0 w : World) (p : Nat) (σ : CntS) (R : List Hp) : Prop :=
  ∃ (mg mo : Nat) (G O : List (ByteArray × OM)), G.map datO = σ.g ∧ O.map datO = σ.o ∧
    St w0 w (.cells p [.map (some mg), .map (some mo)] 65 :: .mp mg .string (G.map kvO) :: .mp mo .string (O.map kvO) :: (G.flatMap ghp ++ (O.flatMap ohp ++ R)))

theorem CntSt.use {w0 w : World} {g : Nat} {R : List Hp} {σ : CntS} (h : CntSt w0 w g σ R) : ∃ D : List Hp, St w0 w (D ++ R) ∧ ∀ w' R', St w0 w' (D ++ R') → CntSt w0 w' g σ R' := by
  obtain ⟨mg, mo, G, O, h1, h2, hS⟩ := h
  exact ⟨.cells g [.map (some mg), .map (some mo)] 65 :: .mp mg .string (G.map kvO) :: .mp mo .string (O.map kvO) :: (G.flatMap ghp ++ O.flatMap ohp), by simpa using hS, fun w' R' h' => ⟨mg, mo, G, O, h1, h2, by simpa using h'⟩⟩
theorem CntSt.rest {w0 w : World} {g : Nat} {R : List Hp} {σ : CntS} (h : CntSt w0 w g σ R) : St w0 w R := by
  obtain ⟨D, hS, _⟩ := h.use
  exact hS.dropA
theorem CntSt.re {w0 w : World} {g : Nat} {R R' : List Hp} {σ : CntS} (h : CntSt w0 w g σ R) (hf : ∀ D, St w0 w (D ++ R) → St w0 w (D ++ R')) : CntSt w0 w g σ R' := by
  obtain ⟨D, hS, hb⟩ := h.use
  exact hb _ _ (hf D hS)
theorem CntSt.sub {w0 w : World} {g : Nat} {R R' : List Hp} {σ : CntS} (h : CntSt w0 w g σ R) (hs : R'.Sublist R) : CntSt w0 w g σ R' := h.re fun D hS => St.sub hS (hs.append_left D)
theorem CntSt.perm {w0 w : World} {g : Nat} {R R' : List Hp} {σ : CntS} (h : CntSt w0 w g σ R) (hs : R.Perm R') : CntSt w0 w g σ R' := h.re fun D hS => St.perm hS (hs.append_left D)

theorem erase_map {α β : Type} (f : α → β) (Z : List α) (i : Nat) : (Z.map f).eraseIdx i = (Z.eraseIdx i).map f := by
  apply List.ext_getElem?
  intro q
  simp [List.getElem?_eraseIdx]
  split <;> rfl

theorem pm_get {Z : List (ByteArray × OM)} {l : List (ByteArray × OS)} {nm : ByteArray} {x : OS} (hZ : Z.map datO = l) (hx : aget l nm = some x) : ∃ (i : Nat) (z : OM), aidx l nm = some i ∧ Z[i]? = some (nm, z) ∧ z.s = x := by
  obtain ⟨i, h1, h2⟩ := aget_idx hx
  rw [← hZ, List.getElem?_map] at h2
  obtain ⟨⟨nm', z⟩, h3, h4⟩ := Option.map_eq_some_iff.1 h2
  simp only [datO, Prod.mk.injEq] at h4
  obtain ⟨rfl, rfl⟩ := h4
  exact ⟨i, z, h1, h3, rfl⟩
theorem pm_none {Z : List (ByteArray × OM)} {l : List (ByteArray × OS)} {nm : ByteArray} (hZ : Z.map datO = l) (h : aget l nm = none) : ∀ p ∈ Z.map kvO, p.1 ≠ Value.string nm := by
  intro p hp e
  obtain ⟨x, hx, rfl⟩ := List.mem_map.1 hp
  simp only [kvO] at e
  injection e with e
  have := aidx_none (aget_none_idx h) (datO x) (by rw [← hZ]; exact List.mem_map.2 ⟨x, hx, rfl⟩)
  exact this e

theorem aput_same {κ α : Type} [DecidableEq κ] {l : List (κ × α)} {k : κ} {v : α} (h : aget l k = some v) : aput l k v = l := by
  obtain ⟨i, h1, h2⟩ := aget_idx h
  rw [aput, h1]
  apply List.ext_getElem?
  intro q
  by_cases hq : i = q
  · subst hq; rw [List.getElem?_set_self (List.getElem?_eq_some_iff.1 h2).1, h2]
  · rw [List.getElem?_set_ne hq]

section
variable {w0 w : World} {p : Nat} {σ : CntS} {R : List Hp} {nm : ByteArray} {x : OS}
abbrev cc (p mg mo : Nat) : Hp := .cells p [.map (some mg), .map (some mo)] 65
abbrev zc (t : TypeId) (blk : Nat) (qa : Option Addr) (qc : Nat) (x : OS) : Hp := .cells blk [.int .i64 x.n, .slice qa x.q.length qc] t
abbrev zr (qa : Option Addr) (qc : Nat) (x : OS) : Hp := .row 78 2 qa x.q.length qc (x.q.flatMap QW.cells)

theorem front3 (A : List Hp) (a b c : Hp) (B : List Hp) : (A ++ (a :: b :: c :: B)).Perm (a :: b :: c :: (A ++ B)) :=
  List.perm_middle.trans (.cons _ (List.perm_middle.trans (.cons _ List.perm_middle)))

theorem grp_open (h : CntSt w0 w p σ R) (hx : aget σ.g nm = some x) : ∃ (mg mo : Nat) (kg ko : List (Value × Value)) (blk : Nat) (qa : Option Addr) (qc : Nat) (D : List Hp) (i : Nat), kg[i]? = some (.string nm, .pointer (some ⟨blk, 0, none⟩)) ∧ kg.length = σ.g.length ∧
    St w0 w (cc p mg mo :: .mp mg .string kg :: .mp mo .string ko :: zc 71 blk qa qc x :: zr qa qc x :: D) ∧
    (∀ w' x' qa' qc' A, St w0 w' (A ++ (cc p mg mo :: .mp mg .string kg :: .mp mo .string ko :: zc 71 blk qa' qc' x' :: zr qa' qc' x' :: D)) → CntSt w0 w' p ⟨aput σ.g nm x', σ.o⟩ (A ++ R)) ∧
    (∀ w' A, St w0 w' (A ++ (cc p mg mo :: .mp mg .string (kg.eraseIdx i) :: .mp mo .string ko :: D)) → CntSt w0 w' p ⟨adel σ.g nm, σ.o⟩ (A ++ R)) := by
  obtain ⟨mg, mo, G, O, hG, hO, hS⟩ := h
  obtain ⟨i, z, hi, hz, rfl⟩ := pm_get hG hx
  refine ⟨mg, mo, G.map kvO, O.map kvO, z.blk, z.qa, z.qc, (G.eraseIdx i).flatMap ghp ++ (O.flatMap ohp ++ R), i, by rw [List.getElem?_map, hz]; rfl, by rw [← hG]; simp, St.takeOut (f := ghp) (A := [_, _, _]) hz hS, fun w' x' qa' qc' A h => ?_, fun w' A h => ?_⟩
  · refine ⟨mg, mo, G.set i (nm, ⟨z.blk, qa', qc', x'⟩), O, ?_, hO, ?_⟩
    · rw [List.map_set, hG, aput, hi]; rfl
    · rw [map_set_same hz (by simp [kvO])]
      refine St.putIn (f := ghp) (A := [_, _, _]) (z' := (nm, ⟨z.blk, qa', qc', x'⟩)) hz ?_
      refine h.perm ((front3 _ _ _ _ _).trans (.cons _ (.cons _ (.cons _ ?_))))
      show (A ++ ([zc 71 z.blk qa' qc' x', zr qa' qc' x'] ++ ((G.eraseIdx i).flatMap ghp ++ (O.flatMap ohp ++ R)))).Perm ([zc 71 z.blk qa' qc' x', zr qa' qc' x'] ++ ((G.eraseIdx i).flatMap ghp ++ (O.flatMap ohp ++ (A ++ R))))
      exact (swapL _ _ _).trans (.append_left _ ((swapL _ _ _).trans (.append_left _ (swapL _ _ _))))
  · refine ⟨mg, mo, G.eraseIdx i, O, by rw [adel, hi, ← hG]; exact (erase_map datO G i).symm, hO, ?_⟩
    rw [erase_map] at h
    exact h.perm ((front3 _ _ _ _ _).trans (.cons _ (.cons _ (.cons _ ((swapL _ _ _).trans (.append_left _ (swapL _ _ _)))))))

theorem once_open (h : CntSt w0 w p σ R) (hx : aget σ.o nm = some x) : ∃ (mg mo : Nat) (kg ko : List (Value × Value)) (blk : Nat) (qa : Option Addr) (qc : Nat) (D : List Hp) (i : Nat), ko[i]? = some (.string nm, .pointer (some ⟨blk, 0, none⟩)) ∧ ko.length = σ.o.length ∧
    St w0 w (cc p mg mo :: .mp mg .string kg :: .mp mo .string ko :: zc 76 blk qa qc x :: zr qa qc x :: D) ∧
    (∀ w' x' qa' qc' A, St w0 w' (A ++ (cc p mg mo :: .mp mg .string kg :: .mp mo .string ko :: zc 76 blk qa' qc' x' :: zr qa' qc' x' :: D)) → CntSt w0 w' p ⟨σ.g, aput σ.o nm x'⟩ (A ++ R)) ∧
    (∀ w' A, St w0 w' (A ++ (cc p mg mo :: .mp mg .string kg :: .mp mo .string (ko.eraseIdx i) :: D)) → CntSt w0 w' p ⟨σ.g, adel σ.o nm⟩ (A ++ R)) := by
  obtain ⟨mg, mo, G, O, hG, hO, hS⟩ := h
  obtain ⟨i, z, hi, hz, rfl⟩ := pm_get hO hx
  refine ⟨mg, mo, G.map kvO, O.map kvO, z.blk, z.qa, z.qc, G.flatMap ghp ++ ((O.eraseIdx i).flatMap ohp ++ R), i, by rw [List.getElem?_map, hz]; rfl, by rw [← hO]; simp, ?_, fun w' x' qa' qc' A h => ?_, fun w' A h => ?_⟩
  · have h1 := St.takeOut (f := ohp) (A := [cc p mg mo, .mp mg .string (G.map kvO), .mp mo .string (O.map kvO)] ++ G.flatMap ghp) (R := R) hz (by simpa using hS)
    rw [List.append_assoc] at h1
    exact h1.perm (.append_left _ (swapL _ _ _))
  · refine ⟨mg, mo, G, O.set i (nm, ⟨z.blk, qa', qc', x'⟩), hG, ?_, ?_⟩
    · rw [List.map_set, hO, aput, hi]; rfl
    · rw [map_set_same hz (by simp [kvO])]
      have h1 := St.putIn (w0 := w0) (w := w') (f := ohp) (A := [cc p mg mo, .mp mg .string (G.map kvO), .mp mo .string (O.map kvO)] ++ G.flatMap ghp) (R := A ++ R) (z' := (nm, ⟨z.blk, qa', qc', x'⟩)) hz (by
        rw [List.append_assoc]
        refine h.perm ((front3 _ _ _ _ _).trans (.cons _ (.cons _ (.cons _ ?_))))
        show (A ++ ([zc 76 z.blk qa' qc' x', zr qa' qc' x'] ++ (G.flatMap ghp ++ ((O.eraseIdx i).flatMap ohp ++ R)))).Perm (G.flatMap ghp ++ ([zc 76 z.blk qa' qc' x', zr qa' qc' x'] ++ ((O.eraseIdx i).flatMap ohp ++ (A ++ R))))
        exact (swapL _ _ _).trans ((List.Perm.append_left _ ((swapL _ _ _).trans (.append_left _ (swapL _ _ _)))).trans (swapL _ _ _)))
      simpa using h1
  · refine ⟨mg, mo, G, O.eraseIdx i, hG, by rw [adel, hi, ← hO]; exact (erase_map datO O i).symm, ?_⟩
    rw [erase_map] at h
    exact h.perm ((front3 _ _ _ _ _).trans (.cons _ (.cons _ (.cons _ ((swapL _ _ _).trans (.append_left _ (swapL _ _ _)))))))

theorem once_openX (h : CntSt w0 w p σ R) (hx : aget σ.o nm = some x) : ∃ (mg mo : Nat) (kg ko : List (Value × Value)) (blk : Nat) (qa : Option Addr) (qc : Nat) (X : List Hp) (i : Nat), ko[i]? = some (.string nm, .pointer (some ⟨blk, 0, none⟩)) ∧ ko.length = σ.o.length ∧
    St w0 w (cc p mg mo :: .mp mg .string kg :: .mp mo .string ko :: zc 76 blk qa qc x :: zr qa qc x :: (X ++ R)) ∧
    (∀ w' x' qa' qc' R', St w0 w' (cc p mg mo :: .mp mg .string kg :: .mp mo .string ko :: zc 76 blk qa' qc' x' :: zr qa' qc' x' :: (X ++ R')) → CntSt w0 w' p ⟨σ.g, aput σ.o nm x'⟩ R') ∧
    (∀ w' R', St w0 w' (cc p mg mo :: .mp mg .string kg :: .mp mo .string (ko.eraseIdx i) :: (X ++ R')) → CntSt w0 w' p ⟨σ.g, adel σ.o nm⟩ R') := by
  obtain ⟨mg, mo, G, O, hG, hO, hS⟩ := h
  obtain ⟨i, z, hi, hz, rfl⟩ := pm_get hO hx
  refine ⟨mg, mo, G.map kvO, O.map kvO, z.blk, z.qa, z.qc, G.flatMap ghp ++ (O.eraseIdx i).flatMap ohp, i, by rw [List.getElem?_map, hz]; rfl, by rw [← hO]; simp, ?_, fun w' x' qa' qc' R' h => ?_, fun w' R' h => ?_⟩
  · have h1 := St.takeOut (f := ohp) (A := [cc p mg mo, .mp mg .string (G.map kvO), .mp mo .string (O.map kvO)] ++ G.flatMap ghp) (R := R) hz (by simpa using hS)
    rw [List.append_assoc] at h1
    rw [List.append_assoc]
    exact h1.perm (.append_left _ (swapL _ _ _))
  · refine ⟨mg, mo, G, O.set i (nm, ⟨z.blk, qa', qc', x'⟩), hG, ?_, ?_⟩
    · rw [List.map_set, hO, aput, hi]; rfl
    · rw [map_set_same hz (by simp [kvO])]
      have h1 := St.putIn (w0 := w0) (w := w') (f := ohp) (A := [cc p mg mo, .mp mg .string (G.map kvO), .mp mo .string (O.map kvO)] ++ G.flatMap ghp) (R := R') (z' := (nm, ⟨z.blk, qa', qc', x'⟩)) hz (by
        rw [List.append_assoc]
        rw [List.append_assoc] at h
        refine h.perm (.cons _ (.cons _ (.cons _ ?_)))
        show ([zc 76 z.blk qa' qc' x', zr qa' qc' x'] ++ (G.flatMap ghp ++ ((O.eraseIdx i).flatMap ohp ++ R'))).Perm (G.flatMap ghp ++ ([zc 76 z.blk qa' qc' x', zr qa' qc' x'] ++ ((O.eraseIdx i).flatMap ohp ++ R')))
        exact swapL _ _ _)
      simpa using h1
  · refine ⟨mg, mo, G, O.eraseIdx i, hG, by rw [adel, hi, ← hO]; exact (erase_map datO O i).symm, ?_⟩
    rw [erase_map, List.append_assoc] at h
    exact h

theorem grp_absent (h : CntSt w0 w p σ R) (hx : aget σ.g nm = none) : ∃ (mg mo : Nat) (kg ko : List (Value × Value)) (D : List Hp), (∀ q ∈ kg, q.1 ≠ .string nm) ∧ kg.length = σ.g.length ∧
    St w0 w (cc p mg mo :: .mp mg .string kg :: .mp mo .string ko :: D) ∧
    (∀ w' A, St w0 w' (A ++ (cc p mg mo :: .mp mg .string kg :: .mp mo .string ko :: D)) → CntSt w0 w' p σ (A ++ R)) ∧
    (∀ w' x' blk qa' qc' A, St w0 w' (A ++ (cc p mg mo :: .mp mg .string (kg ++ [(.string nm, .pointer (some ⟨blk, 0, none⟩))]) :: .mp mo .string ko :: zc 71 blk qa' qc' x' :: zr qa' qc' x' :: D)) → CntSt w0 w' p ⟨aput σ.g nm x', σ.o⟩ (A ++ R)) := by
  obtain ⟨mg, mo, G, O, hG, hO, hS⟩ := h
  refine ⟨mg, mo, G.map kvO, O.map kvO, _, pm_none hG hx, by rw [← hG]; simp, hS, fun w' A h => ?_, fun w' x' blk qa' qc' A h => ?_⟩
  · exact ⟨mg, mo, G, O, hG, hO, h.perm ((front3 _ _ _ _ _).trans (.cons _ (.cons _ (.cons _ ((swapL _ _ _).trans (.append_left _ (swapL _ _ _)))))))⟩
  · refine ⟨mg, mo, G ++ [(nm, ⟨blk, qa', qc', x'⟩)], O, by rw [List.map_append, hG, aput, aget_none_idx hx]; rfl, hO, ?_⟩
    rw [List.map_append]
    refine St.addOne (f := ghp) (A := [_, _, _]) (z := (nm, ⟨blk, qa', qc', x'⟩)) ?_
    refine h.perm ((front3 _ _ _ _ _).trans (.cons _ (.cons _ (.cons _ ?_))))
    show (A ++ ([zc 71 blk qa' qc' x', zr qa' qc' x'] ++ (G.flatMap ghp ++ (O.flatMap ohp ++ R)))).Perm ([zc 71 blk qa' qc' x', zr qa' qc' x'] ++ (G.flatMap ghp ++ (O.flatMap ohp ++ (A ++ R))))
    exact (swapL _ _ _).trans (.append_left _ ((swapL _ _ _).trans (.append_left _ (swapL _ _ _))))

theorem once_absent (h : CntSt w0 w p σ R) (hx : aget σ.o nm = none) : ∃ (mg mo : Nat) (kg ko : List (Value × Value)) (D : List Hp), (∀ q ∈ ko, q.1 ≠ .string nm) ∧ ko.length = σ.o.length ∧
    St w0 w (cc p mg mo :: .mp mg .string kg :: .mp mo .string ko :: D) ∧
    (∀ w' A, St w0 w' (A ++ (cc p mg mo :: .mp mg .string kg :: .mp mo .string ko :: D)) → CntSt w0 w' p σ (A ++ R)) ∧
    (∀ w' x' blk qa' qc' A, St w0 w' (A ++ (cc p mg mo :: .mp mg .string kg :: .mp mo .string (ko ++ [(.string nm, .pointer (some ⟨blk, 0, none⟩))]) :: zc 76 blk qa' qc' x' :: zr qa' qc' x' :: D)) → CntSt w0 w' p ⟨σ.g, aput σ.o nm x'⟩ (A ++ R)) := by
  obtain ⟨mg, mo, G, O, hG, hO, hS⟩ := h
  refine ⟨mg, mo, G.map kvO, O.map kvO, _, pm_none hO hx, by rw [← hO]; simp, hS, fun w' A h => ?_, fun w' x' blk qa' qc' A h => ?_⟩
  · exact ⟨mg, mo, G, O, hG, hO, h.perm ((front3 _ _ _ _ _).trans (.cons _ (.cons _ (.cons _ ((swapL _ _ _).trans (.append_left _ (swapL _ _ _)))))))⟩
  · refine ⟨mg, mo, G, O ++ [(nm, ⟨blk, qa', qc', x'⟩)], hG, by rw [List.map_append, hO, aput, aget_none_idx hx]; rfl, ?_⟩
    rw [List.map_append]
    have h1 := St.addOne (w0 := w0) (w := w') (f := ohp) (A := [cc p mg mo, .mp mg .string (G.map kvO), .mp mo .string (O.map kvO ++ [(.string nm, .pointer (some ⟨blk, 0, none⟩))])] ++ G.flatMap ghp) (R := A ++ R) (Z := O) (z := (nm, ⟨blk, qa', qc', x'⟩)) (by
      rw [List.append_assoc]
      refine h.perm ((front3 _ _ _ _ _).trans (.cons _ (.cons _ (.cons _ ?_))))
      show (A ++ ([zc 76 blk qa' qc' x', zr qa' qc' x'] ++ (G.flatMap ghp ++ (O.flatMap ohp ++ R)))).Perm (G.flatMap ghp ++ ([zc 76 blk qa' qc' x', zr qa' qc' x'] ++ (O.flatMap ohp ++ (A ++ R))))
      exact (swapL _ _ _).trans ((List.Perm.append_left _ ((swapL _ _ _).trans (.append_left _ (swapL _ _ _)))).trans (swapL _ _ _)))
    rw [List.append_assoc] at h1
    exact h1
end

def ownR (c : CmdS) (e n : Int) : RepS := ⟨c.session, c.seq, e, 0, n⟩
def allR (q : List QW) : List RepS := q.map fun w => ⟨w.session, w.seq, 0, 0, 0⟩

def cnt (x : Option OS) : Int := match x with | none => 0 | some x => x.n

def addD (σ : CntS) (c : CmdS) : List RepS × CntS :=
  if c.kind ≠ 9 then ([], σ)
  else
    let n := cnt (aget σ.g c.name)
    if c.n > 1073741824 - n then ([ownR c 15 0], σ)
    else if c.n < -n then ([ownR c 14 0], σ)
    else match aget σ.g c.name with
      | none =>
        if c.n > 0 then (if 256 ≤ σ.g.length then ([ownR c 17 0], σ) else ([ownR c 0 c.n], ⟨aput σ.g c.name ⟨c.n, []⟩, σ.o⟩))
        else ([ownR c 0 c.n], σ)
      | some x =>
        if x.n + c.n = 0 then (ownR c 0 0 :: allR x.q, ⟨adel σ.g c.name, σ.o⟩)
        else ([ownR c 0 (x.n + c.n)], ⟨aput σ.g c.name ⟨x.n + c.n, x.q⟩, σ.o⟩)

def waitD (σ : CntS) (c : CmdS) : List RepS × Bool × CntS :=
  if c.kind ≠ 10 then ([], false, σ)
  else match aget σ.g c.name with
    | none => ([ownR c 0 0], false, σ)
    | some x => ([], true, ⟨aput σ.g c.name ⟨x.n, x.q ++ [⟨c.session, c.seq⟩]⟩, σ.o⟩)

def onceD (σ : CntS) (c : CmdS) : List RepS × Bool × CntS :=
  if c.kind ≠ 11 then ([], false, σ)
  else match aget σ.o c.name with
    | none => if 256 ≤ σ.o.length then ([ownR c 17 0], false, σ) else ([ownR c 0 1], false, ⟨σ.g, aput σ.o c.name ⟨c.session, []⟩⟩)
    | some x =>
      if x.n = c.session then ([ownR c 12 0], false, σ)
      else if x.n = 0 then ([ownR c 0 0], false, σ)
      else ([], true, ⟨σ.g, aput σ.o c.name ⟨x.n, x.q ++ [⟨c.session, c.seq⟩]⟩⟩)

def doneD (σ : CntS) (c : CmdS) : List RepS × CntS :=
  if c.kind ≠ 12 then ([], σ)
  else match aget σ.o c.name with
    | none => ([ownR c 13 0], σ)
    | some x =>
      if x.n = 0 ∨ x.n ≠ c.session then ([ownR c 13 0], σ)
      else (ownR c 0 0 :: allR x.q, ⟨σ.g, aput σ.o c.name ⟨0, []⟩⟩)

structure CntS.ok (σ : CntS) (n : Nat) : Prop where
  g0 : ∀ x ∈ σ.g, 0 < x.2.n ∧ x.2.n ≤ 1073741824 ∧ x.2.q.length ≤ n
  o0 : ∀ x ∈ σ.o, x.2.q.length ≤ n
  lg : σ.g.length ≤ 256
  lo : σ.o.length ≤ 256
  ng : ∀ x ∈ σ.g, x.1.size ≤ maxLen
  no : ∀ x ∈ σ.o, x.1.size ≤ maxLen

def dropF (q : List QW) (s : Int) : List QW := q.filter fun w => !(w.session == s)
theorem dropF_len (q : List QW) (s : Int) : (dropF q s).length ≤ q.length := List.length_filter_le _ _
def dropO (s : Int) (x : ByteArray × OS) : ByteArray × OS := (x.1, ⟨x.2.n, dropF x.2.q s⟩)
/-- A once whose runner is gone. -/
def goneO (s : Int) (acc : List RepS × List (ByteArray × OS)) (nm : ByteArray) : List RepS × List (ByteArray × OS) :=
  match aget acc.2 nm with
  | none => acc
  | some x =>
    if x.n ≠ s ∨ s = 0 then (acc.1, aput acc.2 nm ⟨x.n, dropF x.q s⟩)
    else match dropF x.q s with
      | [] => (acc.1, adel acc.2 nm)
      | w :: r => (acc.1 ++ [⟨w.session, w.seq, 0, 0, 1⟩], aput acc.2 nm ⟨w.session, r⟩)
def goneF (s : Int) (names : List ByteArray) (o : List (ByteArray × OS)) : List RepS × List (ByteArray × OS) := names.foldl (goneO s) ([], o)
end Go.Proofs.Ytiidlegieenfeaa
