/-
  The disk as plain data: files in the order in which their names came to be.
-/
import Derived.Test.YtbigkonbdnbnpaaDrawn
namespace Go.Proofs.Ytbigkonbdnbnpaa
set_option linter.unusedVariables false
set_option linter.unusedSimpArgs false

/-- A file: its bytes, how many are sure, the clocks of the others. -/
structure FileS where
  b : List UInt8
  sure : Nat
  came : List Int

structure DiskS where
  l : List (ByteArray × FileS)
  clock : Int

def u8v (b : UInt8) : Value := .int .u8 b.toNat

/-- A file in memory, at block p. -/
def FileH (p : Nat) (f : FileS) (H : List Hp) : Prop :=
  ∃ ao cap ao2 cap2, H = [.cells p [.slice ao f.b.length cap, .int .i64 f.sure, .slice ao2 f.came.length cap2] 56, .row 5 1 ao f.b.length cap (f.b.map u8v), .row 3 1 ao2 f.came.length cap2 (f.came.map (Value.int .i64))]

/-- The files in memory: the map's entries, the heaplets. -/
inductive FilesH : List (ByteArray × FileS) → List (Value × Value) → List Hp → Prop
  | nil : FilesH [] [] []
  | cons {nm : ByteArray} {f : FileS} {l : List (ByteArray × FileS)} {p : Nat} {kvs : List (Value × Value)} {Hf H : List Hp} (h : FileH p f Hf) (r : FilesH l kvs H) :
      FilesH ((nm, f) :: l) ((.string nm, .pointer (some ⟨p, 0, none⟩)) :: kvs) (Hf ++ H)

theorem FilesH.length {l : List (ByteArray × FileS)} {kvs : List (Value × Value)} {H : List Hp} (h : FilesH l kvs H) : kvs.length = l.length := by
  induction h with
  | nil => rfl
  | cons _ _ ih => simp [ih]

theorem FilesH.keys {l : List (ByteArray × FileS)} {kvs : List (Value × Value)} {H : List Hp} (h : FilesH l kvs H) : kvs.map (·.1) = l.map (fun x => Value.string x.1) := by
  induction h with
  | nil => rfl
  | cons _ _ ih => simp [ih]

theorem FilesH.absent {l : List (ByteArray × FileS)} {kvs : List (Value × Value)} {H : List Hp} (h : FilesH l kvs H) {nm : ByteArray} (hn : ∀ x ∈ l, x.1 ≠ nm) : ∀ p ∈ kvs, p.1 ≠ .string nm := by
  intro p hp e
  have h1 : p.1 ∈ kvs.map (·.1) := List.mem_map.2 ⟨p, hp, rfl⟩
  rw [h.keys, e] at h1
  obtain ⟨x, hx, h2⟩ := List.mem_map.1 h1
  injection h2 with h2
  exact hn x hx h2

/-- One file out of the others, and the way back. -/
theorem FilesH.get {l : List (ByteArray × FileS)} {kvs : List (Value × Value)} {H : List Hp} (h : FilesH l kvs H) : ∀ {i : Nat} {nm : ByteArray} {f : FileS}, l[i]? = some (nm, f) →
    ∃ p Hf Hr, kvs[i]? = some (.string nm, .pointer (some ⟨p, 0, none⟩)) ∧ FileH p f Hf ∧ H.Perm (Hf ++ Hr) ∧
      (∀ nm' f' Hf', FileH p f' Hf' → ∃ H', FilesH (l.set i (nm', f')) (kvs.set i (.string nm', .pointer (some ⟨p, 0, none⟩))) H' ∧ H'.Perm (Hf' ++ Hr)) ∧
      ∃ H', FilesH (l.eraseIdx i) (kvs.eraseIdx i) H' ∧ H'.Perm Hr := by
  induction h with
  | nil => intro i nm f hi; simp at hi
  | @cons nm0 f0 l p0 kvs Hf0 H hf r ih =>
    intro i nm f hi
    cases i with
    | zero =>
      simp at hi
      obtain ⟨rfl, rfl⟩ := hi
      exact ⟨p0, Hf0, H, rfl, hf, List.Perm.refl _, fun nm' f' Hf' h' => ⟨Hf' ++ H, .cons h' r, List.Perm.refl _⟩, H, r, List.Perm.refl _⟩
    | succ i =>
      simp only [List.getElem?_cons_succ] at hi
      obtain ⟨p, Hf, Hr, h1, h2, h3, h4, H5, h5, h6⟩ := ih hi
      have sw : ∀ X Y : List Hp, (Hf0 ++ (X ++ Y)).Perm (X ++ (Hf0 ++ Y)) := fun X Y => by
        rw [← List.append_assoc, ← List.append_assoc]; exact List.perm_append_comm.append_right Y
      refine ⟨p, Hf, Hf0 ++ Hr, by simpa using h1, h2, (h3.append_left Hf0).trans (sw _ _), fun nm' f' Hf' h' => ?_, Hf0 ++ H5, .cons hf h5, h6.append_left Hf0⟩
      obtain ⟨H', g1, g2⟩ := h4 nm' f' Hf' h'
      exact ⟨Hf0 ++ H', .cons hf g1, (g2.append_left Hf0).trans (sw _ _)⟩

theorem FilesH.snoc {l : List (ByteArray × FileS)} {kvs : List (Value × Value)} {H : List Hp} (h : FilesH l kvs H) {nm : ByteArray} {f : FileS} {p : Nat} {Hf : List Hp} (hf : FileH p f Hf) :
    ∃ H', FilesH (l ++ [(nm, f)]) (kvs ++ [(.string nm, .pointer (some ⟨p, 0, none⟩))]) H' ∧ H'.Perm (Hf ++ H) := by
  induction h with
  | nil => exact ⟨Hf ++ [], .cons hf .nil, by simp⟩
  | @cons nm0 f0 l p0 kvs Hf0 H hf0 r ih =>
    obtain ⟨H', h1, h2⟩ := ih
    refine ⟨Hf0 ++ H', .cons hf0 h1, (h2.append_left Hf0).trans ?_⟩
    rw [← List.append_assoc, ← List.append_assoc]; exact List.perm_append_comm.append_right H

/-- The files with their blocks, in whatever order. -/
inductive FZ : List ((ByteArray × FileS) × Nat) → List Hp → Prop
  | nil : FZ [] []
  | cons {z : (ByteArray × FileS) × Nat} {Z : List ((ByteArray × FileS) × Nat)} {Hf H : List Hp} (h : FileH z.2 z.1.2 Hf) (r : FZ Z H) : FZ (z :: Z) (Hf ++ H)

def kvZ (z : (ByteArray × FileS) × Nat) : Value × Value := (.string z.1.1, .pointer (some ⟨z.2, 0, none⟩))

theorem swap3 (A B C : List Hp) : (A ++ (B ++ C)).Perm (B ++ (A ++ C)) := by
  rw [← List.append_assoc, ← List.append_assoc]; exact List.perm_append_comm.append_right C

theorem FZ.perm {Z Z' : List ((ByteArray × FileS) × Nat)} (p : Z.Perm Z') : ∀ {H : List Hp}, FZ Z H → ∃ H', FZ Z' H' ∧ H'.Perm H := by
  induction p with
  | nil => intro H h; exact ⟨H, h, .refl _⟩
  | cons x _ ih =>
    intro H h
    cases h with
    | cons h r =>
      obtain ⟨H', h1, h2⟩ := ih r
      exact ⟨_, .cons h h1, h2.append_left _⟩
  | swap x y l =>
    intro H h
    cases h with
    | cons h r =>
      cases r with
      | cons h' r => exact ⟨_, .cons h' (.cons h r), swap3 _ _ _⟩
  | trans _ _ ih1 ih2 =>
    intro H h
    obtain ⟨H1, h1, h2⟩ := ih1 h
    obtain ⟨H2, h3, h4⟩ := ih2 h1
    exact ⟨H2, h3, h4.trans h2⟩

theorem FilesH.toZ {l : List (ByteArray × FileS)} {kvs : List (Value × Value)} {H : List Hp} (h : FilesH l kvs H) : ∃ Z, l = Z.map (·.1) ∧ kvs = Z.map kvZ ∧ FZ Z H := by
  induction h with
  | nil => exact ⟨[], rfl, rfl, .nil⟩
  | @cons nm f l p kvs Hf H hf r ih =>
    obtain ⟨Z, rfl, rfl, hZ⟩ := ih
    exact ⟨((nm, f), p) :: Z, rfl, rfl, .cons hf hZ⟩

theorem FZ.toH {Z : List ((ByteArray × FileS) × Nat)} {H : List Hp} (h : FZ Z H) : FilesH (Z.map (·.1)) (Z.map kvZ) H := by
  induction h with
  | nil => exact .nil
  | cons h r ih => exact .cons h ih

/-- The disk at block g. -/
def DiskSt (w0 w : World) (g : Nat) (σ : DiskS) (R : List Hp) : Prop :=
  ∃ m kvs H, FilesH σ.l kvs H ∧ St w0 w (.cells g [.map (some m), .int .i64 σ.clock] 51 :: .mp m .string kvs :: (H ++ R))

/-- What the walks ask of the numbers. -/
structure DiskS.ok (σ : DiskS) (n : Nat) : Prop where
  clock0 : 0 ≤ σ.clock
  clock1 : σ.clock + n ≤ 4611686018427387904
  files : ∀ x ∈ σ.l, x.2.sure + x.2.came.length = x.2.b.length ∧ x.2.b.length ≤ 4194304

/-- A name that may be. -/
def nameB (s : ByteArray) : Bool := !s.toList.isEmpty && decide ((s.size : Int) ≤ 64)

/-- The clocks of the next n bytes. -/
def clocks (c : Int) (n : Nat) : List Int := (List.range n).map fun (k : Nat) => c + k + 1

end Go.Proofs.Ytbigkonbdnbnpaa
