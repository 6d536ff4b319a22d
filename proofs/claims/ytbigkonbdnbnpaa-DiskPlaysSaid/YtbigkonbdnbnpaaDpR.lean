/-
  The reference's disk: how it lies in memory; find, make, name, walked.
-/
import Derived.Test.YtbigkonbdnbnpaaDpP3
import Derived.Test.YtbigkonbdnbnpaaGen2
import Derived.Test.YtbigkonbdnbnpaaRegA
import Derived.Test.YtbigkonbdnbnpaaRowCells
import Derived.Test.YtbigkonbdnbnpaaPtrMap
import Derived.Deep.DeepCutAuto
import Derived.Deep.CutBlock
import Derived.WalkLawsBesides
import Derived.WalkSpells
import Derived.Deep.LoopGhost
namespace Go.Proofs.Ytbigkonbdnbnpaa
set_option linter.unusedVariables false
set_option linter.unusedSimpArgs false
open Go.RowKit

structure FileR where
  nm : ByteArray
  a : Option Addr
  c : Nat
  l : List BR
def FileR.d (z : FileR) : ByteArray × List BR := (z.nm, z.l)
def FileR.cells (z : FileR) : List Value := [.string z.nm, .slice z.a z.l.length z.c]
theorem FileR.cells_length (z : FileR) : z.cells.length = 2 := rfl
def bcells (b : BR) : List Value := [.int .u8 b.1.toNat, .int .i64 b.2]
theorem bcells_length (b : BR) : (bcells b).length = 2 := rfl
theorem files_one (l : List FileR) : ∀ u ∈ l.flatMap FileR.cells, u.oneCell' = true := by
  intro u hu
  obtain ⟨x, _, hx⟩ := List.mem_flatMap.1 hu
  simp [FileR.cells] at hx
  rcases hx with rfl | rfl <;> rfl
abbrev brow (a : Option Addr) (c : Nat) (l : List BR) : Hp := .row 79 2 a l.length c (l.flatMap bcells)
abbrev fhp (z : FileR) : List Hp := [brow z.a z.c z.l]
abbrev frow (a : Option Addr) (c : Nat) (L : List FileR) : Hp := .row 76 2 a L.length c (L.flatMap FileR.cells)
abbrev rdc (x : Nat) (a : Option Addr) (n c : Nat) (clk : Int) : Hp := .cells x [.slice a n c, .int .i64 clk] 39

def RefDSt (w0 w : World) (x : Nat) (ρ : RefD) (R : List Hp) : Prop :=
  ∃ (a : Option Addr) (c : Nat) (L : List FileR), L.map FileR.d = ρ.l ∧ St w0 w (rdc x a L.length c ρ.clock :: frow a c L :: (L.flatMap fhp ++ R))

section
variable {w0 w : World} {x : Nat} {R A : List Hp} {ρ : RefD}
theorem RefDSt.use (h : RefDSt w0 w x ρ R) : ∃ D : List Hp, St w0 w (D ++ R) ∧ ∀ w' R', St w0 w' (D ++ R') → RefDSt w0 w' x ρ R' := by
  obtain ⟨a, c, L, hL, hS⟩ := h
  exact ⟨rdc x a L.length c ρ.clock :: frow a c L :: L.flatMap fhp, by simpa using hS, fun w' R' h' => ⟨a, c, L, hL, by simpa using h'⟩⟩
theorem RefDSt.rest (h : RefDSt w0 w x ρ R) : St w0 w R := by
  obtain ⟨D, hS, _⟩ := h.use
  exact hS.dropA
theorem RefDSt.re {R' : List Hp} (h : RefDSt w0 w x ρ R) (hf : ∀ D, St w0 w (D ++ R) → St w0 w (D ++ R')) : RefDSt w0 w x ρ R' := by
  obtain ⟨D, hS, hb⟩ := h.use
  exact hb _ _ (hf D hS)
theorem RefDSt.sub {R' : List Hp} (h : RefDSt w0 w x ρ R) (hs : R'.Sublist R) : RefDSt w0 w x ρ R' := h.re fun D hS => St.sub hS (hs.append_left D)
theorem RefDSt.perm {R' : List Hp} (h : RefDSt w0 w x ρ R) (hs : R.Perm R') : RefDSt w0 w x ρ R' := h.re fun D hS => St.perm hS (hs.append_left D)
theorem RefDSt.opn (h : RefDSt w0 w x ρ (A ++ R)) : ∃ D : List Hp, St w0 w (A ++ D) ∧ ∀ w' A', St w0 w' (A' ++ D) → RefDSt w0 w' x ρ (A' ++ R) := opn_of_use h.use
end

def fnd (L : List FileR) (s : ByteArray) : Int := match L.findIdx? (fun z => decide (z.nm = s)) with
  | none => -1
  | some i => i
theorem fnd_none {L : List FileR} {s : ByteArray} (h : ∀ z ∈ L, z.nm ≠ s) : fnd L s = -1 := by
  have : L.findIdx? (fun z => decide (z.nm = s)) = none := List.findIdx?_eq_none_iff.2 fun z hz => by simpa using h z hz
  unfold fnd; rw [this]
theorem fnd_some {L : List FileR} {s : ByteArray} {j : Nat} {z : FileR} (hz : L[j]? = some z) (he : z.nm = s) (h : ∀ y ∈ L.take j, y.nm ≠ s) : fnd L s = j := by
  have : L.findIdx? (fun z => decide (z.nm = s)) = some j := by
    obtain ⟨hl, e⟩ := List.getElem?_eq_some_iff.1 hz
    refine List.findIdx?_eq_some_iff_getElem.2 ⟨hl, by rw [e]; simpa using he, fun i hi => ?_⟩
    have := h L[i] (List.mem_take_iff_getElem.2 ⟨i, by omega, rfl⟩)
    simpa using this
  unfold fnd; rw [this]

section
variable {w0 w : World} {D : List Hp} {x : Nat} {a : Option Addr} {c : Nat} {clk : Int} {L : List FileR}
theorem rname_c (s : ByteArray) (w : World) (hs : s.size ≤ 1000000000000000) : Calls Try.prog 39 #[.string s] w fun e w' => e = .returned (.bool (nameC s)) ∧ w = w' := by
  unfold nameC
  by_cases h1 : 1 ≤ s.size
  · have hd : decide ((1 : Int) ≤ (s.size : Int)) = true := by simp; omega
    go_enter Try.func39, Try.ntmps39
    go_wp2_with (first | ((with_reducible show WGd ..); (with_reducible apply wpA_guard); exact rfl; skip) | ((with_reducible show WLd ..); (with_reducible apply wpA_load); exact rfl; (first | ((with_reducible apply St.cellI hS); (focus repeat constructor); exact rfl) | assumption); kernel_rfl) | ((with_reducible show WSt ..); (with_reducible apply wpA_store1I hS); exact rfl; (focus repeat constructor); exact rfl; exact rfl; exact rfl; exact rfl; kernel_rfl; intro wx hS; (try simp only [Act.put, List.setIfInBounds_toArray, List.set_cons_zero, List.set_cons_succ]); (try simp only [Act.eval, Array.getD_eq_getD_getElem?, List.getElem?_toArray, List.getElem?_cons_succ, List.getElem?_cons_zero, Option.getD_some, List.set_cons_succ, List.set_cons_zero, Value.cells, List.toList_toArray] at hS)) | ((with_reducible show WBx ..); (with_reducible apply wpA_box hS); exact rfl; exact rfl; intro _ wx hS; (try simp only [Act.put, List.setIfInBounds_toArray, List.set_cons_zero, List.set_cons_succ]); (try simp only [Act.eval, Array.getD_eq_getD_getElem?, List.getElem?_toArray, List.getElem?_cons_succ, List.getElem?_cons_zero, Option.getD_some, List.set_cons_succ, List.set_cons_zero, Value.cells, List.toList_toArray] at hS)))
    go_ret
    refine ⟨?_, rfl⟩
    rw [decide_eq_true (show 0 < s.size by omega)]
    by_cases h2 : s.size ≤ 64
    · rw [decide_eq_true h2]; simp; omega
    · rw [decide_eq_false h2]; simp; omega
  · have hd : decide ((1 : Int) ≤ (s.size : Int)) = false := by simp; omega
    go_enter Try.func39, Try.ntmps39
    go_wp2_with (first | ((with_reducible show WGd ..); (with_reducible apply wpA_guard); exact rfl; skip) | ((with_reducible show WLd ..); (with_reducible apply wpA_load); exact rfl; (first | ((with_reducible apply St.cellI hS); (focus repeat constructor); exact rfl) | assumption); kernel_rfl) | ((with_reducible show WSt ..); (with_reducible apply wpA_store1I hS); exact rfl; (focus repeat constructor); exact rfl; exact rfl; exact rfl; exact rfl; kernel_rfl; intro wx hS; (try simp only [Act.put, List.setIfInBounds_toArray, List.set_cons_zero, List.set_cons_succ]); (try simp only [Act.eval, Array.getD_eq_getD_getElem?, List.getElem?_toArray, List.getElem?_cons_succ, List.getElem?_cons_zero, Option.getD_some, List.set_cons_succ, List.set_cons_zero, Value.cells, List.toList_toArray] at hS)) | ((with_reducible show WBx ..); (with_reducible apply wpA_box hS); exact rfl; exact rfl; intro _ wx hS; (try simp only [Act.put, List.setIfInBounds_toArray, List.set_cons_zero, List.set_cons_succ]); (try simp only [Act.eval, Array.getD_eq_getD_getElem?, List.getElem?_toArray, List.getElem?_cons_succ, List.getElem?_cons_zero, Option.getD_some, List.set_cons_succ, List.set_cons_zero, Value.cells, List.toList_toArray] at hS)))
    go_ret
    refine ⟨?_, rfl⟩
    simp; omega

theorem rfind_s (hS : St w0 w (rdc x a L.length c clk :: frow a c L :: D)) (s : ByteArray) (hl : L.length ≤ 1000000000) :
    Calls Try.prog 40 #[.pointer (some ⟨x, 0, none⟩), .string s] w fun e w' => e = .returned (.int .i64 (fnd L s)) ∧ St w0 w' (rdc x a L.length c clk :: frow a c L :: D) := by
  go_enter Try.func40, Try.ntmps40
  go_wp2_with (first | ((with_reducible show WGd ..); (with_reducible apply wpA_guard); exact rfl; skip) | ((with_reducible show WLd ..); (with_reducible apply wpA_load); exact rfl; (first | ((with_reducible apply St.cellI hS); (focus repeat constructor); exact rfl) | assumption); kernel_rfl) | ((with_reducible show WSt ..); (with_reducible apply wpA_store1I hS); exact rfl; (focus repeat constructor); exact rfl; exact rfl; exact rfl; exact rfl; kernel_rfl; intro wx hS; (try simp only [Act.put, List.setIfInBounds_toArray, List.set_cons_zero, List.set_cons_succ]); (try simp only [Act.eval, Array.getD_eq_getD_getElem?, List.getElem?_toArray, List.getElem?_cons_succ, List.getElem?_cons_zero, Option.getD_some, List.set_cons_succ, List.set_cons_zero, Value.cells, List.toList_toArray] at hS)) | ((with_reducible show WBx ..); (with_reducible apply wpA_box hS); exact rfl; exact rfl; intro _ wx hS; (try simp only [Act.put, List.setIfInBounds_toArray, List.set_cons_zero, List.set_cons_succ]); (try simp only [Act.eval, Array.getD_eq_getD_getElem?, List.getElem?_toArray, List.getElem?_cons_succ, List.getElem?_cons_zero, Option.getD_some, List.set_cons_succ, List.set_cons_zero, Value.cells, List.toList_toArray] at hS)))
  go_loopw [5] (fun t wr => ∃ j : Nat, j ≤ L.length ∧ t = .int .i64 j ∧ Hid (∀ z ∈ L.take j, z.nm ≠ s) ∧ St w0 wr (rdc x a L.length c clk :: frow a c L :: D)) (fun t _ => L.length - (intOf t).toNat)
  case atStart => exact ⟨0, Nat.zero_le _, rfl, Lib.hid (by simp), hS⟩
  case round =>
    clear hS
    obtain ⟨j, hj, rfl, HN, hS⟩ := hrel
    by_cases hlt : j < L.length
    · obtain ⟨z, hz⟩ : ∃ z, L[j]? = some z := ⟨_, List.getElem?_eq_getElem hlt⟩
      rcases row_head (hS.at_ 1 rfl) with ⟨_, hh, _⟩ | ⟨⟨g, rfl⟩, _⟩
      · omega
      have HZ := Lib.hid hz
      clear hz
      by_cases hk : z.nm = s
      · have hb : (z.nm.toList == s.toList) = true := by simp [hk]
        go_wp2_with (first | ((with_reducible show WGd ..); (with_reducible apply wpA_guard); exact rfl; skip) | ((with_reducible show WLd ..); (with_reducible apply wpA_load); exact rfl; exact (row_elem FileR.cells_length (hS.at_ 1 rfl) HZ.out) 0 _ rfl; kernel_rfl) | ((with_reducible show WLd ..); (with_reducible apply wpA_load); exact rfl; (first | ((with_reducible apply St.cellI hS); (focus repeat constructor); exact rfl) | assumption); kernel_rfl) | ((with_reducible show WSt ..); (with_reducible apply wpA_store1I hS); exact rfl; (focus repeat constructor); exact rfl; exact rfl; exact rfl; exact rfl; kernel_rfl; intro wx hS; (try simp only [Act.put, List.setIfInBounds_toArray, List.set_cons_zero, List.set_cons_succ]); (try simp only [Act.eval, Array.getD_eq_getD_getElem?, List.getElem?_toArray, List.getElem?_cons_succ, List.getElem?_cons_zero, Option.getD_some, List.set_cons_succ, List.set_cons_zero, Value.cells, List.toList_toArray] at hS)) | ((with_reducible show WBx ..); (with_reducible apply wpA_box hS); exact rfl; exact rfl; intro _ wx hS; (try simp only [Act.put, List.setIfInBounds_toArray, List.set_cons_zero, List.set_cons_succ]); (try simp only [Act.eval, Array.getD_eq_getD_getElem?, List.getElem?_toArray, List.getElem?_cons_succ, List.getElem?_cons_zero, Option.getD_some, List.set_cons_succ, List.set_cons_zero, Value.cells, List.toList_toArray] at hS)))
        go_ret
        refine ⟨?_, hS⟩
        rw [fnd_some HZ.out hk HN.out]; rfl
      · have hb : (z.nm.toList == s.toList) = false := by
          simp only [beq_eq_false_iff_ne, ne_eq]
          intro e
          rw [ByteArray.toList_eq, ByteArray.toList_eq] at e
          exact hk (ByteArray.ext (Array.toList_inj.1 e))
        go_wp2_with (first | ((with_reducible show WGd ..); (with_reducible apply wpA_guard); exact rfl; skip) | ((with_reducible show WLd ..); (with_reducible apply wpA_load); exact rfl; exact (row_elem FileR.cells_length (hS.at_ 1 rfl) HZ.out) 0 _ rfl; kernel_rfl) | ((with_reducible show WLd ..); (with_reducible apply wpA_load); exact rfl; (first | ((with_reducible apply St.cellI hS); (focus repeat constructor); exact rfl) | assumption); kernel_rfl) | ((with_reducible show WSt ..); (with_reducible apply wpA_store1I hS); exact rfl; (focus repeat constructor); exact rfl; exact rfl; exact rfl; exact rfl; kernel_rfl; intro wx hS; (try simp only [Act.put, List.setIfInBounds_toArray, List.set_cons_zero, List.set_cons_succ]); (try simp only [Act.eval, Array.getD_eq_getD_getElem?, List.getElem?_toArray, List.getElem?_cons_succ, List.getElem?_cons_zero, Option.getD_some, List.set_cons_succ, List.set_cons_zero, Value.cells, List.toList_toArray] at hS)) | ((with_reducible show WBx ..); (with_reducible apply wpA_box hS); exact rfl; exact rfl; intro _ wx hS; (try simp only [Act.put, List.setIfInBounds_toArray, List.set_cons_zero, List.set_cons_succ]); (try simp only [Act.eval, Array.getD_eq_getD_getElem?, List.getElem?_toArray, List.getElem?_cons_succ, List.getElem?_cons_zero, Option.getD_some, List.set_cons_succ, List.set_cons_zero, Value.cells, List.toList_toArray] at hS)))
        go_roundw
        case rel => exact ⟨j + 1, by omega, by go_num, Lib.hid (by rw [List.take_add_one, HZ.out]; intro y hy; exact (List.mem_append.1 hy).elim (HN.out y) (fun q => by simp at q; subst q; exact hk)), hS⟩
        case measure => simp [intOf]; omega
    · obtain rfl : j = L.length := by omega
      go_wp2_with (first | ((with_reducible show WGd ..); (with_reducible apply wpA_guard); exact rfl; skip) | ((with_reducible show WLd ..); (with_reducible apply wpA_load); exact rfl; (first | ((with_reducible apply St.cellI hS); (focus repeat constructor); exact rfl) | assumption); kernel_rfl) | ((with_reducible show WSt ..); (with_reducible apply wpA_store1I hS); exact rfl; (focus repeat constructor); exact rfl; exact rfl; exact rfl; exact rfl; kernel_rfl; intro wx hS; (try simp only [Act.put, List.setIfInBounds_toArray, List.set_cons_zero, List.set_cons_succ]); (try simp only [Act.eval, Array.getD_eq_getD_getElem?, List.getElem?_toArray, List.getElem?_cons_succ, List.getElem?_cons_zero, Option.getD_some, List.set_cons_succ, List.set_cons_zero, Value.cells, List.toList_toArray] at hS)) | ((with_reducible show WBx ..); (with_reducible apply wpA_box hS); exact rfl; exact rfl; intro _ wx hS; (try simp only [Act.put, List.setIfInBounds_toArray, List.set_cons_zero, List.set_cons_succ]); (try simp only [Act.eval, Array.getD_eq_getD_getElem?, List.getElem?_toArray, List.getElem?_cons_succ, List.getElem?_cons_zero, Option.getD_some, List.set_cons_succ, List.set_cons_zero, Value.cells, List.toList_toArray] at hS)))
      go_ret
      refine ⟨?_, hS⟩
      have := HN.out
      rw [List.take_length] at this
      rw [fnd_none this]; rfl
end
end Go.Proofs.Ytbigkonbdnbnpaa
