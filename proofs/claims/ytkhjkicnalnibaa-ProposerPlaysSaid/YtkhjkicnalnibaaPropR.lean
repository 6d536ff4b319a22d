/-
  The reference's proposer: how it lies in memory; its small functions, walked.
-/
import Derived.Test.YtkhjkicnalnibaaPropW2
namespace Go.Proofs.Ytkhjkicnalnibaa
set_option linter.unusedVariables false
set_option linter.unusedSimpArgs false
open Go.RowKit

structure SlotR where
  wa : Option Addr
  wc : Nat
  s : SlotS
def SlotR.cells (z : SlotR) : List Value := [.int .i64 z.s.e.slot, .int .i64 z.s.e.ballot, .int .i64 z.s.e.cmd.kind, .int .i64 z.s.e.cmd.session, .int .i64 z.s.e.cmd.seq, .string z.s.e.cmd.name, .int .i64 z.s.e.cmd.n, .slice z.wa z.s.who.length z.wc, .bool z.s.most]
theorem SlotR.cells_length (z : SlotR) : z.cells.length = 9 := rfl
theorem slots_one (l : List SlotR) : ∀ u ∈ l.flatMap SlotR.cells, u.oneCell' = true := by
  intro u hu
  obtain ⟨x, _, hx⟩ := List.mem_flatMap.1 hu
  simp [SlotR.cells] at hx
  rcases hx with rfl | rfl | rfl | rfl | rfl | rfl | rfl | rfl | rfl <;> rfl
abbrev rhp (z : SlotR) : List Hp := [.row 3 1 z.wa z.s.who.length z.wc (z.s.who.map (Value.int .i64))]
abbrev irow (a : Option Addr) (c : Nat) (l : List Int) : Hp := .row 3 1 a l.length c (l.map (Value.int .i64))
abbrev lrow (a : Option Addr) (c : Nat) (l : List SlotR) : Hp := .row 72 9 a l.length c (l.flatMap SlotR.cells)
abbrev rc (x : Nat) (σ : PropS) (aw : Option Addr) (wl cw : Nat) (ab : Option Addr) (bl cb : Nat) (av : Option Addr) (vl cv : Nat) (al : Option Addr) (ll cl : Nat) : Hp :=
  .cells x [.int .i64 σ.n, .int .i64 σ.ballot, .int .i64 σ.frm, .slice aw wl cw, .slice ab bl cb, .bool σ.ready, .slice av vl cv, .int .i64 σ.next, .slice al ll cl] 50

def RefSt (w0 w : World) (x : Nat) (σ : PropS) (R : List Hp) : Prop :=
  ∃ (aw : Option Addr) (cw : Nat) (ab : Option Addr) (cb : Nat) (av : Option Addr) (cv : Nat) (al : Option Addr) (cl : Nat) (L : List SlotR), L.map (·.s) = σ.opn ∧
    St w0 w (rc x σ aw σ.who.length cw ab σ.best.length cb av σ.vals.length cv al σ.opn.length cl :: irow aw cw σ.who :: vrow ab cb σ.best :: vrow av cv σ.vals :: lrow al cl L :: (L.flatMap rhp ++ R))

theorem RefSt.use {w0 w : World} {x : Nat} {R : List Hp} {σ : PropS} (h : RefSt w0 w x σ R) : ∃ D : List Hp, St w0 w (D ++ R) ∧ ∀ w' R', St w0 w' (D ++ R') → RefSt w0 w' x σ R' := by
  obtain ⟨aw, cw, ab, cb, av, cv, al, cl, L, hL, hS⟩ := h
  exact ⟨rc x σ aw σ.who.length cw ab σ.best.length cb av σ.vals.length cv al σ.opn.length cl :: irow aw cw σ.who :: vrow ab cb σ.best :: vrow av cv σ.vals :: lrow al cl L :: L.flatMap rhp, by simpa using hS, fun w' R' h' => ⟨aw, cw, ab, cb, av, cv, al, cl, L, hL, by simpa using h'⟩⟩
theorem RefSt.rest {w0 w : World} {x : Nat} {R : List Hp} {σ : PropS} (h : RefSt w0 w x σ R) : St w0 w R := by
  obtain ⟨D, hS, _⟩ := h.use
  exact hS.dropA
theorem RefSt.re {w0 w : World} {x : Nat} {R R' : List Hp} {σ : PropS} (h : RefSt w0 w x σ R) (hf : ∀ D, St w0 w (D ++ R) → St w0 w (D ++ R')) : RefSt w0 w x σ R' := by
  obtain ⟨D, hS, hb⟩ := h.use
  exact hb _ _ (hf D hS)
theorem RefSt.sub {w0 w : World} {x : Nat} {R R' : List Hp} {σ : PropS} (h : RefSt w0 w x σ R) (hs : R'.Sublist R) : RefSt w0 w x σ R' := h.re fun D hS => St.sub hS (hs.append_left D)
theorem RefSt.perm {w0 w : World} {x : Nat} {R R' : List Hp} {σ : PropS} (h : RefSt w0 w x σ R) (hs : R.Perm R') : RefSt w0 w x σ R' := h.re fun D hS => St.perm hS (hs.append_left D)
theorem RefSt.opn {w0 w : World} {x : Nat} {A R : List Hp} {σ : PropS} (h : RefSt w0 w x σ (A ++ R)) : ∃ D : List Hp, St w0 w (A ++ D) ∧ ∀ w' A', St w0 w' (A' ++ D) → RefSt w0 w' x σ (A' ++ R) := opn_of_use h.use

theorem rnew_c (w0 w : World) (H : List Hp) (hS : St w0 w H) (n b f : Int) : Calls Try.prog 15 #[.int .i64 n, .int .i64 b, .int .i64 f] w fun e w' => ∃ g, e = .returned (.pointer (some ⟨g, 0, none⟩)) ∧ RefSt w0 w' g ⟨n, b, f, 0, [], [], false, [], []⟩ H := by
  go_enter Try.func15, Try.ntmps15
  go_wp2_with (first | ((with_reducible show WGd ..); (with_reducible apply wpA_guard); exact rfl; skip) | ((with_reducible show WLd ..); (with_reducible apply wpA_load); exact rfl; (first | ((with_reducible apply St.cellI hS); (focus repeat constructor); exact rfl) | assumption); kernel_rfl) | ((with_reducible show WSt ..); (with_reducible apply wpA_store1I hS); exact rfl; (focus repeat constructor); exact rfl; exact rfl; exact rfl; exact rfl; kernel_rfl; intro wx hS; (try simp only [Act.put, List.setIfInBounds_toArray, List.set_cons_zero, List.set_cons_succ]); (try simp only [Act.eval, Array.getD_eq_getD_getElem?, List.getElem?_toArray, List.getElem?_cons_succ, List.getElem?_cons_zero, Option.getD_some, List.set_cons_succ, List.set_cons_zero, Value.cells, List.toList_toArray] at hS)) | ((with_reducible show WBx ..); (with_reducible apply wpA_box hS); exact rfl; exact rfl; intro _ wx hS; (try simp only [Act.put, List.setIfInBounds_toArray, List.set_cons_zero, List.set_cons_succ]); (try simp only [Act.eval, Array.getD_eq_getD_getElem?, List.getElem?_toArray, List.getElem?_cons_succ, List.getElem?_cons_zero, Option.getD_some, List.set_cons_succ, List.set_cons_zero, Value.cells, List.toList_toArray] at hS)))
  go_ret
  refine ⟨_, rfl, none, 0, none, 0, none, 0, none, 0, [], rfl, ?_⟩
  exact ((((hS.nilRow 72 9).nilRow 30 7).nilRow 30 7).nilRow 3 1).perm (List.perm_middle (l₁ := [_, _, _, _])).symm.symm

theorem has_c {w0 w : World} {H : List Hp} (hS : St w0 w H) (i : Nat) (ao : Option Addr) (cap : Nat) (zs : List Int) (k : Int) (hi : H[i]? = some (irow ao cap zs)) (hl : zs.length ≤ 1000000000000) :
    Calls Try.prog 30 #[.slice ao zs.length cap, .int .i64 k] w fun e w' => e = .returned (.bool (decide (k ∈ zs))) ∧ St w0 w' H := by
  have HI := Lib.hid hi
  clear hi
  go_enter Try.func30, Try.ntmps30
  go_wp2_with (first | ((with_reducible show WGd ..); (with_reducible apply wpA_guard); exact rfl; skip) | ((with_reducible show WLd ..); (with_reducible apply wpA_load); exact rfl; (first | ((with_reducible apply St.cellI hS); (focus repeat constructor); exact rfl) | assumption); kernel_rfl) | ((with_reducible show WSt ..); (with_reducible apply wpA_store1I hS); exact rfl; (focus repeat constructor); exact rfl; exact rfl; exact rfl; exact rfl; kernel_rfl; intro wx hS; (try simp only [Act.put, List.setIfInBounds_toArray, List.set_cons_zero, List.set_cons_succ]); (try simp only [Act.eval, Array.getD_eq_getD_getElem?, List.getElem?_toArray, List.getElem?_cons_succ, List.getElem?_cons_zero, Option.getD_some, List.set_cons_succ, List.set_cons_zero, Value.cells, List.toList_toArray] at hS)) | ((with_reducible show WBx ..); (with_reducible apply wpA_box hS); exact rfl; exact rfl; intro _ wx hS; (try simp only [Act.put, List.setIfInBounds_toArray, List.set_cons_zero, List.set_cons_succ]); (try simp only [Act.eval, Array.getD_eq_getD_getElem?, List.getElem?_toArray, List.getElem?_cons_succ, List.getElem?_cons_zero, Option.getD_some, List.set_cons_succ, List.set_cons_zero, Value.cells, List.toList_toArray] at hS)))
  go_loopw [5] (fun c wr => ∃ j : Nat, j ≤ zs.length ∧ c = .int .i64 j ∧ Hid (k ∉ zs.take j) ∧ St w0 wr H) (fun c _ => zs.length - (intOf c).toNat)
  case atStart => exact ⟨0, Nat.zero_le _, rfl, Lib.hid (by simp), hS⟩
  case round =>
    clear hS
    obtain ⟨j, hj, rfl, HN, hS⟩ := hrel
    by_cases hlt : j < zs.length
    · obtain ⟨z, hz⟩ : ∃ z, zs[j]? = some z := ⟨_, List.getElem?_eq_getElem hlt⟩
      rcases row_head (hS.at_ i HI.out) with ⟨_, hh, _⟩ | ⟨⟨g, rfl⟩, _⟩
      · omega
      have hc : wr.cell? ⟨g, j, none⟩ = some (.int .i64 z) := row_cell (hS.at_ i HI.out) j (v := .int .i64 z) (by rw [List.getElem?_map, hz]; rfl)
      have HZ := Lib.hid hz
      clear hz
      by_cases hk : z = k
      · have hb : (z == k) = true := by simpa using hk
        go_wp2_with (first | ((with_reducible show WGd ..); (with_reducible apply wpA_guard); exact rfl; skip) | ((with_reducible show WLd ..); (with_reducible apply wpA_load); exact rfl; (first | ((with_reducible apply St.cellI hS); (focus repeat constructor); exact rfl) | assumption); kernel_rfl) | ((with_reducible show WSt ..); (with_reducible apply wpA_store1I hS); exact rfl; (focus repeat constructor); exact rfl; exact rfl; exact rfl; exact rfl; kernel_rfl; intro wx hS; (try simp only [Act.put, List.setIfInBounds_toArray, List.set_cons_zero, List.set_cons_succ]); (try simp only [Act.eval, Array.getD_eq_getD_getElem?, List.getElem?_toArray, List.getElem?_cons_succ, List.getElem?_cons_zero, Option.getD_some, List.set_cons_succ, List.set_cons_zero, Value.cells, List.toList_toArray] at hS)) | ((with_reducible show WBx ..); (with_reducible apply wpA_box hS); exact rfl; exact rfl; intro _ wx hS; (try simp only [Act.put, List.setIfInBounds_toArray, List.set_cons_zero, List.set_cons_succ]); (try simp only [Act.eval, Array.getD_eq_getD_getElem?, List.getElem?_toArray, List.getElem?_cons_succ, List.getElem?_cons_zero, Option.getD_some, List.set_cons_succ, List.set_cons_zero, Value.cells, List.toList_toArray] at hS)))
        go_ret
        refine ⟨?_, hS⟩
        rw [decide_eq_true (by rw [← hk]; exact List.mem_of_getElem? HZ.out)]
        rfl
      · have hb : (z == k) = false := by simpa using hk
        go_wp2_with (first | ((with_reducible show WGd ..); (with_reducible apply wpA_guard); exact rfl; skip) | ((with_reducible show WLd ..); (with_reducible apply wpA_load); exact rfl; (first | ((with_reducible apply St.cellI hS); (focus repeat constructor); exact rfl) | assumption); kernel_rfl) | ((with_reducible show WSt ..); (with_reducible apply wpA_store1I hS); exact rfl; (focus repeat constructor); exact rfl; exact rfl; exact rfl; exact rfl; kernel_rfl; intro wx hS; (try simp only [Act.put, List.setIfInBounds_toArray, List.set_cons_zero, List.set_cons_succ]); (try simp only [Act.eval, Array.getD_eq_getD_getElem?, List.getElem?_toArray, List.getElem?_cons_succ, List.getElem?_cons_zero, Option.getD_some, List.set_cons_succ, List.set_cons_zero, Value.cells, List.toList_toArray] at hS)) | ((with_reducible show WBx ..); (with_reducible apply wpA_box hS); exact rfl; exact rfl; intro _ wx hS; (try simp only [Act.put, List.setIfInBounds_toArray, List.set_cons_zero, List.set_cons_succ]); (try simp only [Act.eval, Array.getD_eq_getD_getElem?, List.getElem?_toArray, List.getElem?_cons_succ, List.getElem?_cons_zero, Option.getD_some, List.set_cons_succ, List.set_cons_zero, Value.cells, List.toList_toArray] at hS)))
        go_roundw
        case rel => exact ⟨j + 1, by omega, by go_num, Lib.hid (by rw [List.take_add_one, HZ.out]; simp; exact ⟨HN.out, fun e => hk e.symm⟩), hS⟩
        case measure => simp [intOf]; omega
    · obtain rfl : j = zs.length := by omega
      go_wp2_with (first | ((with_reducible show WGd ..); (with_reducible apply wpA_guard); exact rfl; skip) | ((with_reducible show WLd ..); (with_reducible apply wpA_load); exact rfl; (first | ((with_reducible apply St.cellI hS); (focus repeat constructor); exact rfl) | assumption); kernel_rfl) | ((with_reducible show WSt ..); (with_reducible apply wpA_store1I hS); exact rfl; (focus repeat constructor); exact rfl; exact rfl; exact rfl; exact rfl; kernel_rfl; intro wx hS; (try simp only [Act.put, List.setIfInBounds_toArray, List.set_cons_zero, List.set_cons_succ]); (try simp only [Act.eval, Array.getD_eq_getD_getElem?, List.getElem?_toArray, List.getElem?_cons_succ, List.getElem?_cons_zero, Option.getD_some, List.set_cons_succ, List.set_cons_zero, Value.cells, List.toList_toArray] at hS)) | ((with_reducible show WBx ..); (with_reducible apply wpA_box hS); exact rfl; exact rfl; intro _ wx hS; (try simp only [Act.put, List.setIfInBounds_toArray, List.set_cons_zero, List.set_cons_succ]); (try simp only [Act.eval, Array.getD_eq_getD_getElem?, List.getElem?_toArray, List.getElem?_cons_succ, List.getElem?_cons_zero, Option.getD_some, List.set_cons_succ, List.set_cons_zero, Value.cells, List.toList_toArray] at hS)))
      go_ret
      refine ⟨?_, hS⟩
      have := HN.out
      rw [List.take_length] at this
      rw [decide_eq_false this]
      rfl
end Go.Proofs.Ytkhjkicnalnibaa
