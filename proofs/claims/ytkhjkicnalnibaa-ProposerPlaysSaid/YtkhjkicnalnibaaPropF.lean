/-
  ProposerPlays: the deeds that came in; few.
-/
import Derived.Test.YtkhjkicnalnibaaPropE
namespace Go.Proofs.Ytkhjkicnalnibaa
set_option linter.unusedVariables false
set_option linter.unusedSimpArgs false
open Go.RowKit

structure DeedS where
  kind : Int
  who : Int
  slot : Int
  l : EsIn
  c : CmdS
def DeedS.cells (d : DeedS) : List Value := [.int .i64 d.kind, .int .i64 d.who, .int .i64 d.slot, .slice d.l.ad d.l.es.length d.l.cap, .int .i64 d.c.kind, .int .i64 d.c.session, .int .i64 d.c.seq, .string d.c.name, .int .i64 d.c.n]
theorem DeedS.cells_length (d : DeedS) : d.cells.length = 9 := rfl

theorem deed_in {w : World} {cs : List Value} (h : Rd Try.prog w 45 cs) : ∃ d : DeedS, cs = d.cells ∧ d.l.at_ w := by
  obtain ⟨hl, hf⟩ := h.fields Try.underlying45
  have hc : Try.prog.cellsOf 45 = 9 := by kernel_rfl
  rw [hc] at hl
  obtain ⟨c0, r0, rfl, l0⟩ := cons_of_len hl
  obtain ⟨c1, r1, rfl, l1⟩ := cons_of_len l0
  obtain ⟨c2, r2, rfl, l2⟩ := cons_of_len l1
  obtain ⟨c3, r3, rfl, l3⟩ := cons_of_len l2
  obtain ⟨c4, r4, rfl, l4⟩ := cons_of_len l3
  obtain ⟨c5, r5, rfl, l5⟩ := cons_of_len l4
  obtain ⟨c6, r6, rfl, l6⟩ := cons_of_len l5
  obtain ⟨c7, r7, rfl, l7⟩ := cons_of_len l6
  obtain ⟨c8, r8, rfl, l8⟩ := cons_of_len l7
  obtain rfl := List.length_eq_zero_iff.1 l8
  have ki : Try.prog.cellsOf 3 = 1 := by kernel_rfl
  have kl : Try.prog.cellsOf 26 = 1 := by kernel_rfl
  have kc : Try.prog.cellsOf 28 = 5 := by kernel_rfl
  have f0 : Rd Try.prog w 3 [c0] := by simpa [ki] using hf 0 _ rfl
  have f1 : Rd Try.prog w 3 [c1] := by simpa [ki] using hf 1 _ rfl
  have f2 : Rd Try.prog w 3 [c2] := by simpa [ki] using hf 2 _ rfl
  have f3 : Rd Try.prog w 26 [c3] := by simpa [kl] using hf 3 _ rfl
  have f4 : Rd Try.prog w 28 [c4, c5, c6, c7, c8] := by simpa [kc] using hf 4 _ rfl
  obtain ⟨x0, e0, _⟩ := f0.int Try.underlying3
  obtain ⟨x1, e1, _⟩ := f1.int Try.underlying3
  obtain ⟨x2, e2, _⟩ := f2.int Try.underlying3
  obtain ⟨x3, e3, hx3⟩ := es_in f3
  obtain ⟨x4, e4, _⟩ := cmd_in f4
  simp only [EsIn.cells, CmdS.cells, List.cons.injEq, and_true] at e0 e1 e2 e3 e4
  obtain ⟨rfl, rfl, rfl, rfl, rfl⟩ := e4
  subst e0 e1 e2 e3
  exact ⟨⟨x0, x1, x2, x3, x4⟩, rfl, hx3⟩

/-- What few says yes to. -/
structure FewQ (n frm : Int) (l : List DeedS) : Prop where
  n0 : 0 ≤ n
  n1 : n ≤ 100
  f1 : 1 ≤ frm
  f2 : frm ≤ 1099511627776
  ds : ∀ d ∈ l, d.l.es.length ≤ 1000 ∧ ∀ e ∈ d.l.es, e.slot ≤ frm + 1000

def FewP (w0 : World) (H : List Hp) (n frm : Int) (l : List DeedS) (e : Ending) (w' : World) : Prop := ∃ b : Bool, e = .returned (.bool b) ∧ (b = true ↔ FewQ n frm l) ∧ St w0 w' H
theorem FewP.no {w0 w' : World} {H : List Hp} {n frm : Int} {l : List DeedS} (h2 : ¬ FewQ n frm l) (h3 : St w0 w' H) : FewP w0 H n frm l (.returned (.bool false)) w' := ⟨false, rfl, ⟨fun h => (by cases h), fun h => absurd h h2⟩, h3⟩
theorem FewP.yes {w0 w' : World} {H : List Hp} {n frm : Int} {l : List DeedS} (h2 : FewQ n frm l) (h3 : St w0 w' H) : FewP w0 H n frm l (.returned (.bool true)) w' := ⟨true, rfl, ⟨fun _ => h2, fun _ => rfl⟩, h3⟩

set_option maxRecDepth 100000 in
set_option maxHeartbeats 4000000 in
theorem few_c {w0 w : World} {H : List Hp} (hS : St w0 w H) (n frm : Int) (l : List DeedS) (ao : Option Addr) (cap : Nat) (hl : l.length ≤ 1000000000000000) (hr : ElsAt w0 ao 9 DeedS.cells l) (hat : ∀ d ∈ l, d.l.at_ w0) :
    Calls Try.prog 14 #[.int .i64 n, .int .i64 frm, .slice ao l.length cap] w fun e w' => FewP w0 H n frm l e w' := by
  have HR := Lib.hid hr
  have HAT := Lib.hid hat
  clear hr hat
  by_cases n0 : 0 ≤ n
  case neg =>
    have hd1 : decide (n < 0) = true := by simp; omega
    go_enter Try.func14, Try.ntmps14
    go_wp2_with (first | ((with_reducible show WGd ..); (with_reducible apply wpA_guard); exact rfl; skip) | ((with_reducible show WLd ..); (with_reducible apply wpA_load); exact rfl; (first | ((with_reducible apply St.cellI hS); (focus repeat constructor); exact rfl) | assumption); kernel_rfl) | ((with_reducible show WSt ..); (with_reducible apply wpA_store1I hS); exact rfl; (focus repeat constructor); exact rfl; exact rfl; exact rfl; exact rfl; kernel_rfl; intro wx hS; (try simp only [Act.put, List.setIfInBounds_toArray, List.set_cons_zero, List.set_cons_succ]); (try simp only [Act.eval, Array.getD_eq_getD_getElem?, List.getElem?_toArray, List.getElem?_cons_succ, List.getElem?_cons_zero, Option.getD_some, List.set_cons_succ, List.set_cons_zero, Value.cells, List.toList_toArray] at hS)) | ((with_reducible show WBx ..); (with_reducible apply wpA_box hS); exact rfl; exact rfl; intro _ wx hS; (try simp only [Act.put, List.setIfInBounds_toArray, List.set_cons_zero, List.set_cons_succ]); (try simp only [Act.eval, Array.getD_eq_getD_getElem?, List.getElem?_toArray, List.getElem?_cons_succ, List.getElem?_cons_zero, Option.getD_some, List.set_cons_succ, List.set_cons_zero, Value.cells, List.toList_toArray] at hS)))
    go_ret
    exact FewP.no (fun q => by have := q.n0; omega) hS
  have hd1 : decide (n < 0) = false := by simp; omega
  by_cases n1 : n ≤ 100
  case neg =>
    have hd2 : decide (100 < n) = true := by simp; omega
    go_enter Try.func14, Try.ntmps14
    go_wp2_with (first | ((with_reducible show WGd ..); (with_reducible apply wpA_guard); exact rfl; skip) | ((with_reducible show WLd ..); (with_reducible apply wpA_load); exact rfl; (first | ((with_reducible apply St.cellI hS); (focus repeat constructor); exact rfl) | assumption); kernel_rfl) | ((with_reducible show WSt ..); (with_reducible apply wpA_store1I hS); exact rfl; (focus repeat constructor); exact rfl; exact rfl; exact rfl; exact rfl; kernel_rfl; intro wx hS; (try simp only [Act.put, List.setIfInBounds_toArray, List.set_cons_zero, List.set_cons_succ]); (try simp only [Act.eval, Array.getD_eq_getD_getElem?, List.getElem?_toArray, List.getElem?_cons_succ, List.getElem?_cons_zero, Option.getD_some, List.set_cons_succ, List.set_cons_zero, Value.cells, List.toList_toArray] at hS)) | ((with_reducible show WBx ..); (with_reducible apply wpA_box hS); exact rfl; exact rfl; intro _ wx hS; (try simp only [Act.put, List.setIfInBounds_toArray, List.set_cons_zero, List.set_cons_succ]); (try simp only [Act.eval, Array.getD_eq_getD_getElem?, List.getElem?_toArray, List.getElem?_cons_succ, List.getElem?_cons_zero, Option.getD_some, List.set_cons_succ, List.set_cons_zero, Value.cells, List.toList_toArray] at hS)))
    go_ret
    exact FewP.no (fun q => by have := q.n1; omega) hS
  have hd2 : decide (100 < n) = false := by simp; omega
  by_cases f1 : 1 ≤ frm
  case neg =>
    have hd3 : decide (frm < 1) = true := by simp; omega
    go_enter Try.func14, Try.ntmps14
    go_wp2_with (first | ((with_reducible show WGd ..); (with_reducible apply wpA_guard); exact rfl; skip) | ((with_reducible show WLd ..); (with_reducible apply wpA_load); exact rfl; (first | ((with_reducible apply St.cellI hS); (focus repeat constructor); exact rfl) | assumption); kernel_rfl) | ((with_reducible show WSt ..); (with_reducible apply wpA_store1I hS); exact rfl; (focus repeat constructor); exact rfl; exact rfl; exact rfl; exact rfl; kernel_rfl; intro wx hS; (try simp only [Act.put, List.setIfInBounds_toArray, List.set_cons_zero, List.set_cons_succ]); (try simp only [Act.eval, Array.getD_eq_getD_getElem?, List.getElem?_toArray, List.getElem?_cons_succ, List.getElem?_cons_zero, Option.getD_some, List.set_cons_succ, List.set_cons_zero, Value.cells, List.toList_toArray] at hS)) | ((with_reducible show WBx ..); (with_reducible apply wpA_box hS); exact rfl; exact rfl; intro _ wx hS; (try simp only [Act.put, List.setIfInBounds_toArray, List.set_cons_zero, List.set_cons_succ]); (try simp only [Act.eval, Array.getD_eq_getD_getElem?, List.getElem?_toArray, List.getElem?_cons_succ, List.getElem?_cons_zero, Option.getD_some, List.set_cons_succ, List.set_cons_zero, Value.cells, List.toList_toArray] at hS)))
    go_ret
    exact FewP.no (fun q => by have := q.f1; omega) hS
  have hd3 : decide (frm < 1) = false := by simp; omega
  by_cases f2 : frm ≤ 1099511627776
  case neg =>
    have hd4 : decide (1099511627776 < frm) = true := by simp; omega
    go_enter Try.func14, Try.ntmps14
    go_wp2_with (first | ((with_reducible show WGd ..); (with_reducible apply wpA_guard); exact rfl; skip) | ((with_reducible show WLd ..); (with_reducible apply wpA_load); exact rfl; (first | ((with_reducible apply St.cellI hS); (focus repeat constructor); exact rfl) | assumption); kernel_rfl) | ((with_reducible show WSt ..); (with_reducible apply wpA_store1I hS); exact rfl; (focus repeat constructor); exact rfl; exact rfl; exact rfl; exact rfl; kernel_rfl; intro wx hS; (try simp only [Act.put, List.setIfInBounds_toArray, List.set_cons_zero, List.set_cons_succ]); (try simp only [Act.eval, Array.getD_eq_getD_getElem?, List.getElem?_toArray, List.getElem?_cons_succ, List.getElem?_cons_zero, Option.getD_some, List.set_cons_succ, List.set_cons_zero, Value.cells, List.toList_toArray] at hS)) | ((with_reducible show WBx ..); (with_reducible apply wpA_box hS); exact rfl; exact rfl; intro _ wx hS; (try simp only [Act.put, List.setIfInBounds_toArray, List.set_cons_zero, List.set_cons_succ]); (try simp only [Act.eval, Array.getD_eq_getD_getElem?, List.getElem?_toArray, List.getElem?_cons_succ, List.getElem?_cons_zero, Option.getD_some, List.set_cons_succ, List.set_cons_zero, Value.cells, List.toList_toArray] at hS)))
    go_ret
    exact FewP.no (fun q => by have := q.f2; omega) hS
  have hd4 : decide (1099511627776 < frm) = false := by simp; omega
  go_enter Try.func14, Try.ntmps14
  go_upto_block 0 with (first | ((with_reducible show WGd ..); (with_reducible apply wpA_guard); exact rfl; skip) | ((with_reducible show WLd ..); (with_reducible apply wpA_load); exact rfl; (first | ((with_reducible apply St.cellI hS); (focus repeat constructor); exact rfl) | assumption); kernel_rfl) | ((with_reducible show WSt ..); (with_reducible apply wpA_store1I hS); exact rfl; (focus repeat constructor); exact rfl; exact rfl; exact rfl; exact rfl; kernel_rfl; intro wx hS; (try simp only [Act.put, List.setIfInBounds_toArray, List.set_cons_zero, List.set_cons_succ]); (try simp only [Act.eval, Array.getD_eq_getD_getElem?, List.getElem?_toArray, List.getElem?_cons_succ, List.getElem?_cons_zero, Option.getD_some, List.set_cons_succ, List.set_cons_zero, Value.cells, List.toList_toArray] at hS)) | ((with_reducible show WBx ..); (with_reducible apply wpA_box hS); exact rfl; exact rfl; intro _ wx hS; (try simp only [Act.put, List.setIfInBounds_toArray, List.set_cons_zero, List.set_cons_succ]); (try simp only [Act.eval, Array.getD_eq_getD_getElem?, List.getElem?_toArray, List.getElem?_cons_succ, List.getElem?_cons_zero, Option.getD_some, List.set_cons_succ, List.set_cons_zero, Value.cells, List.toList_toArray] at hS)))
  go_cut [] (fun wr => Hid (∀ d ∈ l, d.l.es.length ≤ 1000 ∧ ∀ e ∈ d.l.es, e.slot ≤ frm + 1000) ∧ St w0 wr H)
  case first =>
    go_wp2_with (first | ((with_reducible show WGd ..); (with_reducible apply wpA_guard); exact rfl; skip) | ((with_reducible show WLd ..); (with_reducible apply wpA_load); exact rfl; (first | ((with_reducible apply St.cellI hS); (focus repeat constructor); exact rfl) | assumption); kernel_rfl) | ((with_reducible show WSt ..); (with_reducible apply wpA_store1I hS); exact rfl; (focus repeat constructor); exact rfl; exact rfl; exact rfl; exact rfl; kernel_rfl; intro wx hS; (try simp only [Act.put, List.setIfInBounds_toArray, List.set_cons_zero, List.set_cons_succ]); (try simp only [Act.eval, Array.getD_eq_getD_getElem?, List.getElem?_toArray, List.getElem?_cons_succ, List.getElem?_cons_zero, Option.getD_some, List.set_cons_succ, List.set_cons_zero, Value.cells, List.toList_toArray] at hS)) | ((with_reducible show WBx ..); (with_reducible apply wpA_box hS); exact rfl; exact rfl; intro _ wx hS; (try simp only [Act.put, List.setIfInBounds_toArray, List.set_cons_zero, List.set_cons_succ]); (try simp only [Act.eval, Array.getD_eq_getD_getElem?, List.getElem?_toArray, List.getElem?_cons_succ, List.getElem?_cons_zero, Option.getD_some, List.set_cons_succ, List.set_cons_zero, Value.cells, List.toList_toArray] at hS)))
    go_loopw [7] (fun c wr => ∃ i : Nat, i ≤ l.length ∧ c = .int .i64 i ∧ Hid (∀ d ∈ l.take i, d.l.es.length ≤ 1000 ∧ ∀ e ∈ d.l.es, e.slot ≤ frm + 1000) ∧ St w0 wr H) (fun c _ => l.length - (intOf c).toNat)
    case atStart => exact ⟨0, Nat.zero_le _, rfl, Lib.hid (by simp), hS⟩
    case round =>
      clear hS
      obtain ⟨i, hi, rfl, HI, hS⟩ := hrel
      by_cases c1 : i < l.length
      case neg =>
        obtain rfl : i = l.length := by omega
        go_wp2_with (first | ((with_reducible show WGd ..); (with_reducible apply wpA_guard); exact rfl; skip) | ((with_reducible show WLd ..); (with_reducible apply wpA_load); exact rfl; (first | ((with_reducible apply St.cellI hS); (focus repeat constructor); exact rfl) | assumption); kernel_rfl) | ((with_reducible show WSt ..); (with_reducible apply wpA_store1I hS); exact rfl; (focus repeat constructor); exact rfl; exact rfl; exact rfl; exact rfl; kernel_rfl; intro wx hS; (try simp only [Act.put, List.setIfInBounds_toArray, List.set_cons_zero, List.set_cons_succ]); (try simp only [Act.eval, Array.getD_eq_getD_getElem?, List.getElem?_toArray, List.getElem?_cons_succ, List.getElem?_cons_zero, Option.getD_some, List.set_cons_succ, List.set_cons_zero, Value.cells, List.toList_toArray] at hS)) | ((with_reducible show WBx ..); (with_reducible apply wpA_box hS); exact rfl; exact rfl; intro _ wx hS; (try simp only [Act.put, List.setIfInBounds_toArray, List.set_cons_zero, List.set_cons_succ]); (try simp only [Act.eval, Array.getD_eq_getD_getElem?, List.getElem?_toArray, List.getElem?_cons_succ, List.getElem?_cons_zero, Option.getD_some, List.set_cons_succ, List.set_cons_zero, Value.cells, List.toList_toArray] at hS)))
        go_meet
        exact ⟨Lib.hid (by have := HI.out; rwa [List.take_length] at this), hS⟩
      obtain ⟨x, hx⟩ : ∃ x, l[i]? = some x := ⟨_, List.getElem?_eq_getElem c1⟩
      obtain ⟨b0, off, rfl, hcl⟩ := HR.out i x hx
      have hxa := HAT.out x (List.mem_of_getElem? hx)
      have htk : l.take (i + 1) = l.take i ++ [x] := by rw [List.take_add_one, hx]; rfl
      have hcell : ∀ w H, St w0 w H → w.cell? ⟨b0, off + i * 9 + 3, none⟩ = some (.slice x.l.ad x.l.es.length x.l.cap) := fun w H h => h.oldCell (hcl 3 _ rfl)
      have HCELL := Lib.hid hcell
      have HXA := Lib.hid hxa
      have HTK := Lib.hid htk
      have HX := Lib.hid hx
      have hx2 := hxa.2
      obtain ⟨dk, dw, ds, ⟨ad, xc, es⟩, dc⟩ := x
      simp only at HCELL HXA hx2 HTK HX
      clear hcell hxa hcl hx htk
      by_cases c3 : es.length ≤ 1000
      case neg =>
        have hcd3 : decide ((1000 : Int) < (es.length : Int)) = true := by simp; omega
        go_wp2_with (first | ((with_reducible show WGd ..); (with_reducible apply wpA_guard); exact rfl; skip) | ((with_reducible show WLd ..); (with_reducible apply wpA_load); exact rfl; exact HCELL.out _ _ hS; kernel_rfl) | ((with_reducible show WLd ..); (with_reducible apply wpA_load); exact rfl; (first | ((with_reducible apply St.cellI hS); (focus repeat constructor); exact rfl) | assumption); kernel_rfl) | ((with_reducible show WSt ..); (with_reducible apply wpA_store1I hS); exact rfl; (focus repeat constructor); exact rfl; exact rfl; exact rfl; exact rfl; kernel_rfl; intro wx hS; (try simp only [Act.put, List.setIfInBounds_toArray, List.set_cons_zero, List.set_cons_succ]); (try simp only [Act.eval, Array.getD_eq_getD_getElem?, List.getElem?_toArray, List.getElem?_cons_succ, List.getElem?_cons_zero, Option.getD_some, List.set_cons_succ, List.set_cons_zero, Value.cells, List.toList_toArray] at hS)) | ((with_reducible show WBx ..); (with_reducible apply wpA_box hS); exact rfl; exact rfl; intro _ wx hS; (try simp only [Act.put, List.setIfInBounds_toArray, List.set_cons_zero, List.set_cons_succ]); (try simp only [Act.eval, Array.getD_eq_getD_getElem?, List.getElem?_toArray, List.getElem?_cons_succ, List.getElem?_cons_zero, Option.getD_some, List.set_cons_succ, List.set_cons_zero, Value.cells, List.toList_toArray] at hS)))
        go_ret
        exact FewP.no (fun q => by have := (q.ds _ (List.mem_of_getElem? HX.out)).1; simp only at this; omega) hS
      have hcd3 : decide ((1000 : Int) < (es.length : Int)) = false := by simp; omega
      go_wp2_with (first | ((with_reducible show WGd ..); (with_reducible apply wpA_guard); exact rfl; skip) | ((with_reducible show WLd ..); (with_reducible apply wpA_load); exact rfl; exact HCELL.out _ _ hS; kernel_rfl) | ((with_reducible show WLd ..); (with_reducible apply wpA_load); exact rfl; (first | ((with_reducible apply St.cellI hS); (focus repeat constructor); exact rfl) | assumption); kernel_rfl) | ((with_reducible show WSt ..); (with_reducible apply wpA_store1I hS); exact rfl; (focus repeat constructor); exact rfl; exact rfl; exact rfl; exact rfl; kernel_rfl; intro wx hS; (try simp only [Act.put, List.setIfInBounds_toArray, List.set_cons_zero, List.set_cons_succ]); (try simp only [Act.eval, Array.getD_eq_getD_getElem?, List.getElem?_toArray, List.getElem?_cons_succ, List.getElem?_cons_zero, Option.getD_some, List.set_cons_succ, List.set_cons_zero, Value.cells, List.toList_toArray] at hS)) | ((with_reducible show WBx ..); (with_reducible apply wpA_box hS); exact rfl; exact rfl; intro _ wx hS; (try simp only [Act.put, List.setIfInBounds_toArray, List.set_cons_zero, List.set_cons_succ]); (try simp only [Act.eval, Array.getD_eq_getD_getElem?, List.getElem?_toArray, List.getElem?_cons_succ, List.getElem?_cons_zero, Option.getD_some, List.set_cons_succ, List.set_cons_zero, Value.cells, List.toList_toArray] at hS)))
      go_loopw [8] (fun c wr => ∃ j : Nat, j ≤ es.length ∧ c = .int .i64 j ∧ Hid (∀ e ∈ es.take j, e.slot ≤ frm + 1000) ∧ St w0 wr H) (fun c _ => es.length - (intOf c).toNat)
      case atStart => exact ⟨0, Nat.zero_le _, rfl, Lib.hid (by simp), hS⟩
      case round =>
        clear hS
        obtain ⟨j, hj, rfl, HJ, hS⟩ := hrel
        by_cases c4 : j < es.length
        · obtain ⟨e, he⟩ : ∃ e, es[j]? = some e := ⟨_, List.getElem?_eq_getElem c4⟩
          obtain ⟨ge, oe, hge, hel⟩ := ElsAt.old HXA.out.1 hS j e he
          simp only at hge
          subst hge
          have HEL := Lib.hid (show wr.cell? ⟨ge, oe + j * 7, none⟩ = some (.int .i64 e.slot) from hel 0 _ rfl)
          have HE := Lib.hid he
          clear hel he
          by_cases c5 : e.slot ≤ frm + 1000
          · have hcd5 : decide (frm + 1000 < e.slot) = false := by simp; omega
            go_wp2_with (first | ((with_reducible show WGd ..); (with_reducible apply wpA_guard); exact rfl; skip) | ((with_reducible show WLd ..); (with_reducible apply wpA_load); exact rfl; exact HCELL.out _ _ hS; kernel_rfl) | ((with_reducible show WLd ..); (with_reducible apply wpA_load); exact rfl; exact HEL.out; kernel_rfl) | ((with_reducible show WLd ..); (with_reducible apply wpA_load); exact rfl; (first | ((with_reducible apply St.cellI hS); (focus repeat constructor); exact rfl) | assumption); kernel_rfl) | ((with_reducible show WSt ..); (with_reducible apply wpA_store1I hS); exact rfl; (focus repeat constructor); exact rfl; exact rfl; exact rfl; exact rfl; kernel_rfl; intro wx hS; (try simp only [Act.put, List.setIfInBounds_toArray, List.set_cons_zero, List.set_cons_succ]); (try simp only [Act.eval, Array.getD_eq_getD_getElem?, List.getElem?_toArray, List.getElem?_cons_succ, List.getElem?_cons_zero, Option.getD_some, List.set_cons_succ, List.set_cons_zero, Value.cells, List.toList_toArray] at hS)) | ((with_reducible show WBx ..); (with_reducible apply wpA_box hS); exact rfl; exact rfl; intro _ wx hS; (try simp only [Act.put, List.setIfInBounds_toArray, List.set_cons_zero, List.set_cons_succ]); (try simp only [Act.eval, Array.getD_eq_getD_getElem?, List.getElem?_toArray, List.getElem?_cons_succ, List.getElem?_cons_zero, Option.getD_some, List.set_cons_succ, List.set_cons_zero, Value.cells, List.toList_toArray] at hS)))
            go_roundw
            case rel => exact ⟨j + 1, by omega, by go_num, Lib.hid (by
              intro y hy
              rw [List.take_add_one, HE.out] at hy
              rcases List.mem_append.1 hy with h | h
              · exact HJ.out y h
              · simp at h; subst h; exact c5), hS⟩
            case measure => simp [intOf]; omega
          · have hcd5 : decide (frm + 1000 < e.slot) = true := by simp; omega
            go_wp2_with (first | ((with_reducible show WGd ..); (with_reducible apply wpA_guard); exact rfl; skip) | ((with_reducible show WLd ..); (with_reducible apply wpA_load); exact rfl; exact HCELL.out _ _ hS; kernel_rfl) | ((with_reducible show WLd ..); (with_reducible apply wpA_load); exact rfl; exact HEL.out; kernel_rfl) | ((with_reducible show WLd ..); (with_reducible apply wpA_load); exact rfl; (first | ((with_reducible apply St.cellI hS); (focus repeat constructor); exact rfl) | assumption); kernel_rfl) | ((with_reducible show WSt ..); (with_reducible apply wpA_store1I hS); exact rfl; (focus repeat constructor); exact rfl; exact rfl; exact rfl; exact rfl; kernel_rfl; intro wx hS; (try simp only [Act.put, List.setIfInBounds_toArray, List.set_cons_zero, List.set_cons_succ]); (try simp only [Act.eval, Array.getD_eq_getD_getElem?, List.getElem?_toArray, List.getElem?_cons_succ, List.getElem?_cons_zero, Option.getD_some, List.set_cons_succ, List.set_cons_zero, Value.cells, List.toList_toArray] at hS)) | ((with_reducible show WBx ..); (with_reducible apply wpA_box hS); exact rfl; exact rfl; intro _ wx hS; (try simp only [Act.put, List.setIfInBounds_toArray, List.set_cons_zero, List.set_cons_succ]); (try simp only [Act.eval, Array.getD_eq_getD_getElem?, List.getElem?_toArray, List.getElem?_cons_succ, List.getElem?_cons_zero, Option.getD_some, List.set_cons_succ, List.set_cons_zero, Value.cells, List.toList_toArray] at hS)))
            go_ret
            exact FewP.no (fun q => by have := (q.ds _ (List.mem_of_getElem? HX.out)).2 e (List.mem_of_getElem? HE.out); omega) hS
        · obtain rfl : j = es.length := by omega
          go_wp2_with (first | ((with_reducible show WGd ..); (with_reducible apply wpA_guard); exact rfl; skip) | ((with_reducible show WLd ..); (with_reducible apply wpA_load); exact rfl; exact HCELL.out _ _ hS; kernel_rfl) | ((with_reducible show WLd ..); (with_reducible apply wpA_load); exact rfl; (first | ((with_reducible apply St.cellI hS); (focus repeat constructor); exact rfl) | assumption); kernel_rfl) | ((with_reducible show WSt ..); (with_reducible apply wpA_store1I hS); exact rfl; (focus repeat constructor); exact rfl; exact rfl; exact rfl; exact rfl; kernel_rfl; intro wx hS; (try simp only [Act.put, List.setIfInBounds_toArray, List.set_cons_zero, List.set_cons_succ]); (try simp only [Act.eval, Array.getD_eq_getD_getElem?, List.getElem?_toArray, List.getElem?_cons_succ, List.getElem?_cons_zero, Option.getD_some, List.set_cons_succ, List.set_cons_zero, Value.cells, List.toList_toArray] at hS)) | ((with_reducible show WBx ..); (with_reducible apply wpA_box hS); exact rfl; exact rfl; intro _ wx hS; (try simp only [Act.put, List.setIfInBounds_toArray, List.set_cons_zero, List.set_cons_succ]); (try simp only [Act.eval, Array.getD_eq_getD_getElem?, List.getElem?_toArray, List.getElem?_cons_succ, List.getElem?_cons_zero, Option.getD_some, List.set_cons_succ, List.set_cons_zero, Value.cells, List.toList_toArray] at hS)))
          go_roundw
          case rel => exact ⟨i + 1, by omega, by go_num, Lib.hid (by
            intro y hy
            rw [HTK.out] at hy
            rcases List.mem_append.1 hy with h | h
            · exact HI.out y h
            · simp at h; subst h; exact ⟨c3, by have := HJ.out; rwa [List.take_length] at this⟩), hS⟩
          case measure => simp [intOf]; omega
  case rest =>
    clear hS
    obtain ⟨HD, hS⟩ := hcut
    go_wp2_with (first | ((with_reducible show WGd ..); (with_reducible apply wpA_guard); exact rfl; skip) | ((with_reducible show WLd ..); (with_reducible apply wpA_load); exact rfl; (first | ((with_reducible apply St.cellI hS); (focus repeat constructor); exact rfl) | assumption); kernel_rfl) | ((with_reducible show WSt ..); (with_reducible apply wpA_store1I hS); exact rfl; (focus repeat constructor); exact rfl; exact rfl; exact rfl; exact rfl; kernel_rfl; intro wx hS; (try simp only [Act.put, List.setIfInBounds_toArray, List.set_cons_zero, List.set_cons_succ]); (try simp only [Act.eval, Array.getD_eq_getD_getElem?, List.getElem?_toArray, List.getElem?_cons_succ, List.getElem?_cons_zero, Option.getD_some, List.set_cons_succ, List.set_cons_zero, Value.cells, List.toList_toArray] at hS)) | ((with_reducible show WBx ..); (with_reducible apply wpA_box hS); exact rfl; exact rfl; intro _ wx hS; (try simp only [Act.put, List.setIfInBounds_toArray, List.set_cons_zero, List.set_cons_succ]); (try simp only [Act.eval, Array.getD_eq_getD_getElem?, List.getElem?_toArray, List.getElem?_cons_succ, List.getElem?_cons_zero, Option.getD_some, List.set_cons_succ, List.set_cons_zero, Value.cells, List.toList_toArray] at hS)))
    go_ret
    exact FewP.yes ⟨n0, n1, f1, f2, HD.out⟩ hS
theorem few_yes {w0 w : World} {H : List Hp} (hS : St w0 w H) (n frm : Int) (l : List DeedS) (ao : Option Addr) (cap : Nat) (hl : l.length ≤ 1000000000000000) (hr : ElsAt w0 ao 9 DeedS.cells l) (hat : ∀ d ∈ l, d.l.at_ w0) (hq : FewQ n frm l) :
    Calls Try.prog 14 #[.int .i64 n, .int .i64 frm, .slice ao l.length cap] w fun e w' => e = .returned (.bool true) ∧ St w0 w' H := by
  refine (few_c hS n frm l ao cap hl hr hat).mono ?_
  rintro _ _ ⟨b, rfl, h1, h2⟩
  rw [h1.2 hq]
  exact ⟨rfl, h2⟩
theorem few_no {w0 w : World} {H : List Hp} (hS : St w0 w H) (n frm : Int) (l : List DeedS) (ao : Option Addr) (cap : Nat) (hl : l.length ≤ 1000000000000000) (hr : ElsAt w0 ao 9 DeedS.cells l) (hat : ∀ d ∈ l, d.l.at_ w0) (hq : ¬ FewQ n frm l) :
    Calls Try.prog 14 #[.int .i64 n, .int .i64 frm, .slice ao l.length cap] w fun e w' => e = .returned (.bool false) ∧ St w0 w' H := by
  refine (few_c hS n frm l ao cap hl hr hat).mono ?_
  rintro _ _ ⟨b, rfl, h1, h2⟩
  cases b with
  | false => exact ⟨rfl, h2⟩
  | true => exact absurd (h1.1 rfl) hq
end Go.Proofs.Ytkhjkicnalnibaa
