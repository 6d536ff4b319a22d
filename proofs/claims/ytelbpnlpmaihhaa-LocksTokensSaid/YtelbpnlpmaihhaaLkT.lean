/-
  Locks' laws: the deeds that came in; fit.
-/
import Derived.Test.YtelbpnlpmaihhaaLkG2
import Derived.Test.YtelbpnlpmaihhaaLocksNone
import Derived.Test.YtelbpnlpmaihhaaSlIn
namespace Go.Proofs.Ytelbpnlpmaihhaa
set_option linter.unusedVariables false
set_option linter.unusedSimpArgs false
open Go.RowKit

def fitB (c : CmdS) : Bool := decide (1 ≤ c.session ∧ c.session ≤ 1073741824 ∧ 1 ≤ c.seq ∧ c.seq ≤ 1073741824 ∧ 1 ≤ c.name.size ∧ c.name.size ≤ 64)
set_option maxRecDepth 100000 in
set_option maxHeartbeats 4000000 in
theorem fit_c {w0 w : World} {H : List Hp} (hS : St w0 w H) (c : CmdS) (hn : c.name.size ≤ 1000000000000000) :
    Calls Try.prog 15 #[.agg #[.int .i64 c.kind, .int .i64 c.session, .int .i64 c.seq, .string c.name, .int .i64 c.n]] w fun e w' => e = .returned (.bool (fitB c)) ∧ St w0 w' H := by
  by_cases h0 : 1 ≤ c.session
  case neg =>
    have hd0 : decide (1 ≤ c.session) = false := by simp; omega
    have hb : fitB c = false := by unfold fitB; simp; omega
    rw [hb]
    clear hb
    go_enter Try.func15, Try.ntmps15
    go_wp2_with (first | ((with_reducible show WGd ..); (with_reducible apply wpA_guard); exact rfl; skip) | ((first | ((with_reducible show WBx ..); (with_reducible apply wpA_box hS); exact rfl; exact rfl; intro _ wx hS) | ((with_reducible show WBx ..); (with_reducible apply wpA_box hS); exact rfl; exact rfl; intro _ wx hS)); (try simp only [Act.put, List.setIfInBounds_toArray, List.set_cons_zero, List.set_cons_succ]); (try simp only [Act.eval, Array.getD_eq_getD_getElem?, List.getElem?_toArray, List.getElem?_cons_succ, List.getElem?_cons_zero, Option.getD_some, List.set_cons_succ, List.set_cons_zero, Value.cells, List.toList_toArray] at hS)) | ((with_reducible show WLd ..); (with_reducible apply wpA_load); exact rfl; (first | ((with_reducible apply St.cellI hS); (focus repeat constructor); exact rfl) | assumption); kernel_rfl) | ((with_reducible show WSt ..); (with_reducible apply wpA_store1I hS); exact rfl; (focus repeat constructor); exact rfl; exact rfl; exact rfl; exact rfl; kernel_rfl; intro wx hS; (try simp only [Act.put, List.setIfInBounds_toArray, List.set_cons_zero, List.set_cons_succ]); (try simp only [Act.eval, Array.getD_eq_getD_getElem?, List.getElem?_toArray, List.getElem?_cons_succ, List.getElem?_cons_zero, Option.getD_some, List.set_cons_succ, List.set_cons_zero, Value.cells, List.toList_toArray] at hS)))
    go_ret
    exact ⟨rfl, hS.tail⟩
  have hd0 : decide (1 ≤ c.session) = true := by simp; omega
  by_cases h1 : c.session ≤ 1073741824
  case neg =>
    have hd1 : decide (c.session ≤ 1073741824) = false := by simp; omega
    have hb : fitB c = false := by unfold fitB; simp; omega
    rw [hb]
    clear hb
    go_enter Try.func15, Try.ntmps15
    go_wp2_with (first | ((with_reducible show WGd ..); (with_reducible apply wpA_guard); exact rfl; skip) | ((first | ((with_reducible show WBx ..); (with_reducible apply wpA_box hS); exact rfl; exact rfl; intro _ wx hS) | ((with_reducible show WBx ..); (with_reducible apply wpA_box hS); exact rfl; exact rfl; intro _ wx hS)); (try simp only [Act.put, List.setIfInBounds_toArray, List.set_cons_zero, List.set_cons_succ]); (try simp only [Act.eval, Array.getD_eq_getD_getElem?, List.getElem?_toArray, List.getElem?_cons_succ, List.getElem?_cons_zero, Option.getD_some, List.set_cons_succ, List.set_cons_zero, Value.cells, List.toList_toArray] at hS)) | ((with_reducible show WLd ..); (with_reducible apply wpA_load); exact rfl; (first | ((with_reducible apply St.cellI hS); (focus repeat constructor); exact rfl) | assumption); kernel_rfl) | ((with_reducible show WSt ..); (with_reducible apply wpA_store1I hS); exact rfl; (focus repeat constructor); exact rfl; exact rfl; exact rfl; exact rfl; kernel_rfl; intro wx hS; (try simp only [Act.put, List.setIfInBounds_toArray, List.set_cons_zero, List.set_cons_succ]); (try simp only [Act.eval, Array.getD_eq_getD_getElem?, List.getElem?_toArray, List.getElem?_cons_succ, List.getElem?_cons_zero, Option.getD_some, List.set_cons_succ, List.set_cons_zero, Value.cells, List.toList_toArray] at hS)))
    go_ret
    exact ⟨rfl, hS.tail⟩
  have hd1 : decide (c.session ≤ 1073741824) = true := by simp; omega
  by_cases h2 : 1 ≤ c.seq
  case neg =>
    have hd2 : decide (1 ≤ c.seq) = false := by simp; omega
    have hb : fitB c = false := by unfold fitB; simp; omega
    rw [hb]
    clear hb
    go_enter Try.func15, Try.ntmps15
    go_wp2_with (first | ((with_reducible show WGd ..); (with_reducible apply wpA_guard); exact rfl; skip) | ((first | ((with_reducible show WBx ..); (with_reducible apply wpA_box hS); exact rfl; exact rfl; intro _ wx hS) | ((with_reducible show WBx ..); (with_reducible apply wpA_box hS); exact rfl; exact rfl; intro _ wx hS)); (try simp only [Act.put, List.setIfInBounds_toArray, List.set_cons_zero, List.set_cons_succ]); (try simp only [Act.eval, Array.getD_eq_getD_getElem?, List.getElem?_toArray, List.getElem?_cons_succ, List.getElem?_cons_zero, Option.getD_some, List.set_cons_succ, List.set_cons_zero, Value.cells, List.toList_toArray] at hS)) | ((with_reducible show WLd ..); (with_reducible apply wpA_load); exact rfl; (first | ((with_reducible apply St.cellI hS); (focus repeat constructor); exact rfl) | assumption); kernel_rfl) | ((with_reducible show WSt ..); (with_reducible apply wpA_store1I hS); exact rfl; (focus repeat constructor); exact rfl; exact rfl; exact rfl; exact rfl; kernel_rfl; intro wx hS; (try simp only [Act.put, List.setIfInBounds_toArray, List.set_cons_zero, List.set_cons_succ]); (try simp only [Act.eval, Array.getD_eq_getD_getElem?, List.getElem?_toArray, List.getElem?_cons_succ, List.getElem?_cons_zero, Option.getD_some, List.set_cons_succ, List.set_cons_zero, Value.cells, List.toList_toArray] at hS)))
    go_ret
    exact ⟨rfl, hS.tail⟩
  have hd2 : decide (1 ≤ c.seq) = true := by simp; omega
  by_cases h3 : c.seq ≤ 1073741824
  case neg =>
    have hd3 : decide (c.seq ≤ 1073741824) = false := by simp; omega
    have hb : fitB c = false := by unfold fitB; simp; omega
    rw [hb]
    clear hb
    go_enter Try.func15, Try.ntmps15
    go_wp2_with (first | ((with_reducible show WGd ..); (with_reducible apply wpA_guard); exact rfl; skip) | ((first | ((with_reducible show WBx ..); (with_reducible apply wpA_box hS); exact rfl; exact rfl; intro _ wx hS) | ((with_reducible show WBx ..); (with_reducible apply wpA_box hS); exact rfl; exact rfl; intro _ wx hS)); (try simp only [Act.put, List.setIfInBounds_toArray, List.set_cons_zero, List.set_cons_succ]); (try simp only [Act.eval, Array.getD_eq_getD_getElem?, List.getElem?_toArray, List.getElem?_cons_succ, List.getElem?_cons_zero, Option.getD_some, List.set_cons_succ, List.set_cons_zero, Value.cells, List.toList_toArray] at hS)) | ((with_reducible show WLd ..); (with_reducible apply wpA_load); exact rfl; (first | ((with_reducible apply St.cellI hS); (focus repeat constructor); exact rfl) | assumption); kernel_rfl) | ((with_reducible show WSt ..); (with_reducible apply wpA_store1I hS); exact rfl; (focus repeat constructor); exact rfl; exact rfl; exact rfl; exact rfl; kernel_rfl; intro wx hS; (try simp only [Act.put, List.setIfInBounds_toArray, List.set_cons_zero, List.set_cons_succ]); (try simp only [Act.eval, Array.getD_eq_getD_getElem?, List.getElem?_toArray, List.getElem?_cons_succ, List.getElem?_cons_zero, Option.getD_some, List.set_cons_succ, List.set_cons_zero, Value.cells, List.toList_toArray] at hS)))
    go_ret
    exact ⟨rfl, hS.tail⟩
  have hd3 : decide (c.seq ≤ 1073741824) = true := by simp; omega
  by_cases h4 : 1 ≤ c.name.size
  case neg =>
    have hd4 : decide ((1 : Int) ≤ (c.name.size : Int)) = false := by simp; omega
    have hb : fitB c = false := by unfold fitB; simp; omega
    rw [hb]
    clear hb
    go_enter Try.func15, Try.ntmps15
    go_wp2_with (first | ((with_reducible show WGd ..); (with_reducible apply wpA_guard); exact rfl; skip) | ((first | ((with_reducible show WBx ..); (with_reducible apply wpA_box hS); exact rfl; exact rfl; intro _ wx hS) | ((with_reducible show WBx ..); (with_reducible apply wpA_box hS); exact rfl; exact rfl; intro _ wx hS)); (try simp only [Act.put, List.setIfInBounds_toArray, List.set_cons_zero, List.set_cons_succ]); (try simp only [Act.eval, Array.getD_eq_getD_getElem?, List.getElem?_toArray, List.getElem?_cons_succ, List.getElem?_cons_zero, Option.getD_some, List.set_cons_succ, List.set_cons_zero, Value.cells, List.toList_toArray] at hS)) | ((with_reducible show WLd ..); (with_reducible apply wpA_load); exact rfl; (first | ((with_reducible apply St.cellI hS); (focus repeat constructor); exact rfl) | assumption); kernel_rfl) | ((with_reducible show WSt ..); (with_reducible apply wpA_store1I hS); exact rfl; (focus repeat constructor); exact rfl; exact rfl; exact rfl; exact rfl; kernel_rfl; intro wx hS; (try simp only [Act.put, List.setIfInBounds_toArray, List.set_cons_zero, List.set_cons_succ]); (try simp only [Act.eval, Array.getD_eq_getD_getElem?, List.getElem?_toArray, List.getElem?_cons_succ, List.getElem?_cons_zero, Option.getD_some, List.set_cons_succ, List.set_cons_zero, Value.cells, List.toList_toArray] at hS)))
    go_ret
    exact ⟨rfl, hS.tail⟩
  have hd4 : decide ((1 : Int) ≤ (c.name.size : Int)) = true := by simp; omega
  by_cases h5 : c.name.size ≤ 64
  case neg =>
    have hd5 : decide ((c.name.size : Int) ≤ 64) = false := by simp; omega
    have hb : fitB c = false := by unfold fitB; simp; omega
    rw [hb]
    clear hb
    go_enter Try.func15, Try.ntmps15
    go_wp2_with (first | ((with_reducible show WGd ..); (with_reducible apply wpA_guard); exact rfl; skip) | ((first | ((with_reducible show WBx ..); (with_reducible apply wpA_box hS); exact rfl; exact rfl; intro _ wx hS) | ((with_reducible show WBx ..); (with_reducible apply wpA_box hS); exact rfl; exact rfl; intro _ wx hS)); (try simp only [Act.put, List.setIfInBounds_toArray, List.set_cons_zero, List.set_cons_succ]); (try simp only [Act.eval, Array.getD_eq_getD_getElem?, List.getElem?_toArray, List.getElem?_cons_succ, List.getElem?_cons_zero, Option.getD_some, List.set_cons_succ, List.set_cons_zero, Value.cells, List.toList_toArray] at hS)) | ((with_reducible show WLd ..); (with_reducible apply wpA_load); exact rfl; (first | ((with_reducible apply St.cellI hS); (focus repeat constructor); exact rfl) | assumption); kernel_rfl) | ((with_reducible show WSt ..); (with_reducible apply wpA_store1I hS); exact rfl; (focus repeat constructor); exact rfl; exact rfl; exact rfl; exact rfl; kernel_rfl; intro wx hS; (try simp only [Act.put, List.setIfInBounds_toArray, List.set_cons_zero, List.set_cons_succ]); (try simp only [Act.eval, Array.getD_eq_getD_getElem?, List.getElem?_toArray, List.getElem?_cons_succ, List.getElem?_cons_zero, Option.getD_some, List.set_cons_succ, List.set_cons_zero, Value.cells, List.toList_toArray] at hS)))
    go_ret
    exact ⟨rfl, hS.tail⟩
  have hd5 : decide ((c.name.size : Int) ≤ 64) = true := by simp; omega
  have hb : fitB c = true := by unfold fitB; simp; omega
  rw [hb]
  clear hb
  go_enter Try.func15, Try.ntmps15
  go_wp2_with (first | ((with_reducible show WGd ..); (with_reducible apply wpA_guard); exact rfl; skip) | ((first | ((with_reducible show WBx ..); (with_reducible apply wpA_box hS); exact rfl; exact rfl; intro _ wx hS) | ((with_reducible show WBx ..); (with_reducible apply wpA_box hS); exact rfl; exact rfl; intro _ wx hS)); (try simp only [Act.put, List.setIfInBounds_toArray, List.set_cons_zero, List.set_cons_succ]); (try simp only [Act.eval, Array.getD_eq_getD_getElem?, List.getElem?_toArray, List.getElem?_cons_succ, List.getElem?_cons_zero, Option.getD_some, List.set_cons_succ, List.set_cons_zero, Value.cells, List.toList_toArray] at hS)) | ((with_reducible show WLd ..); (with_reducible apply wpA_load); exact rfl; (first | ((with_reducible apply St.cellI hS); (focus repeat constructor); exact rfl) | assumption); kernel_rfl) | ((with_reducible show WSt ..); (with_reducible apply wpA_store1I hS); exact rfl; (focus repeat constructor); exact rfl; exact rfl; exact rfl; exact rfl; kernel_rfl; intro wx hS; (try simp only [Act.put, List.setIfInBounds_toArray, List.set_cons_zero, List.set_cons_succ]); (try simp only [Act.eval, Array.getD_eq_getD_getElem?, List.getElem?_toArray, List.getElem?_cons_succ, List.getElem?_cons_zero, Option.getD_some, List.set_cons_succ, List.set_cons_zero, Value.cells, List.toList_toArray] at hS)))
  go_ret
  exact ⟨rfl, hS.tail⟩

structure DeedL where
  kind : Int
  c : CmdS
  token : Int
def DeedL.cells (d : DeedL) : List Value := [.int .i64 d.kind, .int .i64 d.c.kind, .int .i64 d.c.session, .int .i64 d.c.seq, .string d.c.name, .int .i64 d.c.n, .int .u64 d.token]
theorem DeedL.cells_length (d : DeedL) : d.cells.length = 7 := rfl
theorem deed_in {w : World} {cs : List Value} (h : Rd Try.prog w 43 cs) : ∃ d : DeedL, cs = d.cells ∧ d.c.name.size ≤ 1000000000000000 ∧ 0 ≤ d.token ∧ d.token ≤ tokLast := by
  obtain ⟨hl, hf⟩ := h.fields Try.underlying43
  have hc : Try.prog.cellsOf 43 = 7 := by kernel_rfl
  have hk3 : Try.prog.cellsOf 3 = 1 := by kernel_rfl
  have hkc : Try.prog.cellsOf 30 = 5 := by kernel_rfl
  have hku : Try.prog.cellsOf 36 = 1 := by kernel_rfl
  have hks : Try.prog.cellsOf 9 = 1 := by kernel_rfl
  rw [hc] at hl
  obtain ⟨c0, r0, rfl, l0⟩ := cons_of_len hl
  obtain ⟨c1, r1, rfl, l1⟩ := cons_of_len l0
  obtain ⟨c2, r2, rfl, l2⟩ := cons_of_len l1
  obtain ⟨c3, r3, rfl, l3⟩ := cons_of_len l2
  obtain ⟨c4, r4, rfl, l4⟩ := cons_of_len l3
  obtain ⟨c5, r5, rfl, l5⟩ := cons_of_len l4
  obtain ⟨c6, r6, rfl, l6⟩ := cons_of_len l5
  obtain rfl := List.length_eq_zero_iff.1 l6
  have f0 : Rd Try.prog w 3 [c0] := by simpa [hk3] using hf 0 _ rfl
  obtain ⟨k, e0, _⟩ := f0.int Try.underlying3
  simp only [List.cons.injEq, and_true] at e0
  subst e0
  have f1 : Rd Try.prog w 30 [c1, c2, c3, c4, c5] := by simpa [hkc] using hf 1 _ rfl
  obtain ⟨_, hg⟩ := f1.fields Try.underlying30
  have g3 : Rd Try.prog w 9 [c4] := by simpa [hks] using hg 3 _ rfl
  obtain ⟨nm, en, hn⟩ := g3.string Try.underlying9
  obtain ⟨c, ec⟩ := cmd_cs f1
  simp only [List.cons.injEq, and_true] at ec en
  obtain ⟨rfl, rfl, rfl, rfl, rfl⟩ := ec
  have f2 : Rd Try.prog w 36 [c6] := by simpa [hku] using hf 2 _ rfl
  obtain ⟨t, e2, ht⟩ := f2.int Try.underlying36
  simp only [List.cons.injEq, and_true] at e2
  subst e2
  injection en with en
  have e : reachBytes = 140737488351232 := rfl
  refine ⟨⟨k, c, t⟩, rfl, by show c.name.size ≤ _; rw [en]; omega, ?_⟩
  have := ht
  simp [Lit.wf, IntKind.min, IntKind.max, IntKind.bits, IntKind.signed] at this
  unfold tokLast
  exact this
end Go.Proofs.Ytelbpnlpmaihhaa
