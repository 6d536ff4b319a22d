/-
  ProposerAdopts, walked: the promises.
-/
import Derived.Test.YtkhjkicnalnibaaPropAd
namespace Go.Proofs.Ytkhjkicnalnibaa
set_option linter.unusedVariables false
set_option linter.unusedSimpArgs false
open Go.RowKit

theorem Src.els {P : Program} {w : World} {α : Type} {f : α → List Value} {k : Nat} (hf : ∀ x, (f x).length = k) (h1 : ∀ x, ∀ u ∈ f x, u.oneCell' = true) {ao : Option Addr} {cap : Nat} {zs : List α} (h : ElsAt w ao k f zs) : Src P w k (.slice ao zs.length cap) zs.length (zs.flatMap f) := by
  cases ao with
  | none =>
    have e : zs = [] := by
      cases zs with
      | nil => rfl
      | cons x r => obtain ⟨b, off, h2, _⟩ := h 0 x rfl; cases h2
    subst e
    exact Src.nil k cap
  | some ad =>
    refine Src.slice (flat_len hf zs) (fun j u hj => ?_) (fun u hu => by obtain ⟨x, _, hx⟩ := List.mem_flatMap.1 hu; exact h1 x u hx)
    have hj2 : j < zs.length * k := by have := (List.getElem?_eq_some_iff.1 hj).1; rwa [flat_len hf] at this
    have hk : 0 < k := Nat.pos_of_ne_zero fun e => by subst e; simp at hj2
    have hq : j / k < zs.length := (Nat.div_lt_iff_lt_mul hk).2 hj2
    obtain ⟨x, hx⟩ : ∃ x, zs[j / k]? = some x := ⟨_, List.getElem?_eq_getElem hq⟩
    obtain ⟨b, off, h2, h3⟩ := h _ x hx
    have e : j = j / k * k + j % k := by rw [Nat.mul_comm]; exact (Nat.div_add_mod j k).symm
    obtain ⟨u', hu'⟩ : ∃ u', (f x)[j % k]? = some u' := ⟨_, List.getElem?_eq_getElem (by rw [hf]; exact Nat.mod_lt _ hk)⟩
    have h4 := flat_get hf hx (j % k) u' hu'
    rw [← e, hj] at h4
    cases h4
    cases h2
    have h5 := h3 (j % k) u hu'
    rw [Addr.add_lit]
    rw [show off + j = off + j / k * k + j % k by omega]
    exact h5

theorem ent_one (x : EntS) : ∀ u ∈ x.cells, u.oneCell' = true := by
  intro u hx
  simp [EntS.cells] at hx
  rcases hx with rfl | rfl | rfl | rfl | rfl | rfl | rfl <;> rfl

abbrev σF (n frm : Int) (i : Nat) (all : List EntS) : PropS := { aI n frm i all with ready := true, vals := valsD frm 17 (all.foldl (keepD frm) []), opn := (valsD frm 17 (all.foldl (keepD frm) [])).map newS, next := lastD frm (all.foldl (keepD frm) []) + 2 }
def aS (n frm : Int) (i : Nat) (all : List EntS) (rdy : Bool) : PropS := if rdy then σF n frm i all else aI n frm i all

/-- What holds between two promises. -/
structure AdI (n frm : Int) (i : Nat) (all : List EntS) (rdy : Bool) : Prop where
  sl : ∀ e ∈ all, e.slot ≤ frm + 1000
  ln : all.length ≤ 1000 * i
  lt : rdy = false → i < mj n
  eq : rdy = true → i = mj n

theorem PropSt.addRow {w0 w : World} {R : List Hp} {p : Nat} {σ : PropS} (h : PropSt w0 w p σ R) : PropSt w0 w p σ (vrow none 0 [] :: R) := by
  obtain ⟨D, hS, hb⟩ := h.use
  exact hb _ _ ((hS.nilRow 30 7).perm List.perm_middle.symm)

theorem vrow_app (a : Option Addr) (c : Nat) (l m : List EntS) : vrow a c (l ++ m) = .row 30 7 a (l.length + m.length) c (l.flatMap EntS.cells ++ m.flatMap EntS.cells) := by simp [vrow]

theorem row_elem2 {w : World} {g cap k : Nat} {L : List EntS} {e : EntS} (h : Hp.on w (vrow (some ⟨g, 0, none⟩) cap L)) (hk : L[k]? = some e) : w.rangeAt g (k * 7 + 2) [.int .i64 e.cmd.kind, .int .i64 e.cmd.session, .int .i64 e.cmd.seq, .string e.cmd.name, .int .i64 e.cmd.n] := by
  intro i v hv
  have := row_elem EntS.cells_length h hk (2 + i) v (by rw [Nat.add_comm 2 i]; exact hv)
  rwa [← Nat.add_assoc] at this

theorem kPa {w0 w : World} {R : List Hp} {p : Nat} {n frm : Int} {i : Nat} {all es : List EntS} (h : PropSt w0 w p (aS n frm i all false) R) (hI : AdI n frm i all false) (h1 : 1 ≤ n) (h2 : n ≤ 5) (f1 : 1 ≤ frm) (f2 : frm ≤ 1099511627776) (hi : (i : Int) < n) (ad : Option Addr) (cap : Nat) (hl : ∀ w, St w0 w R → Ents w ad es) (hes : es.length ≤ 1000) (hs : ∀ e ∈ es, e.slot ≤ frm + 1000) :
    Calls Try.prog 9 #[.pointer (some ⟨p, 0, none⟩), .int .i64 i, .slice ad es.length cap] w fun e w' => e = .returned (.bool (decide (i + 1 = mj n))) ∧ PropSt w0 w' p (aS n frm (i + 1) (all ++ es) (decide (i + 1 = mj n))) R := by
  have ha := a_step h1 hi (hI.lt rfl) all es (frm := frm)
  have h' : PropSt w0 w p (aI n frm i all) R := h
  have hc := promise_c h' (a_ok f1 f2 i all hI.sl hI.ln) (by omega) i ad cap es hl (show n ≤ 1000000000000 by omega) hes hs
  rw [ha] at hc
  by_cases he : i + 1 = mj n
  · rw [if_pos he] at hc
    simp only [he, decide_true]
    simp only [he] at hc
    exact hc
  · rw [if_neg he] at hc
    simp only [he, decide_false]
    exact hc
theorem kPb {w0 w : World} {R : List Hp} {p : Nat} {n frm : Int} {i : Nat} {all es : List EntS} {b : Bool} (h : PropSt w0 w p (aS n frm i all false) R) (hI : AdI n frm i all false) (h1 : 1 ≤ n) (h2 : n ≤ 5) (f1 : 1 ≤ frm) (f2 : frm ≤ 1099511627776) (hi : (i : Int) < n) (ad : Option Addr) (cap : Nat) (hl : ∀ w, St w0 w R → Ents w ad es) (hes : es.length ≤ 1000) (hs : ∀ e ∈ es, e.slot ≤ frm + 1000) (hb : decide (i + 1 = mj n) = b) :
    Calls Try.prog 9 #[.pointer (some ⟨p, 0, none⟩), .int .i64 i, .slice ad es.length cap] w fun e w' => e = .returned (.bool b) ∧ PropSt w0 w' p (aS n frm (i + 1) (all ++ es) b) R := by
  subst hb
  exact kPa h hI h1 h2 f1 f2 hi ad cap hl hes hs
theorem AdI.step {n frm : Int} {i : Nat} {all es : List EntS} (hI : AdI n frm i all false) (hes : es.length ≤ 1000) (hs : ∀ e ∈ es, e.slot ≤ frm + 1000) : AdI n frm (i + 1) (all ++ es) (decide (i + 1 = mj n)) := by
  refine ⟨?_, ?_, fun h => ?_, fun h => by simpa using h⟩
  · intro e he
    rcases List.mem_append.1 he with h | h
    · exact hI.sl e h
    · exact hs e h
  · have := hI.ln
    simp; omega
  · have := hI.lt rfl
    simp at h
    omega

section
variable {w0 w : World} {R : List Hp} {p : Nat} {n frm : Int} {i : Nat} {all : List EntS}
theorem kV0 (h : PropSt w0 w p (aS n frm i all false) R) : Calls Try.prog 11 #[.pointer (some ⟨p, 0, none⟩)] w fun e w' => ∃ ao cap, e = .returned (.slice ao 0 cap) ∧ PropSt w0 w' p (aS n frm i all false) (vrow ao cap [] :: R) :=
  values_c h (by show ([] : List EntS).length ≤ 100000000; simp)
theorem kV1 (h : PropSt w0 w p (aS n frm i all true) R) (hI : AdI n frm i all true) : Calls Try.prog 11 #[.pointer (some ⟨p, 0, none⟩)] w fun e w' => ∃ ao cap, e = .returned (.slice ao (valsD frm 17 (all.foldl (keepD frm) [])).length cap) ∧ PropSt w0 w' p (aS n frm i all true) (vrow ao cap (valsD frm 17 (all.foldl (keepD frm) [])) :: R) :=
  values_c h (by
    show (valsD frm 17 (all.foldl (keepD frm) [])).length ≤ 100000000
    rw [valsD_length]
    have h1 : lastD frm (all.foldl (keepD frm) []) ≤ frm + 1000 := lastD_le (by omega) fun e he => by
      rcases keeps_mem all he with h | ⟨h, _⟩
      · simp at h
      · exact hI.sl e h
    omega)
end

set_option maxRecDepth 100000 in
set_option maxHeartbeats 8000000 in
theorem adopts_v (w0 : World) (n0 frm : Int) (l : List EsIn) (ao : Option Addr) (cap : Nat) (hl : l.length ≤ 1000000000000000) (hr : ElsAt w0 ao 1 EsIn.cells l) (hat : ∀ x ∈ l, x.at_ w0) (hfw : -9223372036854775808 ≤ frm ∧ frm ≤ 9223372036854775807) :
    Calls Try.prog 3 #[.int .i64 n0, .slice ao l.length cap, .int .i64 frm] w0 fun e w' => e = .returned (.bool true) ∧ St w0 w' [] := by
  have hS := St.init w0
  have HR := Lib.hid hr
  have HAT := Lib.hid hat
  clear hr hat
  obtain ⟨n, hn⟩ : ∃ n, max 1 (min n0 5) = n := ⟨_, rfl⟩
  have h1 : 1 ≤ n := by omega
  have h2 : n ≤ 5 := by omega
  have HN := Lib.hid hn
  by_cases f1 : 1 ≤ frm
  case neg =>
    have hd1 : decide (frm < 1) = true := by simp; omega
    go_enter Try.func3, Try.ntmps3
    go_wp2_with (first | ((with_reducible show WGd ..); (with_reducible apply wpA_guard); exact rfl; skip) | (go_at_call 7; with_reducible refine (awake_c w0 _ _ hS).mono ?_; rintro _ _ ⟨rfl, hS⟩) | ((with_reducible show WLd ..); (with_reducible apply wpA_load); exact rfl; (first | ((with_reducible apply St.cellI hS); (focus repeat constructor); exact rfl) | assumption); kernel_rfl) | ((with_reducible show WSt ..); (with_reducible apply wpA_store1I hS); exact rfl; (focus repeat constructor); exact rfl; exact rfl; exact rfl; exact rfl; kernel_rfl; intro wx hS; (try simp only [Act.put, List.setIfInBounds_toArray, List.set_cons_zero, List.set_cons_succ]); (try simp only [Act.eval, Array.getD_eq_getD_getElem?, List.getElem?_toArray, List.getElem?_cons_succ, List.getElem?_cons_zero, Option.getD_some, List.set_cons_succ, List.set_cons_zero, Value.cells, List.toList_toArray] at hS)) | ((with_reducible show WBx ..); (with_reducible apply wpA_box hS); exact rfl; exact rfl; intro _ wx hS; (try simp only [Act.put, List.setIfInBounds_toArray, List.set_cons_zero, List.set_cons_succ]); (try simp only [Act.eval, Array.getD_eq_getD_getElem?, List.getElem?_toArray, List.getElem?_cons_succ, List.getElem?_cons_zero, Option.getD_some, List.set_cons_succ, List.set_cons_zero, Value.cells, List.toList_toArray] at hS)))
    go_ret
    exact ⟨rfl, hS⟩
  have hd1 : decide (frm < 1) = false := by simp; omega
  by_cases f2 : frm ≤ 1099511627776
  case neg =>
    have hd2 : decide (1099511627776 < frm) = true := by simp; omega
    go_enter Try.func3, Try.ntmps3
    go_wp2_with (first | ((with_reducible show WGd ..); (with_reducible apply wpA_guard); exact rfl; skip) | (go_at_call 7; with_reducible refine (awake_c w0 _ _ hS).mono ?_; rintro _ _ ⟨rfl, hS⟩) | ((with_reducible show WLd ..); (with_reducible apply wpA_load); exact rfl; (first | ((with_reducible apply St.cellI hS); (focus repeat constructor); exact rfl) | assumption); kernel_rfl) | ((with_reducible show WSt ..); (with_reducible apply wpA_store1I hS); exact rfl; (focus repeat constructor); exact rfl; exact rfl; exact rfl; exact rfl; kernel_rfl; intro wx hS; (try simp only [Act.put, List.setIfInBounds_toArray, List.set_cons_zero, List.set_cons_succ]); (try simp only [Act.eval, Array.getD_eq_getD_getElem?, List.getElem?_toArray, List.getElem?_cons_succ, List.getElem?_cons_zero, Option.getD_some, List.set_cons_succ, List.set_cons_zero, Value.cells, List.toList_toArray] at hS)) | ((with_reducible show WBx ..); (with_reducible apply wpA_box hS); exact rfl; exact rfl; intro _ wx hS; (try simp only [Act.put, List.setIfInBounds_toArray, List.set_cons_zero, List.set_cons_succ]); (try simp only [Act.eval, Array.getD_eq_getD_getElem?, List.getElem?_toArray, List.getElem?_cons_succ, List.getElem?_cons_zero, Option.getD_some, List.set_cons_succ, List.set_cons_zero, Value.cells, List.toList_toArray] at hS)))
    go_ret
    exact ⟨rfl, hS⟩
  have hd2 : decide (1099511627776 < frm) = false := by simp; omega
  have hmj : mj n ≤ 3 := by unfold mj; omega
  have hmj0 : 0 < mj n := by unfold mj; omega
  go_enter Try.func3, Try.ntmps3
  go_upto_block 0 with (first | ((with_reducible show WGd ..); (with_reducible apply wpA_guard); exact rfl; skip) | (go_at_call 8; refine (pnew_c w0 _ _ hS n 17 frm).mono ?_; rintro _ _ ⟨g, rfl, hL⟩; clear hS) | ((with_reducible show WLd ..); (with_reducible apply wpA_load); exact rfl; (first | ((with_reducible apply St.cellI hS); (focus repeat constructor); exact rfl) | assumption); kernel_rfl) | ((with_reducible show WSt ..); (with_reducible apply wpA_store1I hS); exact rfl; (focus repeat constructor); exact rfl; exact rfl; exact rfl; exact rfl; kernel_rfl; intro wx hS; (try simp only [Act.put, List.setIfInBounds_toArray, List.set_cons_zero, List.set_cons_succ]); (try simp only [Act.eval, Array.getD_eq_getD_getElem?, List.getElem?_toArray, List.getElem?_cons_succ, List.getElem?_cons_zero, Option.getD_some, List.set_cons_succ, List.set_cons_zero, Value.cells, List.toList_toArray] at hS)) | ((with_reducible show WBx ..); (with_reducible apply wpA_box hS); exact rfl; exact rfl; intro _ wx hS; (try simp only [Act.put, List.setIfInBounds_toArray, List.set_cons_zero, List.set_cons_succ]); (try simp only [Act.eval, Array.getD_eq_getD_getElem?, List.getElem?_toArray, List.getElem?_cons_succ, List.getElem?_cons_zero, Option.getD_some, List.set_cons_succ, List.set_cons_zero, Value.cells, List.toList_toArray] at hS)))
  have hL0 := hL.addRow
  clear hL
  have hI0 : AdI n frm 0 [] false := ⟨by simp, by simp, fun _ => hmj0, fun h => by cases h⟩
  go_cut [8, 9] (fun av rv wr => ∃ (i : Nat) (all : List EntS) (aa : Option Addr) (ca : Nat) (rdy : Bool), av = .slice aa all.length ca ∧ rv = .bool rdy ∧ i ≤ 5 ∧ Hid (AdI n frm i all rdy) ∧ PropSt w0 wr g (aS n frm i all rdy) [vrow aa ca all])
  case first =>
    go_wp2_with (first | ((with_reducible show WGd ..); (with_reducible apply wpA_guard); exact rfl; skip) | ((with_reducible show WLd ..); (with_reducible apply wpA_load); exact rfl; (first | ((with_reducible apply St.cellI hS); (focus repeat constructor); exact rfl) | assumption); kernel_rfl) | ((with_reducible show WSt ..); (with_reducible apply wpA_store1I hS); exact rfl; (focus repeat constructor); exact rfl; exact rfl; exact rfl; exact rfl; kernel_rfl; intro wx hS; (try simp only [Act.put, List.setIfInBounds_toArray, List.set_cons_zero, List.set_cons_succ]); (try simp only [Act.eval, Array.getD_eq_getD_getElem?, List.getElem?_toArray, List.getElem?_cons_succ, List.getElem?_cons_zero, Option.getD_some, List.set_cons_succ, List.set_cons_zero, Value.cells, List.toList_toArray] at hS)) | ((with_reducible show WBx ..); (with_reducible apply wpA_box hS); exact rfl; exact rfl; intro _ wx hS; (try simp only [Act.put, List.setIfInBounds_toArray, List.set_cons_zero, List.set_cons_succ]); (try simp only [Act.eval, Array.getD_eq_getD_getElem?, List.getElem?_toArray, List.getElem?_cons_succ, List.getElem?_cons_zero, Option.getD_some, List.set_cons_succ, List.set_cons_zero, Value.cells, List.toList_toArray] at hS)))
    go_loopw [10, 8, 9] (fun c av rv wr => ∃ (i : Nat) (all : List EntS) (aa : Option Addr) (ca : Nat) (rdy : Bool), c = .int .i64 i ∧ (i : Int) ≤ n ∧ av = .slice aa all.length ca ∧ rv = .bool rdy ∧ Hid (AdI n frm i all rdy) ∧ PropSt w0 wr g (aS n frm i all rdy) [vrow aa ca all]) (fun c _ _ _ => (n - intOf c).toNat)
    case atStart => exact ⟨0, [], none, 0, false, rfl, by omega, rfl, rfl, Lib.hid hI0, hL0⟩
    case round =>
      clear hL0 hI0
      obtain ⟨i, all, aa, ca, rdy, rfl, hin, rfl, rfl, HI, hL⟩ := hrel
      by_cases c1 : (i : Int) < n
      case neg =>
        have hcd : decide ((i : Int) < n) = false := by simpa using c1
        go_wp2_with (first | ((with_reducible show WGd ..); (with_reducible apply wpA_guard); exact rfl; skip) | ((with_reducible show WLd ..); (with_reducible apply wpA_load); exact rfl; (first | ((with_reducible apply St.cellI hS); (focus repeat constructor); exact rfl) | assumption); kernel_rfl) | ((with_reducible show WSt ..); (with_reducible apply wpA_store1I hS); exact rfl; (focus repeat constructor); exact rfl; exact rfl; exact rfl; exact rfl; kernel_rfl; intro wx hS; (try simp only [Act.put, List.setIfInBounds_toArray, List.set_cons_zero, List.set_cons_succ]); (try simp only [Act.eval, Array.getD_eq_getD_getElem?, List.getElem?_toArray, List.getElem?_cons_succ, List.getElem?_cons_zero, Option.getD_some, List.set_cons_succ, List.set_cons_zero, Value.cells, List.toList_toArray] at hS)) | ((with_reducible show WBx ..); (with_reducible apply wpA_box hS); exact rfl; exact rfl; intro _ wx hS; (try simp only [Act.put, List.setIfInBounds_toArray, List.set_cons_zero, List.set_cons_succ]); (try simp only [Act.eval, Array.getD_eq_getD_getElem?, List.getElem?_toArray, List.getElem?_cons_succ, List.getElem?_cons_zero, Option.getD_some, List.set_cons_succ, List.set_cons_zero, Value.cells, List.toList_toArray] at hS)))
        go_meet
        exact ⟨i, all, aa, ca, rdy, rfl, rfl, by omega, HI, hL⟩
      have hcd : decide ((i : Int) < n) = true := by simpa using c1
      by_cases c2 : i < l.length
      case neg =>
        have hcd2 : decide ((i : Int) < (l.length : Int)) = false := by simpa using c2
        go_wp2_with (first | ((with_reducible show WGd ..); (with_reducible apply wpA_guard); exact rfl; skip) | ((with_reducible show WLd ..); (with_reducible apply wpA_load); exact rfl; (first | ((with_reducible apply St.cellI hS); (focus repeat constructor); exact rfl) | assumption); kernel_rfl) | ((with_reducible show WSt ..); (with_reducible apply wpA_store1I hS); exact rfl; (focus repeat constructor); exact rfl; exact rfl; exact rfl; exact rfl; kernel_rfl; intro wx hS; (try simp only [Act.put, List.setIfInBounds_toArray, List.set_cons_zero, List.set_cons_succ]); (try simp only [Act.eval, Array.getD_eq_getD_getElem?, List.getElem?_toArray, List.getElem?_cons_succ, List.getElem?_cons_zero, Option.getD_some, List.set_cons_succ, List.set_cons_zero, Value.cells, List.toList_toArray] at hS)) | ((with_reducible show WBx ..); (with_reducible apply wpA_box hS); exact rfl; exact rfl; intro _ wx hS; (try simp only [Act.put, List.setIfInBounds_toArray, List.set_cons_zero, List.set_cons_succ]); (try simp only [Act.eval, Array.getD_eq_getD_getElem?, List.getElem?_toArray, List.getElem?_cons_succ, List.getElem?_cons_zero, Option.getD_some, List.set_cons_succ, List.set_cons_zero, Value.cells, List.toList_toArray] at hS)))
        go_meet
        exact ⟨i, all, aa, ca, rdy, rfl, rfl, by omega, HI, hL⟩
      have hcd2 : decide ((i : Int) < (l.length : Int)) = true := by simpa using c2
      cases rdy with
      | true =>
        go_wp2_with (first | ((with_reducible show WGd ..); (with_reducible apply wpA_guard); exact rfl; skip) | ((with_reducible show WLd ..); (with_reducible apply wpA_load); exact rfl; (first | ((with_reducible apply St.cellI hS); (focus repeat constructor); exact rfl) | assumption); kernel_rfl) | ((with_reducible show WSt ..); (with_reducible apply wpA_store1I hS); exact rfl; (focus repeat constructor); exact rfl; exact rfl; exact rfl; exact rfl; kernel_rfl; intro wx hS; (try simp only [Act.put, List.setIfInBounds_toArray, List.set_cons_zero, List.set_cons_succ]); (try simp only [Act.eval, Array.getD_eq_getD_getElem?, List.getElem?_toArray, List.getElem?_cons_succ, List.getElem?_cons_zero, Option.getD_some, List.set_cons_succ, List.set_cons_zero, Value.cells, List.toList_toArray] at hS)) | ((with_reducible show WBx ..); (with_reducible apply wpA_box hS); exact rfl; exact rfl; intro _ wx hS; (try simp only [Act.put, List.setIfInBounds_toArray, List.set_cons_zero, List.set_cons_succ]); (try simp only [Act.eval, Array.getD_eq_getD_getElem?, List.getElem?_toArray, List.getElem?_cons_succ, List.getElem?_cons_zero, Option.getD_some, List.set_cons_succ, List.set_cons_zero, Value.cells, List.toList_toArray] at hS)))
        go_meet
        exact ⟨i, all, aa, ca, true, rfl, rfl, by omega, HI, hL⟩
      | false =>
        obtain ⟨x, hx⟩ : ∃ x, l[i]? = some x := ⟨_, List.getElem?_eq_getElem c2⟩
        obtain ⟨b0, off, rfl, hcl⟩ := HR.out i x hx
        have hxa := HAT.out x (List.mem_of_getElem? hx)
        have hcell : ∀ w H, St w0 w H → w.cell? ⟨b0, off + i, none⟩ = some (.slice x.ad x.es.length x.cap) := fun w H h => by
          have := h.oldCell (hcl 0 _ rfl)
          simpa using this
        have HCELL := Lib.hid hcell
        have HXA := Lib.hid hxa
        have hent : ∀ w H, St w0 w H → Ents w x.ad x.es := fun w H h => EsIn.ents hxa h
        have HENT := Lib.hid hent
        have hx2 := hxa.2
        obtain ⟨ad, xc, es⟩ := x
        simp only at HCELL HXA hx2 HENT
        clear hent hcell hxa hcl hx
        obtain ⟨D_, hS, hfin⟩ := PropSt.opn (A := [_]) hL
        simp only [List.cons_append, List.nil_append] at hS
        have HF := Lib.hid hfin
        clear hfin hL
        have hcell := Lib.hid (HCELL.out _ _ hS)
        by_cases c3 : es.length ≤ 1000
        case neg =>
          have hcd3 : decide ((1000 : Int) < (es.length : Int)) = true := by simp; omega
          go_wp2_with (first | ((with_reducible show WGd ..); (with_reducible apply wpA_guard); exact rfl; skip) | ((with_reducible show WLd ..); (with_reducible apply wpA_load); exact rfl; exact HCELL.out _ _ hS; kernel_rfl) | (go_at_call 7; with_reducible refine (awake_c w0 _ _ hS).mono ?_; rintro _ _ ⟨rfl, hS⟩) | ((with_reducible show WLd ..); (with_reducible apply wpA_load); exact rfl; (first | ((with_reducible apply St.cellI hS); (focus repeat constructor); exact rfl) | assumption); kernel_rfl) | ((with_reducible show WSt ..); (with_reducible apply wpA_store1I hS); exact rfl; (focus repeat constructor); exact rfl; exact rfl; exact rfl; exact rfl; kernel_rfl; intro wx hS; (try simp only [Act.put, List.setIfInBounds_toArray, List.set_cons_zero, List.set_cons_succ]); (try simp only [Act.eval, Array.getD_eq_getD_getElem?, List.getElem?_toArray, List.getElem?_cons_succ, List.getElem?_cons_zero, Option.getD_some, List.set_cons_succ, List.set_cons_zero, Value.cells, List.toList_toArray] at hS)) | ((with_reducible show WBx ..); (with_reducible apply wpA_box hS); exact rfl; exact rfl; intro _ wx hS; (try simp only [Act.put, List.setIfInBounds_toArray, List.set_cons_zero, List.set_cons_succ]); (try simp only [Act.eval, Array.getD_eq_getD_getElem?, List.getElem?_toArray, List.getElem?_cons_succ, List.getElem?_cons_zero, Option.getD_some, List.set_cons_succ, List.set_cons_zero, Value.cells, List.toList_toArray] at hS)))
          go_ret
          exact ⟨rfl, (HF.out _ [] hS.tail).rest⟩
        have hcd3 : decide ((1000 : Int) < (es.length : Int)) = false := by simp; omega
        go_upto_block 2 with (first | ((with_reducible show WGd ..); (with_reducible apply wpA_guard); exact rfl; skip) | ((with_reducible show WLd ..); (with_reducible apply wpA_load); exact rfl; exact HCELL.out _ _ hS; kernel_rfl) | ((with_reducible show WLd ..); (with_reducible apply wpA_load); exact rfl; (first | ((with_reducible apply St.cellI hS); (focus repeat constructor); exact rfl) | assumption); kernel_rfl) | ((with_reducible show WSt ..); (with_reducible apply wpA_store1I hS); exact rfl; (focus repeat constructor); exact rfl; exact rfl; exact rfl; exact rfl; kernel_rfl; intro wx hS; (try simp only [Act.put, List.setIfInBounds_toArray, List.set_cons_zero, List.set_cons_succ]); (try simp only [Act.eval, Array.getD_eq_getD_getElem?, List.getElem?_toArray, List.getElem?_cons_succ, List.getElem?_cons_zero, Option.getD_some, List.set_cons_succ, List.set_cons_zero, Value.cells, List.toList_toArray] at hS)) | ((with_reducible show WBx ..); (with_reducible apply wpA_box hS); exact rfl; exact rfl; intro _ wx hS; (try simp only [Act.put, List.setIfInBounds_toArray, List.set_cons_zero, List.set_cons_succ]); (try simp only [Act.eval, Array.getD_eq_getD_getElem?, List.getElem?_toArray, List.getElem?_cons_succ, List.getElem?_cons_zero, Option.getD_some, List.set_cons_succ, List.set_cons_zero, Value.cells, List.toList_toArray] at hS)))
        go_cut [] (fun wr => (∀ e ∈ es, e.slot ≤ frm + 1000) ∧ St w0 wr (vrow aa ca all :: D_))
        case first =>
          go_wp2_with (first | ((with_reducible show WGd ..); (with_reducible apply wpA_guard); exact rfl; skip) | ((with_reducible show WLd ..); (with_reducible apply wpA_load); exact rfl; (first | ((with_reducible apply St.cellI hS); (focus repeat constructor); exact rfl) | assumption); kernel_rfl) | ((with_reducible show WSt ..); (with_reducible apply wpA_store1I hS); exact rfl; (focus repeat constructor); exact rfl; exact rfl; exact rfl; exact rfl; kernel_rfl; intro wx hS; (try simp only [Act.put, List.setIfInBounds_toArray, List.set_cons_zero, List.set_cons_succ]); (try simp only [Act.eval, Array.getD_eq_getD_getElem?, List.getElem?_toArray, List.getElem?_cons_succ, List.getElem?_cons_zero, Option.getD_some, List.set_cons_succ, List.set_cons_zero, Value.cells, List.toList_toArray] at hS)) | ((with_reducible show WBx ..); (with_reducible apply wpA_box hS); exact rfl; exact rfl; intro _ wx hS; (try simp only [Act.put, List.setIfInBounds_toArray, List.set_cons_zero, List.set_cons_succ]); (try simp only [Act.eval, Array.getD_eq_getD_getElem?, List.getElem?_toArray, List.getElem?_cons_succ, List.getElem?_cons_zero, Option.getD_some, List.set_cons_succ, List.set_cons_zero, Value.cells, List.toList_toArray] at hS)))
          go_loopw [11] (fun c wr => ∃ j : Nat, j ≤ es.length ∧ c = .int .i64 j ∧ Hid (∀ e ∈ es.take j, e.slot ≤ frm + 1000) ∧ St w0 wr (vrow aa ca all :: D_)) (fun c _ => es.length - (intOf c).toNat)
          case atStart => exact ⟨0, Nat.zero_le _, rfl, Lib.hid (by simp), hS⟩
          case round =>
            clear hS hcell
            obtain ⟨j, hj, rfl, HJ, hS⟩ := hrel
            have hcell := Lib.hid (HCELL.out _ _ hS)
            by_cases c4 : j < es.length
            · obtain ⟨e, he⟩ : ∃ e, es[j]? = some e := ⟨_, List.getElem?_eq_getElem c4⟩
              obtain ⟨ge, oe, hge, hel⟩ := ElsAt.old HXA.out.1 hS j e he
              simp only at hge
              subst hge
              have HEL := Lib.hid (show wr.cell? ⟨ge, oe + j * 7, none⟩ = some (.int .i64 e.slot) from hel 0 _ rfl)
              have HE := Lib.hid he
              clear hel he
              by_cases c5 : e.slot ≤ frm + 1000
              · have hcd5 : decide (frm + 1000 < e.slot) = false := by simp; omega
                go_wp2_with (first | ((with_reducible show WGd ..); (with_reducible apply wpA_guard); exact rfl; skip) | ((with_reducible show WLd ..); (with_reducible apply wpA_load); exact rfl; exact HCELL.out _ _ hS; kernel_rfl) | ((with_reducible show WLd ..); (with_reducible apply wpA_load); exact rfl; exact HEL.out; kernel_rfl) | ((with_reducible show WLd ..); (with_reducible apply wpA_load); exact rfl; (first | ((with_reducible apply St.cellI hS); (focus repeat constructor); exact rfl) | assumption); kernel_rfl) | ((with_reducible show WSt ..); (with_reducible apply wpA_store1I hS); exact rfl; (focus repeat constructor); exact rfl; exact rfl; exact rfl; exact rfl; kernel_rfl; intro wx hS; (try simp only [Act.put, List.setIfInBounds_toArray, List.set_cons_zero, List.set_cons_succ]); (try simp only [Act.eval, Array.getD_eq_getD_getElem?, List.getElem?_toArray, List.getElem?_cons_succ, List.getElem?_cons_zero, Option.getD_some, List.set_cons_succ, List.set_cons_zero, Value.cells, List.toList_toArray] at hS)) | ((with_reducible show WBx ..); (with_reducible apply wpA_box hS); exact rfl; exact rfl; intro _ wx hS; (try simp only [Act.put, List.setIfInBounds_toArray, List.set_cons_zero, List.set_cons_succ]); (try simp only [Act.eval, Array.getD_eq_getD_getElem?, List.getElem?_toArray, List.getElem?_cons_succ, List.getElem?_cons_zero, Option.getD_some, List.set_cons_succ, List.set_cons_zero, Value.cells, List.toList_toArray] at hS)))
                go_roundw
                case rel => exact ⟨j + 1, by omega, by go_num, Lib.hid (by
                  intro y hy
                  rw [List.take_add_one, HE.out] at hy
                  rcases List.mem_append.1 hy with h | h
                  · exact HJ.out y h
                  · simp at h; subst h; exact c5), hS⟩
                case measure => simp [intOf]; omega
              · have hcd5 : decide (frm + 1000 < e.slot) = true := by simp; omega
                go_wp2_with (first | ((with_reducible show WGd ..); (with_reducible apply wpA_guard); exact rfl; skip) | ((with_reducible show WLd ..); (with_reducible apply wpA_load); exact rfl; exact HCELL.out _ _ hS; kernel_rfl) | ((with_reducible show WLd ..); (with_reducible apply wpA_load); exact rfl; exact HEL.out; kernel_rfl) | (go_at_call 7; with_reducible refine (awake_c w0 _ _ hS).mono ?_; rintro _ _ ⟨rfl, hS⟩) | ((with_reducible show WLd ..); (with_reducible apply wpA_load); exact rfl; (first | ((with_reducible apply St.cellI hS); (focus repeat constructor); exact rfl) | assumption); kernel_rfl) | ((with_reducible show WSt ..); (with_reducible apply wpA_store1I hS); exact rfl; (focus repeat constructor); exact rfl; exact rfl; exact rfl; exact rfl; kernel_rfl; intro wx hS; (try simp only [Act.put, List.setIfInBounds_toArray, List.set_cons_zero, List.set_cons_succ]); (try simp only [Act.eval, Array.getD_eq_getD_getElem?, List.getElem?_toArray, List.getElem?_cons_succ, List.getElem?_cons_zero, Option.getD_some, List.set_cons_succ, List.set_cons_zero, Value.cells, List.toList_toArray] at hS)) | ((with_reducible show WBx ..); (with_reducible apply wpA_box hS); exact rfl; exact rfl; intro _ wx hS; (try simp only [Act.put, List.setIfInBounds_toArray, List.set_cons_zero, List.set_cons_succ]); (try simp only [Act.eval, Array.getD_eq_getD_getElem?, List.getElem?_toArray, List.getElem?_cons_succ, List.getElem?_cons_zero, Option.getD_some, List.set_cons_succ, List.set_cons_zero, Value.cells, List.toList_toArray] at hS)))
                go_ret
                exact ⟨rfl, (HF.out _ [] hS.tail).rest⟩
            · obtain rfl : j = es.length := by omega
              go_wp2_with (first | ((with_reducible show WGd ..); (with_reducible apply wpA_guard); exact rfl; skip) | ((with_reducible show WLd ..); (with_reducible apply wpA_load); exact rfl; exact HCELL.out _ _ hS; kernel_rfl) | ((with_reducible show WLd ..); (with_reducible apply wpA_load); exact rfl; (first | ((with_reducible apply St.cellI hS); (focus repeat constructor); exact rfl) | assumption); kernel_rfl) | ((with_reducible show WSt ..); (with_reducible apply wpA_store1I hS); exact rfl; (focus repeat constructor); exact rfl; exact rfl; exact rfl; exact rfl; kernel_rfl; intro wx hS; (try simp only [Act.put, List.setIfInBounds_toArray, List.set_cons_zero, List.set_cons_succ]); (try simp only [Act.eval, Array.getD_eq_getD_getElem?, List.getElem?_toArray, List.getElem?_cons_succ, List.getElem?_cons_zero, Option.getD_some, List.set_cons_succ, List.set_cons_zero, Value.cells, List.toList_toArray] at hS)) | ((with_reducible show WBx ..); (with_reducible apply wpA_box hS); exact rfl; exact rfl; intro _ wx hS; (try simp only [Act.put, List.setIfInBounds_toArray, List.set_cons_zero, List.set_cons_succ]); (try simp only [Act.eval, Array.getD_eq_getD_getElem?, List.getElem?_toArray, List.getElem?_cons_succ, List.getElem?_cons_zero, Option.getD_some, List.set_cons_succ, List.set_cons_zero, Value.cells, List.toList_toArray] at hS)))
              go_meet
              exact ⟨by have := HJ.out; rwa [List.take_length] at this, hS⟩
        case rest =>
          clear hS hcell
          obtain ⟨hsl, hS⟩ := hcut
          have hcell := Lib.hid (HCELL.out _ _ hS)
          have HSL := Lib.hid hsl
          have HI2 := Lib.hid (HI.out.step c3 hsl)
          have hln := HI.out.ln
          have HM := Lib.hid (majD_pos h1)
          clear hsl
          by_cases he : i + 1 = mj n
          · have hmm : majD n = (i : Int) + 1 := by rw [majD_pos h1]; omega
            rw [decide_eq_true he] at HI2
            have HE := Lib.hid (decide_eq_true he)
            go_wp2_with (first | ((with_reducible show WGd ..); (with_reducible apply wpA_guard); exact rfl; skip) | ((with_reducible show WLd ..); (with_reducible apply wpA_load); exact rfl; exact HCELL.out _ _ hS; kernel_rfl) | ((with_reducible show WAp ..); (with_reducible apply wpA_append hS 0 (z := .agg #[.int .i64 0, .int .i64 0, .int .i64 0, .int .i64 0, .int .i64 0, .string ⟨#[]⟩, .int .i64 0]) (size := 7) (bytes := 64)); exact rfl; exact rfl; exact rfl; exact Try.underlying26; exact .inr Try.underlying26; kernel_rfl; exact rfl; exact (Src.els EntS.cells_length ent_one (ElsAt.old HXA.out.1 hS)); exact (by unfold maxLen; omega); exact (by omega); intro aa2 ca2 wx hS; (try simp only [Act.put, List.setIfInBounds_toArray, List.set_cons_zero, List.set_cons_succ])) | (go_at_call 9; have hS3 : St w0 _ (vrow aa2 ca2 (all ++ es) :: D_) := (by rw [vrow_app]; exact hS); have hL := HF.out _ [_] hS3; clear HF hS hS3; with_reducible refine (kPb hL HI.out h1 h2 f1 f2 c1 _ _ (fun w h => HENT.out w _ h) c3 HSL.out HE.out).mono ?_; rintro _ _ ⟨rfl, hL⟩; (obtain ⟨D2, hS, hfin⟩ := PropSt.opn (A := [_]) hL); have HF := Lib.hid hfin; clear hfin hL; (simp only [List.cons_append, List.nil_append] at hS)) | (go_at_call 10; with_reducible refine (mm_c hS n h1 h2 hmm).mono ?_; rintro _ _ ⟨rfl, hS⟩) | ((with_reducible show WLd ..); (with_reducible apply wpA_load); exact rfl; (first | ((with_reducible apply St.cellI hS); (focus repeat constructor); exact rfl) | assumption); kernel_rfl) | ((with_reducible show WSt ..); (with_reducible apply wpA_store1I hS); exact rfl; (focus repeat constructor); exact rfl; exact rfl; exact rfl; exact rfl; kernel_rfl; intro wx hS; (try simp only [Act.put, List.setIfInBounds_toArray, List.set_cons_zero, List.set_cons_succ]); (try simp only [Act.eval, Array.getD_eq_getD_getElem?, List.getElem?_toArray, List.getElem?_cons_succ, List.getElem?_cons_zero, Option.getD_some, List.set_cons_succ, List.set_cons_zero, Value.cells, List.toList_toArray] at hS)) | ((with_reducible show WBx ..); (with_reducible apply wpA_box hS); exact rfl; exact rfl; intro _ wx hS; (try simp only [Act.put, List.setIfInBounds_toArray, List.set_cons_zero, List.set_cons_succ]); (try simp only [Act.eval, Array.getD_eq_getD_getElem?, List.getElem?_toArray, List.getElem?_cons_succ, List.getElem?_cons_zero, Option.getD_some, List.set_cons_succ, List.set_cons_zero, Value.cells, List.toList_toArray] at hS)))
            go_roundw
            case rel => exact ⟨i + 1, all ++ es, aa2, ca2, true, by go_num, by omega, by simp, rfl, HI2, HF.out _ [_] hS⟩
            case measure => simp [intOf]; omega
          · have hmm : ((i : Int) + 1 == majD n) = false := by rw [majD_pos h1]; simp; omega
            rw [decide_eq_false he] at HI2
            have HE := Lib.hid (decide_eq_false he)
            go_wp2_with (first | ((with_reducible show WGd ..); (with_reducible apply wpA_guard); exact rfl; skip) | ((with_reducible show WLd ..); (with_reducible apply wpA_load); exact rfl; exact HCELL.out _ _ hS; kernel_rfl) | ((with_reducible show WAp ..); (with_reducible apply wpA_append hS 0 (z := .agg #[.int .i64 0, .int .i64 0, .int .i64 0, .int .i64 0, .int .i64 0, .string ⟨#[]⟩, .int .i64 0]) (size := 7) (bytes := 64)); exact rfl; exact rfl; exact rfl; exact Try.underlying26; exact .inr Try.underlying26; kernel_rfl; exact rfl; exact (Src.els EntS.cells_length ent_one (ElsAt.old HXA.out.1 hS)); exact (by unfold maxLen; omega); exact (by omega); intro aa2 ca2 wx hS; (try simp only [Act.put, List.setIfInBounds_toArray, List.set_cons_zero, List.set_cons_succ])) | (go_at_call 9; have hS3 : St w0 _ (vrow aa2 ca2 (all ++ es) :: D_) := (by rw [vrow_app]; exact hS); have hL := HF.out _ [_] hS3; clear HF hS hS3; with_reducible refine (kPb hL HI.out h1 h2 f1 f2 c1 _ _ (fun w h => HENT.out w _ h) c3 HSL.out HE.out).mono ?_; rintro _ _ ⟨rfl, hL⟩; (obtain ⟨D2, hS, hfin⟩ := PropSt.opn (A := [_]) hL); have HF := Lib.hid hfin; clear hfin hL; (simp only [List.cons_append, List.nil_append] at hS)) | (go_at_call 10; with_reducible refine (mq_c hS n h1 h2).mono ?_; rintro _ _ ⟨rfl, hS⟩) | ((with_reducible show WLd ..); (with_reducible apply wpA_load); exact rfl; (first | ((with_reducible apply St.cellI hS); (focus repeat constructor); exact rfl) | assumption); kernel_rfl) | ((with_reducible show WSt ..); (with_reducible apply wpA_store1I hS); exact rfl; (focus repeat constructor); exact rfl; exact rfl; exact rfl; exact rfl; kernel_rfl; intro wx hS; (try simp only [Act.put, List.setIfInBounds_toArray, List.set_cons_zero, List.set_cons_succ]); (try simp only [Act.eval, Array.getD_eq_getD_getElem?, List.getElem?_toArray, List.getElem?_cons_succ, List.getElem?_cons_zero, Option.getD_some, List.set_cons_succ, List.set_cons_zero, Value.cells, List.toList_toArray] at hS)) | ((with_reducible show WBx ..); (with_reducible apply wpA_box hS); exact rfl; exact rfl; intro _ wx hS; (try simp only [Act.put, List.setIfInBounds_toArray, List.set_cons_zero, List.set_cons_succ]); (try simp only [Act.eval, Array.getD_eq_getD_getElem?, List.getElem?_toArray, List.getElem?_cons_succ, List.getElem?_cons_zero, Option.getD_some, List.set_cons_succ, List.set_cons_zero, Value.cells, List.toList_toArray] at hS)))
            go_roundw
            case rel => exact ⟨i + 1, all ++ es, aa2, ca2, false, by go_num, by omega, by simp, rfl, HI2, HF.out _ [_] hS⟩
            case measure => simp [intOf]; omega
  case rest =>
    clear hL0 hI0
    obtain ⟨i, all, aa, ca, rdy, rfl, rfl, hin, HI, hL⟩ := hcut
    have hln := HI.out.ln
    cases rdy with
    | false =>
      go_wp2_with (first | ((with_reducible show WGd ..); (with_reducible apply wpA_guard); exact rfl; skip) | (go_at_call 11; with_reducible refine (kV0 hL).mono ?_; rintro _ _ ⟨av, cv, rfl, hL⟩; skip) | (go_at_call 12; with_reducible refine (ready_f hL rfl).mono ?_; rintro _ _ ⟨rfl, hL⟩) | (go_at_call 7; with_reducible refine (awake_c w0 _ _ hL.rest).mono ?_; rintro _ _ ⟨rfl, hS⟩) | ((with_reducible show WLd ..); (with_reducible apply wpA_load); exact rfl; (first | ((with_reducible apply St.cellI hS); (focus repeat constructor); exact rfl) | assumption); kernel_rfl) | ((with_reducible show WSt ..); (with_reducible apply wpA_store1I hS); exact rfl; (focus repeat constructor); exact rfl; exact rfl; exact rfl; exact rfl; kernel_rfl; intro wx hS; (try simp only [Act.put, List.setIfInBounds_toArray, List.set_cons_zero, List.set_cons_succ]); (try simp only [Act.eval, Array.getD_eq_getD_getElem?, List.getElem?_toArray, List.getElem?_cons_succ, List.getElem?_cons_zero, Option.getD_some, List.set_cons_succ, List.set_cons_zero, Value.cells, List.toList_toArray] at hS)) | ((with_reducible show WBx ..); (with_reducible apply wpA_box hS); exact rfl; exact rfl; intro _ wx hS; (try simp only [Act.put, List.setIfInBounds_toArray, List.set_cons_zero, List.set_cons_succ]); (try simp only [Act.eval, Array.getD_eq_getD_getElem?, List.getElem?_toArray, List.getElem?_cons_succ, List.getElem?_cons_zero, Option.getD_some, List.set_cons_succ, List.set_cons_zero, Value.cells, List.toList_toArray] at hS)))
      go_ret
      exact ⟨rfl, hS.tail.tail⟩
    | true =>
      go_upto_block 4 with (first | ((with_reducible show WGd ..); (with_reducible apply wpA_guard); exact rfl; skip) | (go_at_call 11; with_reducible refine (kV1 hL HI.out).mono ?_; rintro _ _ ⟨av, cv, rfl, hL⟩; skip) | ((with_reducible show WLd ..); (with_reducible apply wpA_load); exact rfl; (first | ((with_reducible apply St.cellI hS); (focus repeat constructor); exact rfl) | assumption); kernel_rfl) | ((with_reducible show WSt ..); (with_reducible apply wpA_store1I hS); exact rfl; (focus repeat constructor); exact rfl; exact rfl; exact rfl; exact rfl; kernel_rfl; intro wx hS; (try simp only [Act.put, List.setIfInBounds_toArray, List.set_cons_zero, List.set_cons_succ]); (try simp only [Act.eval, Array.getD_eq_getD_getElem?, List.getElem?_toArray, List.getElem?_cons_succ, List.getElem?_cons_zero, Option.getD_some, List.set_cons_succ, List.set_cons_zero, Value.cells, List.toList_toArray] at hS)) | ((with_reducible show WBx ..); (with_reducible apply wpA_box hS); exact rfl; exact rfl; intro _ wx hS; (try simp only [Act.put, List.setIfInBounds_toArray, List.set_cons_zero, List.set_cons_succ]); (try simp only [Act.eval, Array.getD_eq_getD_getElem?, List.getElem?_toArray, List.getElem?_cons_succ, List.getElem?_cons_zero, Option.getD_some, List.set_cons_succ, List.set_cons_zero, Value.cells, List.toList_toArray] at hS)))
      have hS := hL.rest
      clear hL
      have hvf := fun (q : Nat) (e : EntS) (h : (valsD frm 17 (all.foldl (keepD frm) []))[q]? = some e) => vals_fill h
      have hll : (valsD frm 17 (all.foldl (keepD frm) [])).length ≤ 2000 ∧ 0 < (valsD frm 17 (all.foldl (keepD frm) [])).length := by
        rw [valsD_length]
        have h1 : lastD frm (all.foldl (keepD frm) []) ≤ frm + 1000 := lastD_le (by omega) fun e he => by
          rcases keeps_mem all he with h | ⟨h, _⟩
          · simp at h
          · exact HI.out.sl e h
        omega
      obtain ⟨L, hLL⟩ : ∃ L, valsD frm 17 (all.foldl (keepD frm) []) = L := ⟨_, rfl⟩
      rw [hLL] at hS hvf hll ⊢
      have HVF := Lib.hid hvf
      obtain ⟨hl1, hl2⟩ := hll
      clear hvf hLL
      go_wp2_with (first | ((with_reducible show WGd ..); (with_reducible apply wpA_guard); exact rfl; skip) | ((with_reducible show WLd ..); (with_reducible apply wpA_load); exact rfl; (first | ((with_reducible apply St.cellI hS); (focus repeat constructor); exact rfl) | assumption); kernel_rfl) | ((with_reducible show WSt ..); (with_reducible apply wpA_store1I hS); exact rfl; (focus repeat constructor); exact rfl; exact rfl; exact rfl; exact rfl; kernel_rfl; intro wx hS; (try simp only [Act.put, List.setIfInBounds_toArray, List.set_cons_zero, List.set_cons_succ]); (try simp only [Act.eval, Array.getD_eq_getD_getElem?, List.getElem?_toArray, List.getElem?_cons_succ, List.getElem?_cons_zero, Option.getD_some, List.set_cons_succ, List.set_cons_zero, Value.cells, List.toList_toArray] at hS)) | ((with_reducible show WBx ..); (with_reducible apply wpA_box hS); exact rfl; exact rfl; intro _ wx hS; (try simp only [Act.put, List.setIfInBounds_toArray, List.set_cons_zero, List.set_cons_succ]); (try simp only [Act.eval, Array.getD_eq_getD_getElem?, List.getElem?_toArray, List.getElem?_cons_succ, List.getElem?_cons_zero, Option.getD_some, List.set_cons_succ, List.set_cons_zero, Value.cells, List.toList_toArray] at hS)))
      go_loopw [13] (fun c wr => ∃ q : Nat, q ≤ L.length ∧ c = .int .i64 q ∧ St w0 wr [vrow av cv L, vrow aa ca all]) (fun c _ => L.length - (intOf c).toNat)
      case atStart => exact ⟨0, Nat.zero_le _, rfl, hS⟩
      case round =>
        clear hS
        obtain ⟨q, hq, rfl, hS⟩ := hrel
        rcases row_head (hS.at_ 0 rfl) with ⟨_, hh, _⟩ | ⟨⟨gL, rfl⟩, _⟩
        · omega
        by_cases c6 : q < L.length
        · obtain ⟨e, he⟩ : ∃ e, L[q]? = some e := ⟨_, List.getElem?_eq_getElem c6⟩
          obtain ⟨v1, v2, v3, v4⟩ := HVF.out q e he
          obtain ⟨es_, eb, ec⟩ := e
          simp only at v1 v2 v3 v4
          subst v1 v2
          have HQ := Lib.hid he
          have HV3 := Lib.hid v3
          have HV4 := Lib.hid v4
          clear he v3 v4
          go_upto_block 6 with (first | ((with_reducible show WGd ..); (with_reducible apply wpA_guard); exact rfl; skip) | ((with_reducible show WLd ..); (with_reducible apply wpA_load); exact rfl; (first | exact (row_elem EntS.cells_length (hS.at_ 0 rfl) HQ.out) 0 _ rfl | exact (row_elem EntS.cells_length (hS.at_ 1 rfl) HQ.out) 0 _ rfl); kernel_rfl) | ((with_reducible show WLd ..); (with_reducible apply wpA_load); exact rfl; (first | exact (row_elem EntS.cells_length (hS.at_ 0 rfl) HQ.out) 1 _ rfl | exact (row_elem EntS.cells_length (hS.at_ 1 rfl) HQ.out) 1 _ rfl); kernel_rfl) | ((with_reducible show WAp ..); (with_reducible apply wpA_appendI hS (e := 30) (z := .agg #[.int .i64 0, .int .i64 0, .int .i64 0, .int .i64 0, .int .i64 0, .string ⟨#[]⟩, .int .i64 0]) (size := 7) (bytes := 64)); exact rfl; exact rfl; exact Try.underlying26; (focus repeat constructor); exact .inr Try.underlying26; kernel_rfl; exact rfl; exact (Src.freshN (m := 1) hS 0 rfl rfl (by rfl)); exact (by unfold maxLen; omega); exact (by omega); intro _ _ wx hS; (try simp only [Act.put, List.setIfInBounds_toArray, List.set_cons_zero, List.set_cons_succ])) | ((first | ((with_reducible show WAl ..); (with_reducible apply wpA_alloc (t := 30) hS (v := .agg #[.int .i64 0, .int .i64 0, .int .i64 0, .int .i64 0, .int .i64 0, .string ⟨#[]⟩, .int .i64 0])); kernel_rfl; exact rfl; intro g14 wx hS) | ((with_reducible show WBx ..); (with_reducible apply wpA_box hS); exact rfl; exact rfl; intro _ wx hS)); (try simp only [Act.put, List.setIfInBounds_toArray, List.set_cons_zero, List.set_cons_succ]); (try simp only [Act.eval, Array.getD_eq_getD_getElem?, List.getElem?_toArray, List.getElem?_cons_succ, List.getElem?_cons_zero, Option.getD_some, List.set_cons_succ, List.set_cons_zero, Value.cells, List.toList_toArray] at hS)) | ((with_reducible show WLd ..); (with_reducible apply wpA_loadN (t := 30)); exact rfl; ((with_reducible apply Hp.rangeI hS (n := 7)); (focus repeat constructor)); kernel_rfl; kernel_rfl; (try simp only [Act.put, List.setIfInBounds_toArray, List.set_cons_zero, List.set_cons_succ])) | ((with_reducible show WLd ..); (with_reducible apply wpA_loadN (t := 28)); exact rfl; ((with_reducible apply Hp.rangeI hS (n := 5)); (focus repeat constructor)); kernel_rfl; kernel_rfl; (try simp only [Act.put, List.setIfInBounds_toArray, List.set_cons_zero, List.set_cons_succ])) | ((with_reducible show WSt ..); (with_reducible apply wpA_storeI hS); exact rfl; (focus repeat constructor); exact rfl; exact rfl; exact rfl; exact (Nat.le_of_ble_eq_true rfl); kernel_rfl; intro wx hS; (try simp only [Act.put, List.setIfInBounds_toArray, List.set_cons_zero, List.set_cons_succ]); (try simp only [Act.eval, Array.getD_eq_getD_getElem?, List.getElem?_toArray, List.getElem?_cons_succ, List.getElem?_cons_zero, Option.getD_some, List.set_cons_succ, List.set_cons_zero, Value.cells, List.toList_toArray] at hS); (try simp only [List.take_zero, List.take_succ_cons, List.nil_append, List.cons_append, List.length_cons, List.length_nil, Nat.reduceAdd, Nat.zero_add, List.drop_succ_cons, List.drop_zero, List.drop_nil, List.append_nil] at hS)) | ((with_reducible show WLd ..); (with_reducible apply wpA_load); exact rfl; (first | ((with_reducible apply St.cellI hS); (focus repeat constructor); exact rfl) | assumption); kernel_rfl) | ((with_reducible show WSt ..); (with_reducible apply wpA_store1I hS); exact rfl; (focus repeat constructor); exact rfl; exact rfl; exact rfl; exact rfl; kernel_rfl; intro wx hS; (try simp only [Act.put, List.setIfInBounds_toArray, List.set_cons_zero, List.set_cons_succ]); (try simp only [Act.eval, Array.getD_eq_getD_getElem?, List.getElem?_toArray, List.getElem?_cons_succ, List.getElem?_cons_zero, Option.getD_some, List.set_cons_succ, List.set_cons_zero, Value.cells, List.toList_toArray] at hS)))
          have hS : St w0 _ (.cells g14 ((scanD (frm + (q : Int)) (all.take 0)).getD ent0).cells 30 :: vrow (some ⟨gL, 0, none⟩) cv L :: vrow aa ca all :: []) := hS
          go_cut [15] (fun sv wr => sv = .bool (scanD (frm + (q : Int)) all).isSome ∧ St w0 wr (.cells g14 ((scanD (frm + (q : Int)) all).getD ent0).cells 30 :: vrow (some ⟨gL, 0, none⟩) cv L :: vrow aa ca all :: []))
          case first =>
            go_wp2_with (first | ((with_reducible show WGd ..); (with_reducible apply wpA_guard); exact rfl; skip) | ((with_reducible show WLd ..); (with_reducible apply wpA_load); exact rfl; (first | ((with_reducible apply St.cellI hS); (focus repeat constructor); exact rfl) | assumption); kernel_rfl) | ((with_reducible show WSt ..); (with_reducible apply wpA_store1I hS); exact rfl; (focus repeat constructor); exact rfl; exact rfl; exact rfl; exact rfl; kernel_rfl; intro wx hS; (try simp only [Act.put, List.setIfInBounds_toArray, List.set_cons_zero, List.set_cons_succ]); (try simp only [Act.eval, Array.getD_eq_getD_getElem?, List.getElem?_toArray, List.getElem?_cons_succ, List.getElem?_cons_zero, Option.getD_some, List.set_cons_succ, List.set_cons_zero, Value.cells, List.toList_toArray] at hS)) | ((with_reducible show WBx ..); (with_reducible apply wpA_box hS); exact rfl; exact rfl; intro _ wx hS; (try simp only [Act.put, List.setIfInBounds_toArray, List.set_cons_zero, List.set_cons_succ]); (try simp only [Act.eval, Array.getD_eq_getD_getElem?, List.getElem?_toArray, List.getElem?_cons_succ, List.getElem?_cons_zero, Option.getD_some, List.set_cons_succ, List.set_cons_zero, Value.cells, List.toList_toArray] at hS)))
            go_loopw [16, 15] (fun c sv wr => ∃ k : Nat, k ≤ all.length ∧ c = .int .i64 k ∧ sv = .bool (scanD (frm + (q : Int)) (all.take k)).isSome ∧ St w0 wr (.cells g14 ((scanD (frm + (q : Int)) (all.take k)).getD ent0).cells 30 :: vrow (some ⟨gL, 0, none⟩) cv L :: vrow aa ca all :: [])) (fun c _ _ => all.length - (intOf c).toNat)
            case atStart => exact ⟨0, Nat.zero_le _, rfl, rfl, hS⟩
            case round =>
              clear hS
              obtain ⟨k, hk, rfl, rfl, hS⟩ := hrel
              by_cases c7 : k < all.length
              · obtain ⟨a, ha⟩ : ∃ a, all[k]? = some a := ⟨_, List.getElem?_eq_getElem c7⟩
                have htk := scan_take (s := frm + (q : Int)) ha
                rcases row_head (hS.at_ 2 rfl) with ⟨_, hh, _⟩ | ⟨⟨gA, rfl⟩, _⟩
                · omega
                have HA := Lib.hid ha
                obtain ⟨B, hB⟩ : ∃ B, scanD (frm + (q : Int)) (all.take k) = B := ⟨_, rfl⟩
                rw [hB] at hS htk ⊢
                have HT := Lib.hid htk
                clear ha hB htk
                obtain ⟨as_, ab, ⟨a1, a2, a3, a4, a5⟩⟩ := a
                by_cases c8 : as_ = frm + (q : Int)
                · subst c8
                  cases B with
                  | none =>
                    have HP := Lib.hid (show pickD (frm + (q : Int)) none ⟨frm + (q : Int), ab, ⟨a1, a2, a3, a4, a5⟩⟩ = some ⟨frm + (q : Int), ab, ⟨a1, a2, a3, a4, a5⟩⟩ by unfold pickD; rw [if_pos rfl])
                    go_upto_region 35 with (first | ((with_reducible show WGd ..); (with_reducible apply wpA_guard); exact rfl; skip) | ((with_reducible show WLd ..); (with_reducible apply wpA_load); exact rfl; (first | ((with_reducible apply St.cellI hS); (focus repeat constructor); exact rfl) | assumption); kernel_rfl) | ((with_reducible show WSt ..); (with_reducible apply wpA_store1I hS); exact rfl; (focus repeat constructor); exact rfl; exact rfl; exact rfl; exact rfl; kernel_rfl; intro wx hS; (try simp only [Act.put, List.setIfInBounds_toArray, List.set_cons_zero, List.set_cons_succ]); (try simp only [Act.eval, Array.getD_eq_getD_getElem?, List.getElem?_toArray, List.getElem?_cons_succ, List.getElem?_cons_zero, Option.getD_some, List.set_cons_succ, List.set_cons_zero, Value.cells, List.toList_toArray] at hS)) | ((with_reducible show WBx ..); (with_reducible apply wpA_box hS); exact rfl; exact rfl; intro _ wx hS; (try simp only [Act.put, List.setIfInBounds_toArray, List.set_cons_zero, List.set_cons_succ]); (try simp only [Act.eval, Array.getD_eq_getD_getElem?, List.getElem?_toArray, List.getElem?_cons_succ, List.getElem?_cons_zero, Option.getD_some, List.set_cons_succ, List.set_cons_zero, Value.cells, List.toList_toArray] at hS)))
                    refine wp_region_St hS (by kernel_rfl) (by kernel_rfl) (Bx.out ?_)
                    refine bQ_val ?_ rfl ?_ ?_
                    rotate_left
                    · intro w hS; go_simp; (first | done | (with_reducible rfl) | (refine (if_pos ?_).trans ?_; (focus omega); with_reducible rfl) | skip)
                    (simp only [Act.put, List.setIfInBounds_toArray, List.set_cons_zero, List.set_cons_succ])
                    refine bQ_val ?_ rfl ?_ ?_
                    rotate_left
                    · intro w hS; go_simp; (first | done | (with_reducible rfl) | (refine (if_pos ?_).trans ?_; (focus omega); with_reducible rfl) | skip)
                    (simp only [Act.put, List.setIfInBounds_toArray, List.set_cons_zero, List.set_cons_succ])
                    refine bQ_val ?_ rfl ?_ ?_
                    rotate_left
                    · intro w hS; go_simp; (first | done | (with_reducible rfl) | (refine (if_pos ?_).trans ?_; (focus omega); with_reducible rfl) | skip)
                    (simp only [Act.put, List.setIfInBounds_toArray, List.set_cons_zero, List.set_cons_succ])
                    refine bQ_val ?_ rfl ?_ ?_
                    rotate_left
                    · intro w hS; go_simp; (first | done | (with_reducible rfl) | (refine (if_pos ?_).trans ?_; (focus omega); with_reducible rfl) | skip)
                    (simp only [Act.put, List.setIfInBounds_toArray, List.set_cons_zero, List.set_cons_succ])
                    refine bQ_load rfl (fun w hS => by exact (row_elem EntS.cells_length (hS.at_ 2 rfl) HA.out) 0 _ rfl) (by kernel_rfl) ?_
                    (simp only [Act.put, List.setIfInBounds_toArray, List.set_cons_zero, List.set_cons_succ])
                    refine bQ_val ?_ rfl ?_ ?_
                    rotate_left
                    · intro w hS; go_simp; (first | done | (with_reducible rfl) | (refine (if_pos ?_).trans ?_; (focus omega); with_reducible rfl) | skip)
                    (simp only [Act.put, List.setIfInBounds_toArray, List.set_cons_zero, List.set_cons_succ])
                    refine bQ_val ?_ rfl ?_ ?_
                    rotate_left
                    · intro w hS; go_simp; (first | done | (with_reducible rfl) | (refine (if_pos ?_).trans ?_; (focus omega); with_reducible rfl) | skip)
                    (simp only [Act.put, List.setIfInBounds_toArray, List.set_cons_zero, List.set_cons_succ])
                    refine bQ_val ?_ rfl ?_ ?_
                    rotate_left
                    · intro w hS; go_simp; (first | done | (with_reducible rfl) | (refine (if_pos ?_).trans ?_; (focus omega); with_reducible rfl) | skip)
                    (simp only [Act.put, List.setIfInBounds_toArray, List.set_cons_zero, List.set_cons_succ])
                    refine bQ_val ?_ rfl ?_ ?_
                    rotate_left
                    · intro w hS; go_simp; (first | done | (with_reducible rfl) | (refine (if_pos ?_).trans ?_; (focus omega); with_reducible rfl) | skip)
                    (simp only [Act.put, List.setIfInBounds_toArray, List.set_cons_zero, List.set_cons_succ])
                    refine bQ_load rfl (fun w hS => by exact (row_elem EntS.cells_length (hS.at_ 1 rfl) HQ.out) 0 _ rfl) (by kernel_rfl) ?_
                    (simp only [Act.put, List.setIfInBounds_toArray, List.set_cons_zero, List.set_cons_succ])
                    refine bQ_val ?_ rfl ?_ ?_
                    rotate_left
                    · intro w hS; go_simp; (first | done | (with_reducible rfl) | (refine (if_pos ?_).trans ?_; (focus omega); with_reducible rfl) | skip)
                    (simp only [Act.put, List.setIfInBounds_toArray, List.set_cons_zero, List.set_cons_succ])
                    refine bQ_val ?_ rfl ?_ ?_
                    rotate_left
                    · intro w hS; go_simp; (first | done | (with_reducible rfl) | (refine (if_pos ?_).trans ?_; (focus omega); with_reducible rfl) | skip)
                    (simp only [Act.put, List.setIfInBounds_toArray, List.set_cons_zero, List.set_cons_succ])
                    refine bQ_guard (by exact rfl) ?_
                    refine bQ_val ?_ rfl ?_ ?_
                    rotate_left
                    · intro w hS; go_simp; (first | done | (with_reducible rfl) | (refine (if_pos ?_).trans ?_; (focus omega); with_reducible rfl) | skip)
                    (simp only [Act.put, List.setIfInBounds_toArray, List.set_cons_zero, List.set_cons_succ])
                    refine bQ_guard (by exact rfl) ?_
                    refine bQ_val ?_ rfl ?_ ?_
                    rotate_left
                    · intro w hS; go_simp; (first | done | (with_reducible rfl) | (refine (if_pos ?_).trans ?_; (focus omega); with_reducible rfl) | skip)
                    (simp only [Act.put, List.setIfInBounds_toArray, List.set_cons_zero, List.set_cons_succ])
                    refine bQ_guard (by exact rfl) ?_
                    refine bQ_val ?_ rfl ?_ ?_
                    rotate_left
                    · intro w hS; go_simp; (first | done | (with_reducible rfl) | (refine (if_pos ?_).trans ?_; (focus omega); with_reducible rfl) | skip)
                    (simp only [Act.put, List.setIfInBounds_toArray, List.set_cons_zero, List.set_cons_succ])
                    refine bQ_skip (by exact rfl) ?_
                    (simp only [Act.put, List.setIfInBounds_toArray, List.set_cons_zero, List.set_cons_succ])
                    refine bQ_skip (by exact rfl) ?_
                    (simp only [Act.put, List.setIfInBounds_toArray, List.set_cons_zero, List.set_cons_succ])
                    refine bQ_skip (by exact rfl) ?_
                    (simp only [Act.put, List.setIfInBounds_toArray, List.set_cons_zero, List.set_cons_succ])
                    refine bQ_skip (by exact rfl) ?_
                    (simp only [Act.put, List.setIfInBounds_toArray, List.set_cons_zero, List.set_cons_succ])
                    refine bQ_skip (by exact rfl) ?_
                    (simp only [Act.put, List.setIfInBounds_toArray, List.set_cons_zero, List.set_cons_succ])
                    refine bQ_skip (by exact rfl) ?_
                    (simp only [Act.put, List.setIfInBounds_toArray, List.set_cons_zero, List.set_cons_succ])
                    refine bQ_skip (by exact rfl) ?_
                    (simp only [Act.put, List.setIfInBounds_toArray, List.set_cons_zero, List.set_cons_succ])
                    refine bQ_skip (by exact rfl) ?_
                    (simp only [Act.put, List.setIfInBounds_toArray, List.set_cons_zero, List.set_cons_succ])
                    refine bQ_guard (by exact rfl) ?_
                    refine bQ_val ?_ rfl ?_ ?_
                    rotate_left
                    · intro w hS; go_simp; (first | done | (with_reducible rfl) | (refine (if_pos ?_).trans ?_; (focus omega); with_reducible rfl) | skip)
                    (simp only [Act.put, List.setIfInBounds_toArray, List.set_cons_zero, List.set_cons_succ])
                    refine bQ_val ?_ rfl ?_ ?_
                    rotate_left
                    · intro w hS; go_simp; (first | done | (with_reducible rfl) | (refine (if_pos ?_).trans ?_; (focus omega); with_reducible rfl) | skip)
                    (simp only [Act.put, List.setIfInBounds_toArray, List.set_cons_zero, List.set_cons_succ])
                    refine ⟨wpQuiet_nil ?_⟩
                    intro wx hS
                    go_wp2_with (first | ((with_reducible show WGd ..); (with_reducible apply wpA_guard); exact rfl; skip) | ((with_reducible show WLd ..); (with_reducible apply wpA_loadN (t := 30)); exact rfl; exact (row_elem EntS.cells_length (hS.at_ 2 rfl) HA.out); kernel_rfl; kernel_rfl; (try simp only [Act.put, List.setIfInBounds_toArray, List.set_cons_zero, List.set_cons_succ])) | ((with_reducible show WSt ..); (with_reducible apply wpA_storeI hS); exact rfl; (focus repeat constructor); exact rfl; exact rfl; exact rfl; exact (Nat.le_of_ble_eq_true rfl); kernel_rfl; intro wx hS; (try simp only [Act.put, List.setIfInBounds_toArray, List.set_cons_zero, List.set_cons_succ]); (try simp only [Act.eval, Array.getD_eq_getD_getElem?, List.getElem?_toArray, List.getElem?_cons_succ, List.getElem?_cons_zero, Option.getD_some, List.set_cons_succ, List.set_cons_zero, Value.cells, List.toList_toArray] at hS); (try simp only [List.take_zero, List.take_succ_cons, List.nil_append, List.cons_append, List.length_cons, List.length_nil, Nat.reduceAdd, Nat.zero_add, List.drop_succ_cons, List.drop_zero, List.drop_nil, List.append_nil] at hS)) | ((with_reducible show WLd ..); (with_reducible apply wpA_load); exact rfl; (first | ((with_reducible apply St.cellI hS); (focus repeat constructor); exact rfl) | assumption); kernel_rfl) | ((with_reducible show WSt ..); (with_reducible apply wpA_store1I hS); exact rfl; (focus repeat constructor); exact rfl; exact rfl; exact rfl; exact rfl; kernel_rfl; intro wx hS; (try simp only [Act.put, List.setIfInBounds_toArray, List.set_cons_zero, List.set_cons_succ]); (try simp only [Act.eval, Array.getD_eq_getD_getElem?, List.getElem?_toArray, List.getElem?_cons_succ, List.getElem?_cons_zero, Option.getD_some, List.set_cons_succ, List.set_cons_zero, Value.cells, List.toList_toArray] at hS)) | ((with_reducible show WBx ..); (with_reducible apply wpA_box hS); exact rfl; exact rfl; intro _ wx hS; (try simp only [Act.put, List.setIfInBounds_toArray, List.set_cons_zero, List.set_cons_succ]); (try simp only [Act.eval, Array.getD_eq_getD_getElem?, List.getElem?_toArray, List.getElem?_cons_succ, List.getElem?_cons_zero, Option.getD_some, List.set_cons_succ, List.set_cons_zero, Value.cells, List.toList_toArray] at hS)))
                    go_roundw; (case rel => exact ⟨k + 1, by omega, by go_num, by rw [HT.out, HP.out]; first | done | rfl, by rw [HT.out, HP.out]; exact hS⟩); (case measure => simp [intOf]; omega)
                  | some x =>
                    obtain ⟨xs, xb, ⟨x1, x2, x3, x4, x5⟩⟩ := x
                    by_cases c9 : xb < ab
                    · have hc9 : decide (xb < ab) = true := by simpa using c9
                      have HP := Lib.hid (show pickD (frm + (q : Int)) (some ⟨xs, xb, ⟨x1, x2, x3, x4, x5⟩⟩) ⟨frm + (q : Int), ab, ⟨a1, a2, a3, a4, a5⟩⟩ = some ⟨frm + (q : Int), ab, ⟨a1, a2, a3, a4, a5⟩⟩ by unfold pickD; rw [if_pos rfl]; simp only; rw [if_pos c9])
                      clear c9
                      go_upto_region 35 with (first | ((with_reducible show WGd ..); (with_reducible apply wpA_guard); exact rfl; skip) | ((with_reducible show WLd ..); (with_reducible apply wpA_load); exact rfl; (first | ((with_reducible apply St.cellI hS); (focus repeat constructor); exact rfl) | assumption); kernel_rfl) | ((with_reducible show WSt ..); (with_reducible apply wpA_store1I hS); exact rfl; (focus repeat constructor); exact rfl; exact rfl; exact rfl; exact rfl; kernel_rfl; intro wx hS; (try simp only [Act.put, List.setIfInBounds_toArray, List.set_cons_zero, List.set_cons_succ]); (try simp only [Act.eval, Array.getD_eq_getD_getElem?, List.getElem?_toArray, List.getElem?_cons_succ, List.getElem?_cons_zero, Option.getD_some, List.set_cons_succ, List.set_cons_zero, Value.cells, List.toList_toArray] at hS)) | ((with_reducible show WBx ..); (with_reducible apply wpA_box hS); exact rfl; exact rfl; intro _ wx hS; (try simp only [Act.put, List.setIfInBounds_toArray, List.set_cons_zero, List.set_cons_succ]); (try simp only [Act.eval, Array.getD_eq_getD_getElem?, List.getElem?_toArray, List.getElem?_cons_succ, List.getElem?_cons_zero, Option.getD_some, List.set_cons_succ, List.set_cons_zero, Value.cells, List.toList_toArray] at hS)))
                      refine wp_region_St hS (by kernel_rfl) (by kernel_rfl) (Bx.out ?_)
                      refine bQ_val ?_ rfl ?_ ?_
                      rotate_left
                      · intro w hS; go_simp; (first | done | (with_reducible rfl) | (refine (if_pos ?_).trans ?_; (focus omega); with_reducible rfl) | skip)
                      (simp only [Act.put, List.setIfInBounds_toArray, List.set_cons_zero, List.set_cons_succ])
                      refine bQ_val ?_ rfl ?_ ?_
                      rotate_left
                      · intro w hS; go_simp; (first | done | (with_reducible rfl) | (refine (if_pos ?_).trans ?_; (focus omega); with_reducible rfl) | skip)
                      (simp only [Act.put, List.setIfInBounds_toArray, List.set_cons_zero, List.set_cons_succ])
                      refine bQ_val ?_ rfl ?_ ?_
                      rotate_left
                      · intro w hS; go_simp; (first | done | (with_reducible rfl) | (refine (if_pos ?_).trans ?_; (focus omega); with_reducible rfl) | skip)
                      (simp only [Act.put, List.setIfInBounds_toArray, List.set_cons_zero, List.set_cons_succ])
                      refine bQ_val ?_ rfl ?_ ?_
                      rotate_left
                      · intro w hS; go_simp; (first | done | (with_reducible rfl) | (refine (if_pos ?_).trans ?_; (focus omega); with_reducible rfl) | skip)
                      (simp only [Act.put, List.setIfInBounds_toArray, List.set_cons_zero, List.set_cons_succ])
                      refine bQ_load rfl (fun w hS => by exact (row_elem EntS.cells_length (hS.at_ 2 rfl) HA.out) 0 _ rfl) (by kernel_rfl) ?_
                      (simp only [Act.put, List.setIfInBounds_toArray, List.set_cons_zero, List.set_cons_succ])
                      refine bQ_val ?_ rfl ?_ ?_
                      rotate_left
                      · intro w hS; go_simp; (first | done | (with_reducible rfl) | (refine (if_pos ?_).trans ?_; (focus omega); with_reducible rfl) | skip)
                      (simp only [Act.put, List.setIfInBounds_toArray, List.set_cons_zero, List.set_cons_succ])
                      refine bQ_val ?_ rfl ?_ ?_
                      rotate_left
                      · intro w hS; go_simp; (first | done | (with_reducible rfl) | (refine (if_pos ?_).trans ?_; (focus omega); with_reducible rfl) | skip)
                      (simp only [Act.put, List.setIfInBounds_toArray, List.set_cons_zero, List.set_cons_succ])
                      refine bQ_val ?_ rfl ?_ ?_
                      rotate_left
                      · intro w hS; go_simp; (first | done | (with_reducible rfl) | (refine (if_pos ?_).trans ?_; (focus omega); with_reducible rfl) | skip)
                      (simp only [Act.put, List.setIfInBounds_toArray, List.set_cons_zero, List.set_cons_succ])
                      refine bQ_val ?_ rfl ?_ ?_
                      rotate_left
                      · intro w hS; go_simp; (first | done | (with_reducible rfl) | (refine (if_pos ?_).trans ?_; (focus omega); with_reducible rfl) | skip)
                      (simp only [Act.put, List.setIfInBounds_toArray, List.set_cons_zero, List.set_cons_succ])
                      refine bQ_load rfl (fun w hS => by exact (row_elem EntS.cells_length (hS.at_ 1 rfl) HQ.out) 0 _ rfl) (by kernel_rfl) ?_
                      (simp only [Act.put, List.setIfInBounds_toArray, List.set_cons_zero, List.set_cons_succ])
                      refine bQ_val ?_ rfl ?_ ?_
                      rotate_left
                      · intro w hS; go_simp; (first | done | (with_reducible rfl) | (refine (if_pos ?_).trans ?_; (focus omega); with_reducible rfl) | skip)
                      (simp only [Act.put, List.setIfInBounds_toArray, List.set_cons_zero, List.set_cons_succ])
                      refine bQ_val ?_ rfl ?_ ?_
                      rotate_left
                      · intro w hS; go_simp; (first | done | (with_reducible rfl) | (refine (if_pos ?_).trans ?_; (focus omega); with_reducible rfl) | skip)
                      (simp only [Act.put, List.setIfInBounds_toArray, List.set_cons_zero, List.set_cons_succ])
                      refine bQ_guard (by exact rfl) ?_
                      refine bQ_val ?_ rfl ?_ ?_
                      rotate_left
                      · intro w hS; go_simp; (first | done | (with_reducible rfl) | (refine (if_pos ?_).trans ?_; (focus omega); with_reducible rfl) | skip)
                      (simp only [Act.put, List.setIfInBounds_toArray, List.set_cons_zero, List.set_cons_succ])
                      refine bQ_guard (by exact rfl) ?_
                      refine bQ_val ?_ rfl ?_ ?_
                      rotate_left
                      · intro w hS; go_simp; (first | done | (with_reducible rfl) | (refine (if_pos ?_).trans ?_; (focus omega); with_reducible rfl) | skip)
                      (simp only [Act.put, List.setIfInBounds_toArray, List.set_cons_zero, List.set_cons_succ])
                      refine bQ_guard (by exact rfl) ?_
                      refine bQ_val ?_ rfl ?_ ?_
                      rotate_left
                      · intro w hS; go_simp; (first | done | (with_reducible rfl) | (refine (if_pos ?_).trans ?_; (focus omega); with_reducible rfl) | skip)
                      (simp only [Act.put, List.setIfInBounds_toArray, List.set_cons_zero, List.set_cons_succ])
                      refine bQ_guard (by exact rfl) ?_
                      refine bQ_val ?_ rfl ?_ ?_
                      rotate_left
                      · intro w hS; go_simp; (first | done | (with_reducible rfl) | (refine (if_pos ?_).trans ?_; (focus omega); with_reducible rfl) | skip)
                      (simp only [Act.put, List.setIfInBounds_toArray, List.set_cons_zero, List.set_cons_succ])
                      refine bQ_guard (by exact rfl) ?_
                      refine bQ_val ?_ rfl ?_ ?_
                      rotate_left
                      · intro w hS; go_simp; (first | done | (with_reducible rfl) | (refine (if_pos ?_).trans ?_; (focus omega); with_reducible rfl) | skip)
                      (simp only [Act.put, List.setIfInBounds_toArray, List.set_cons_zero, List.set_cons_succ])
                      refine bQ_guard (by exact rfl) ?_
                      refine bQ_val ?_ rfl ?_ ?_
                      rotate_left
                      · intro w hS; go_simp; (first | done | (with_reducible rfl) | (refine (if_pos ?_).trans ?_; (focus omega); with_reducible rfl) | skip)
                      (simp only [Act.put, List.setIfInBounds_toArray, List.set_cons_zero, List.set_cons_succ])
                      refine bQ_guard (by exact rfl) ?_
                      refine bQ_val ?_ rfl ?_ ?_
                      rotate_left
                      · intro w hS; go_simp; (first | done | (with_reducible rfl) | (refine (if_pos ?_).trans ?_; (focus omega); with_reducible rfl) | skip)
                      (simp only [Act.put, List.setIfInBounds_toArray, List.set_cons_zero, List.set_cons_succ])
                      refine bQ_guard (by exact rfl) ?_
                      refine bQ_load rfl (fun w hS => by exact (row_elem EntS.cells_length (hS.at_ 2 rfl) HA.out) 1 _ rfl) (by kernel_rfl) ?_
                      (simp only [Act.put, List.setIfInBounds_toArray, List.set_cons_zero, List.set_cons_succ])
                      refine bQ_guard (by exact rfl) ?_
                      refine bQ_val ?_ rfl ?_ ?_
                      rotate_left
                      · intro w hS; go_simp; (first | done | (with_reducible rfl) | (refine (if_pos ?_).trans ?_; (focus omega); with_reducible rfl) | skip)
                      (simp only [Act.put, List.setIfInBounds_toArray, List.set_cons_zero, List.set_cons_succ])
                      refine bQ_guard (by exact rfl) ?_
                      refine bQ_load rfl (fun w hS => by exact hS.cell 0 rfl 1 rfl) (by kernel_rfl) ?_
                      (simp only [Act.put, List.setIfInBounds_toArray, List.set_cons_zero, List.set_cons_succ])
                      refine bQ_guard (by exact rfl) ?_
                      refine bQ_val ?_ rfl ?_ ?_
                      rotate_left
                      · intro w hS; go_simp; (first | done | (with_reducible rfl) | (refine (if_pos ?_).trans ?_; (focus omega); with_reducible rfl) | skip)
                      (simp only [Act.put, List.setIfInBounds_toArray, List.set_cons_zero, List.set_cons_succ])
                      refine bQ_guard (by exact rfl) ?_
                      refine bQ_val ?_ rfl ?_ ?_
                      rotate_left
                      · intro w hS; go_simp; (first | done | (with_reducible rfl) | (refine (if_pos ?_).trans ?_; (focus omega); with_reducible rfl) | skip)
                      (simp only [Act.put, List.setIfInBounds_toArray, List.set_cons_zero, List.set_cons_succ])
                      refine bQ_val ?_ rfl ?_ ?_
                      rotate_left
                      · intro w hS; go_simp; (first | done | (with_reducible rfl) | (refine (if_pos ?_).trans ?_; (focus omega); with_reducible rfl) | skip)
                      (simp only [Act.put, List.setIfInBounds_toArray, List.set_cons_zero, List.set_cons_succ])
                      refine ⟨wpQuiet_nil ?_⟩
                      intro wx hS
                      go_wp2_with (first | ((with_reducible show WGd ..); (with_reducible apply wpA_guard); exact rfl; skip) | ((with_reducible show WLd ..); (with_reducible apply wpA_loadN (t := 30)); exact rfl; exact (row_elem EntS.cells_length (hS.at_ 2 rfl) HA.out); kernel_rfl; kernel_rfl; (try simp only [Act.put, List.setIfInBounds_toArray, List.set_cons_zero, List.set_cons_succ])) | ((with_reducible show WSt ..); (with_reducible apply wpA_storeI hS); exact rfl; (focus repeat constructor); exact rfl; exact rfl; exact rfl; exact (Nat.le_of_ble_eq_true rfl); kernel_rfl; intro wx hS; (try simp only [Act.put, List.setIfInBounds_toArray, List.set_cons_zero, List.set_cons_succ]); (try simp only [Act.eval, Array.getD_eq_getD_getElem?, List.getElem?_toArray, List.getElem?_cons_succ, List.getElem?_cons_zero, Option.getD_some, List.set_cons_succ, List.set_cons_zero, Value.cells, List.toList_toArray] at hS); (try simp only [List.take_zero, List.take_succ_cons, List.nil_append, List.cons_append, List.length_cons, List.length_nil, Nat.reduceAdd, Nat.zero_add, List.drop_succ_cons, List.drop_zero, List.drop_nil, List.append_nil] at hS)) | ((with_reducible show WLd ..); (with_reducible apply wpA_load); exact rfl; (first | ((with_reducible apply St.cellI hS); (focus repeat constructor); exact rfl) | assumption); kernel_rfl) | ((with_reducible show WSt ..); (with_reducible apply wpA_store1I hS); exact rfl; (focus repeat constructor); exact rfl; exact rfl; exact rfl; exact rfl; kernel_rfl; intro wx hS; (try simp only [Act.put, List.setIfInBounds_toArray, List.set_cons_zero, List.set_cons_succ]); (try simp only [Act.eval, Array.getD_eq_getD_getElem?, List.getElem?_toArray, List.getElem?_cons_succ, List.getElem?_cons_zero, Option.getD_some, List.set_cons_succ, List.set_cons_zero, Value.cells, List.toList_toArray] at hS)) | ((with_reducible show WBx ..); (with_reducible apply wpA_box hS); exact rfl; exact rfl; intro _ wx hS; (try simp only [Act.put, List.setIfInBounds_toArray, List.set_cons_zero, List.set_cons_succ]); (try simp only [Act.eval, Array.getD_eq_getD_getElem?, List.getElem?_toArray, List.getElem?_cons_succ, List.getElem?_cons_zero, Option.getD_some, List.set_cons_succ, List.set_cons_zero, Value.cells, List.toList_toArray] at hS)))
                      go_roundw; (case rel => exact ⟨k + 1, by omega, by go_num, by rw [HT.out, HP.out]; first | done | rfl, by rw [HT.out, HP.out]; exact hS⟩); (case measure => simp [intOf]; omega)
                    · have hc9 : decide (xb < ab) = false := by simpa using c9
                      have HP := Lib.hid (show pickD (frm + (q : Int)) (some ⟨xs, xb, ⟨x1, x2, x3, x4, x5⟩⟩) ⟨frm + (q : Int), ab, ⟨a1, a2, a3, a4, a5⟩⟩ = some ⟨xs, xb, ⟨x1, x2, x3, x4, x5⟩⟩ by unfold pickD; rw [if_pos rfl]; simp only; rw [if_neg c9])
                      clear c9
                      go_upto_region 35 with (first | ((with_reducible show WGd ..); (with_reducible apply wpA_guard); exact rfl; skip) | ((with_reducible show WLd ..); (with_reducible apply wpA_load); exact rfl; (first | ((with_reducible apply St.cellI hS); (focus repeat constructor); exact rfl) | assumption); kernel_rfl) | ((with_reducible show WSt ..); (with_reducible apply wpA_store1I hS); exact rfl; (focus repeat constructor); exact rfl; exact rfl; exact rfl; exact rfl; kernel_rfl; intro wx hS; (try simp only [Act.put, List.setIfInBounds_toArray, List.set_cons_zero, List.set_cons_succ]); (try simp only [Act.eval, Array.getD_eq_getD_getElem?, List.getElem?_toArray, List.getElem?_cons_succ, List.getElem?_cons_zero, Option.getD_some, List.set_cons_succ, List.set_cons_zero, Value.cells, List.toList_toArray] at hS)) | ((with_reducible show WBx ..); (with_reducible apply wpA_box hS); exact rfl; exact rfl; intro _ wx hS; (try simp only [Act.put, List.setIfInBounds_toArray, List.set_cons_zero, List.set_cons_succ]); (try simp only [Act.eval, Array.getD_eq_getD_getElem?, List.getElem?_toArray, List.getElem?_cons_succ, List.getElem?_cons_zero, Option.getD_some, List.set_cons_succ, List.set_cons_zero, Value.cells, List.toList_toArray] at hS)))
                      refine wp_region_St hS (by kernel_rfl) (by kernel_rfl) (Bx.out ?_)
                      refine bQ_val ?_ rfl ?_ ?_
                      rotate_left
                      · intro w hS; go_simp; (first | done | (with_reducible rfl) | (refine (if_pos ?_).trans ?_; (focus omega); with_reducible rfl) | skip)
                      (simp only [Act.put, List.setIfInBounds_toArray, List.set_cons_zero, List.set_cons_succ])
                      refine bQ_val ?_ rfl ?_ ?_
                      rotate_left
                      · intro w hS; go_simp; (first | done | (with_reducible rfl) | (refine (if_pos ?_).trans ?_; (focus omega); with_reducible rfl) | skip)
                      (simp only [Act.put, List.setIfInBounds_toArray, List.set_cons_zero, List.set_cons_succ])
                      refine bQ_val ?_ rfl ?_ ?_
                      rotate_left
                      · intro w hS; go_simp; (first | done | (with_reducible rfl) | (refine (if_pos ?_).trans ?_; (focus omega); with_reducible rfl) | skip)
                      (simp only [Act.put, List.setIfInBounds_toArray, List.set_cons_zero, List.set_cons_succ])
                      refine bQ_val ?_ rfl ?_ ?_
                      rotate_left
                      · intro w hS; go_simp; (first | done | (with_reducible rfl) | (refine (if_pos ?_).trans ?_; (focus omega); with_reducible rfl) | skip)
                      (simp only [Act.put, List.setIfInBounds_toArray, List.set_cons_zero, List.set_cons_succ])
                      refine bQ_load rfl (fun w hS => by exact (row_elem EntS.cells_length (hS.at_ 2 rfl) HA.out) 0 _ rfl) (by kernel_rfl) ?_
                      (simp only [Act.put, List.setIfInBounds_toArray, List.set_cons_zero, List.set_cons_succ])
                      refine bQ_val ?_ rfl ?_ ?_
                      rotate_left
                      · intro w hS; go_simp; (first | done | (with_reducible rfl) | (refine (if_pos ?_).trans ?_; (focus omega); with_reducible rfl) | skip)
                      (simp only [Act.put, List.setIfInBounds_toArray, List.set_cons_zero, List.set_cons_succ])
                      refine bQ_val ?_ rfl ?_ ?_
                      rotate_left
                      · intro w hS; go_simp; (first | done | (with_reducible rfl) | (refine (if_pos ?_).trans ?_; (focus omega); with_reducible rfl) | skip)
                      (simp only [Act.put, List.setIfInBounds_toArray, List.set_cons_zero, List.set_cons_succ])
                      refine bQ_val ?_ rfl ?_ ?_
                      rotate_left
                      · intro w hS; go_simp; (first | done | (with_reducible rfl) | (refine (if_pos ?_).trans ?_; (focus omega); with_reducible rfl) | skip)
                      (simp only [Act.put, List.setIfInBounds_toArray, List.set_cons_zero, List.set_cons_succ])
                      refine bQ_val ?_ rfl ?_ ?_
                      rotate_left
                      · intro w hS; go_simp; (first | done | (with_reducible rfl) | (refine (if_pos ?_).trans ?_; (focus omega); with_reducible rfl) | skip)
                      (simp only [Act.put, List.setIfInBounds_toArray, List.set_cons_zero, List.set_cons_succ])
                      refine bQ_load rfl (fun w hS => by exact (row_elem EntS.cells_length (hS.at_ 1 rfl) HQ.out) 0 _ rfl) (by kernel_rfl) ?_
                      (simp only [Act.put, List.setIfInBounds_toArray, List.set_cons_zero, List.set_cons_succ])
                      refine bQ_val ?_ rfl ?_ ?_
                      rotate_left
                      · intro w hS; go_simp; (first | done | (with_reducible rfl) | (refine (if_pos ?_).trans ?_; (focus omega); with_reducible rfl) | skip)
                      (simp only [Act.put, List.setIfInBounds_toArray, List.set_cons_zero, List.set_cons_succ])
                      refine bQ_val ?_ rfl ?_ ?_
                      rotate_left
                      · intro w hS; go_simp; (first | done | (with_reducible rfl) | (refine (if_pos ?_).trans ?_; (focus omega); with_reducible rfl) | skip)
                      (simp only [Act.put, List.setIfInBounds_toArray, List.set_cons_zero, List.set_cons_succ])
                      refine bQ_guard (by exact rfl) ?_
                      refine bQ_val ?_ rfl ?_ ?_
                      rotate_left
                      · intro w hS; go_simp; (first | done | (with_reducible rfl) | (refine (if_pos ?_).trans ?_; (focus omega); with_reducible rfl) | skip)
                      (simp only [Act.put, List.setIfInBounds_toArray, List.set_cons_zero, List.set_cons_succ])
                      refine bQ_guard (by exact rfl) ?_
                      refine bQ_val ?_ rfl ?_ ?_
                      rotate_left
                      · intro w hS; go_simp; (first | done | (with_reducible rfl) | (refine (if_pos ?_).trans ?_; (focus omega); with_reducible rfl) | skip)
                      (simp only [Act.put, List.setIfInBounds_toArray, List.set_cons_zero, List.set_cons_succ])
                      refine bQ_guard (by exact rfl) ?_
                      refine bQ_val ?_ rfl ?_ ?_
                      rotate_left
                      · intro w hS; go_simp; (first | done | (with_reducible rfl) | (refine (if_pos ?_).trans ?_; (focus omega); with_reducible rfl) | skip)
                      (simp only [Act.put, List.setIfInBounds_toArray, List.set_cons_zero, List.set_cons_succ])
                      refine bQ_guard (by exact rfl) ?_
                      refine bQ_val ?_ rfl ?_ ?_
                      rotate_left
                      · intro w hS; go_simp; (first | done | (with_reducible rfl) | (refine (if_pos ?_).trans ?_; (focus omega); with_reducible rfl) | skip)
                      (simp only [Act.put, List.setIfInBounds_toArray, List.set_cons_zero, List.set_cons_succ])
                      refine bQ_guard (by exact rfl) ?_
                      refine bQ_val ?_ rfl ?_ ?_
                      rotate_left
                      · intro w hS; go_simp; (first | done | (with_reducible rfl) | (refine (if_pos ?_).trans ?_; (focus omega); with_reducible rfl) | skip)
                      (simp only [Act.put, List.setIfInBounds_toArray, List.set_cons_zero, List.set_cons_succ])
                      refine bQ_guard (by exact rfl) ?_
                      refine bQ_val ?_ rfl ?_ ?_
                      rotate_left
                      · intro w hS; go_simp; (first | done | (with_reducible rfl) | (refine (if_pos ?_).trans ?_; (focus omega); with_reducible rfl) | skip)
                      (simp only [Act.put, List.setIfInBounds_toArray, List.set_cons_zero, List.set_cons_succ])
                      refine bQ_guard (by exact rfl) ?_
                      refine bQ_val ?_ rfl ?_ ?_
                      rotate_left
                      · intro w hS; go_simp; (first | done | (with_reducible rfl) | (refine (if_pos ?_).trans ?_; (focus omega); with_reducible rfl) | skip)
                      (simp only [Act.put, List.setIfInBounds_toArray, List.set_cons_zero, List.set_cons_succ])
                      refine bQ_guard (by exact rfl) ?_
                      refine bQ_load rfl (fun w hS => by exact (row_elem EntS.cells_length (hS.at_ 2 rfl) HA.out) 1 _ rfl) (by kernel_rfl) ?_
                      (simp only [Act.put, List.setIfInBounds_toArray, List.set_cons_zero, List.set_cons_succ])
                      refine bQ_guard (by exact rfl) ?_
                      refine bQ_val ?_ rfl ?_ ?_
                      rotate_left
                      · intro w hS; go_simp; (first | done | (with_reducible rfl) | (refine (if_pos ?_).trans ?_; (focus omega); with_reducible rfl) | skip)
                      (simp only [Act.put, List.setIfInBounds_toArray, List.set_cons_zero, List.set_cons_succ])
                      refine bQ_guard (by exact rfl) ?_
                      refine bQ_load rfl (fun w hS => by exact hS.cell 0 rfl 1 rfl) (by kernel_rfl) ?_
                      (simp only [Act.put, List.setIfInBounds_toArray, List.set_cons_zero, List.set_cons_succ])
                      refine bQ_guard (by exact rfl) ?_
                      refine bQ_val ?_ rfl ?_ ?_
                      rotate_left
                      · intro w hS; go_simp; (first | done | (with_reducible rfl) | (refine (if_pos ?_).trans ?_; (focus omega); with_reducible rfl) | skip)
                      (simp only [Act.put, List.setIfInBounds_toArray, List.set_cons_zero, List.set_cons_succ])
                      refine bQ_guard (by exact rfl) ?_
                      refine bQ_val ?_ rfl ?_ ?_
                      rotate_left
                      · intro w hS; go_simp; (first | done | (with_reducible rfl) | (refine (if_pos ?_).trans ?_; (focus omega); with_reducible rfl) | skip)
                      (simp only [Act.put, List.setIfInBounds_toArray, List.set_cons_zero, List.set_cons_succ])
                      refine bQ_val ?_ rfl ?_ ?_
                      rotate_left
                      · intro w hS; go_simp; (first | done | (with_reducible rfl) | (refine (if_pos ?_).trans ?_; (focus omega); with_reducible rfl) | skip)
                      (simp only [Act.put, List.setIfInBounds_toArray, List.set_cons_zero, List.set_cons_succ])
                      refine ⟨wpQuiet_nil ?_⟩
                      intro wx hS
                      go_wp2_with (first | ((with_reducible show WGd ..); (with_reducible apply wpA_guard); exact rfl; skip) | ((with_reducible show WLd ..); (with_reducible apply wpA_loadN (t := 30)); exact rfl; exact (row_elem EntS.cells_length (hS.at_ 2 rfl) HA.out); kernel_rfl; kernel_rfl; (try simp only [Act.put, List.setIfInBounds_toArray, List.set_cons_zero, List.set_cons_succ])) | ((with_reducible show WSt ..); (with_reducible apply wpA_storeI hS); exact rfl; (focus repeat constructor); exact rfl; exact rfl; exact rfl; exact (Nat.le_of_ble_eq_true rfl); kernel_rfl; intro wx hS; (try simp only [Act.put, List.setIfInBounds_toArray, List.set_cons_zero, List.set_cons_succ]); (try simp only [Act.eval, Array.getD_eq_getD_getElem?, List.getElem?_toArray, List.getElem?_cons_succ, List.getElem?_cons_zero, Option.getD_some, List.set_cons_succ, List.set_cons_zero, Value.cells, List.toList_toArray] at hS); (try simp only [List.take_zero, List.take_succ_cons, List.nil_append, List.cons_append, List.length_cons, List.length_nil, Nat.reduceAdd, Nat.zero_add, List.drop_succ_cons, List.drop_zero, List.drop_nil, List.append_nil] at hS)) | ((with_reducible show WLd ..); (with_reducible apply wpA_load); exact rfl; (first | ((with_reducible apply St.cellI hS); (focus repeat constructor); exact rfl) | assumption); kernel_rfl) | ((with_reducible show WSt ..); (with_reducible apply wpA_store1I hS); exact rfl; (focus repeat constructor); exact rfl; exact rfl; exact rfl; exact rfl; kernel_rfl; intro wx hS; (try simp only [Act.put, List.setIfInBounds_toArray, List.set_cons_zero, List.set_cons_succ]); (try simp only [Act.eval, Array.getD_eq_getD_getElem?, List.getElem?_toArray, List.getElem?_cons_succ, List.getElem?_cons_zero, Option.getD_some, List.set_cons_succ, List.set_cons_zero, Value.cells, List.toList_toArray] at hS)) | ((with_reducible show WBx ..); (with_reducible apply wpA_box hS); exact rfl; exact rfl; intro _ wx hS; (try simp only [Act.put, List.setIfInBounds_toArray, List.set_cons_zero, List.set_cons_succ]); (try simp only [Act.eval, Array.getD_eq_getD_getElem?, List.getElem?_toArray, List.getElem?_cons_succ, List.getElem?_cons_zero, Option.getD_some, List.set_cons_succ, List.set_cons_zero, Value.cells, List.toList_toArray] at hS)))
                      go_roundw; (case rel => exact ⟨k + 1, by omega, by go_num, by rw [HT.out, HP.out]; first | done | rfl, by rw [HT.out, HP.out]; exact hS⟩); (case measure => simp [intOf]; omega)
                · have hc8 : (as_ == frm + (q : Int)) = false := by simpa using c8
                  have HP := Lib.hid (show pickD (frm + (q : Int)) B ⟨as_, ab, ⟨a1, a2, a3, a4, a5⟩⟩ = B by unfold pickD; rw [if_neg c8])
                  clear c8
                  go_upto_region 35 with (first | ((with_reducible show WGd ..); (with_reducible apply wpA_guard); exact rfl; skip) | ((with_reducible show WLd ..); (with_reducible apply wpA_load); exact rfl; (first | ((with_reducible apply St.cellI hS); (focus repeat constructor); exact rfl) | assumption); kernel_rfl) | ((with_reducible show WSt ..); (with_reducible apply wpA_store1I hS); exact rfl; (focus repeat constructor); exact rfl; exact rfl; exact rfl; exact rfl; kernel_rfl; intro wx hS; (try simp only [Act.put, List.setIfInBounds_toArray, List.set_cons_zero, List.set_cons_succ]); (try simp only [Act.eval, Array.getD_eq_getD_getElem?, List.getElem?_toArray, List.getElem?_cons_succ, List.getElem?_cons_zero, Option.getD_some, List.set_cons_succ, List.set_cons_zero, Value.cells, List.toList_toArray] at hS)) | ((with_reducible show WBx ..); (with_reducible apply wpA_box hS); exact rfl; exact rfl; intro _ wx hS; (try simp only [Act.put, List.setIfInBounds_toArray, List.set_cons_zero, List.set_cons_succ]); (try simp only [Act.eval, Array.getD_eq_getD_getElem?, List.getElem?_toArray, List.getElem?_cons_succ, List.getElem?_cons_zero, Option.getD_some, List.set_cons_succ, List.set_cons_zero, Value.cells, List.toList_toArray] at hS)))
                  refine wp_region_St hS (by kernel_rfl) (by kernel_rfl) (Bx.out ?_)
                  refine bQ_val ?_ rfl ?_ ?_
                  rotate_left
                  · intro w hS; go_simp; (first | done | (with_reducible rfl) | (refine (if_pos ?_).trans ?_; (focus omega); with_reducible rfl) | skip)
                  (simp only [Act.put, List.setIfInBounds_toArray, List.set_cons_zero, List.set_cons_succ])
                  refine bQ_val ?_ rfl ?_ ?_
                  rotate_left
                  · intro w hS; go_simp; (first | done | (with_reducible rfl) | (refine (if_pos ?_).trans ?_; (focus omega); with_reducible rfl) | skip)
                  (simp only [Act.put, List.setIfInBounds_toArray, List.set_cons_zero, List.set_cons_succ])
                  refine bQ_val ?_ rfl ?_ ?_
                  rotate_left
                  · intro w hS; go_simp; (first | done | (with_reducible rfl) | (refine (if_pos ?_).trans ?_; (focus omega); with_reducible rfl) | skip)
                  (simp only [Act.put, List.setIfInBounds_toArray, List.set_cons_zero, List.set_cons_succ])
                  refine bQ_val ?_ rfl ?_ ?_
                  rotate_left
                  · intro w hS; go_simp; (first | done | (with_reducible rfl) | (refine (if_pos ?_).trans ?_; (focus omega); with_reducible rfl) | skip)
                  (simp only [Act.put, List.setIfInBounds_toArray, List.set_cons_zero, List.set_cons_succ])
                  refine bQ_load rfl (fun w hS => by exact (row_elem EntS.cells_length (hS.at_ 2 rfl) HA.out) 0 _ rfl) (by kernel_rfl) ?_
                  (simp only [Act.put, List.setIfInBounds_toArray, List.set_cons_zero, List.set_cons_succ])
                  refine bQ_val ?_ rfl ?_ ?_
                  rotate_left
                  · intro w hS; go_simp; (first | done | (with_reducible rfl) | (refine (if_pos ?_).trans ?_; (focus omega); with_reducible rfl) | skip)
                  (simp only [Act.put, List.setIfInBounds_toArray, List.set_cons_zero, List.set_cons_succ])
                  refine bQ_val ?_ rfl ?_ ?_
                  rotate_left
                  · intro w hS; go_simp; (first | done | (with_reducible rfl) | (refine (if_pos ?_).trans ?_; (focus omega); with_reducible rfl) | skip)
                  (simp only [Act.put, List.setIfInBounds_toArray, List.set_cons_zero, List.set_cons_succ])
                  refine bQ_val ?_ rfl ?_ ?_
                  rotate_left
                  · intro w hS; go_simp; (first | done | (with_reducible rfl) | (refine (if_pos ?_).trans ?_; (focus omega); with_reducible rfl) | skip)
                  (simp only [Act.put, List.setIfInBounds_toArray, List.set_cons_zero, List.set_cons_succ])
                  refine bQ_val ?_ rfl ?_ ?_
                  rotate_left
                  · intro w hS; go_simp; (first | done | (with_reducible rfl) | (refine (if_pos ?_).trans ?_; (focus omega); with_reducible rfl) | skip)
                  (simp only [Act.put, List.setIfInBounds_toArray, List.set_cons_zero, List.set_cons_succ])
                  refine bQ_load rfl (fun w hS => by exact (row_elem EntS.cells_length (hS.at_ 1 rfl) HQ.out) 0 _ rfl) (by kernel_rfl) ?_
                  (simp only [Act.put, List.setIfInBounds_toArray, List.set_cons_zero, List.set_cons_succ])
                  refine bQ_val ?_ rfl ?_ ?_
                  rotate_left
                  · intro w hS; go_simp; (first | done | (with_reducible rfl) | (refine (if_pos ?_).trans ?_; (focus omega); with_reducible rfl) | skip)
                  (simp only [Act.put, List.setIfInBounds_toArray, List.set_cons_zero, List.set_cons_succ])
                  refine bQ_val ?_ rfl ?_ ?_
                  rotate_left
                  · intro w hS; go_simp; (first | done | (with_reducible rfl) | (refine (if_pos ?_).trans ?_; (focus omega); with_reducible rfl) | skip)
                  (simp only [Act.put, List.setIfInBounds_toArray, List.set_cons_zero, List.set_cons_succ])
                  refine bQ_skip (by exact rfl) ?_
                  (simp only [Act.put, List.setIfInBounds_toArray, List.set_cons_zero, List.set_cons_succ])
                  refine bQ_skip (by exact rfl) ?_
                  (simp only [Act.put, List.setIfInBounds_toArray, List.set_cons_zero, List.set_cons_succ])
                  refine bQ_skip (by exact rfl) ?_
                  (simp only [Act.put, List.setIfInBounds_toArray, List.set_cons_zero, List.set_cons_succ])
                  refine bQ_skip (by exact rfl) ?_
                  (simp only [Act.put, List.setIfInBounds_toArray, List.set_cons_zero, List.set_cons_succ])
                  refine bQ_skip (by exact rfl) ?_
                  (simp only [Act.put, List.setIfInBounds_toArray, List.set_cons_zero, List.set_cons_succ])
                  refine bQ_skip (by exact rfl) ?_
                  (simp only [Act.put, List.setIfInBounds_toArray, List.set_cons_zero, List.set_cons_succ])
                  refine bQ_skip (by exact rfl) ?_
                  (simp only [Act.put, List.setIfInBounds_toArray, List.set_cons_zero, List.set_cons_succ])
                  refine bQ_skip (by exact rfl) ?_
                  (simp only [Act.put, List.setIfInBounds_toArray, List.set_cons_zero, List.set_cons_succ])
                  refine bQ_skip (by exact rfl) ?_
                  (simp only [Act.put, List.setIfInBounds_toArray, List.set_cons_zero, List.set_cons_succ])
                  refine bQ_skip (by exact rfl) ?_
                  (simp only [Act.put, List.setIfInBounds_toArray, List.set_cons_zero, List.set_cons_succ])
                  refine bQ_skip (by exact rfl) ?_
                  (simp only [Act.put, List.setIfInBounds_toArray, List.set_cons_zero, List.set_cons_succ])
                  refine bQ_skip (by exact rfl) ?_
                  (simp only [Act.put, List.setIfInBounds_toArray, List.set_cons_zero, List.set_cons_succ])
                  refine bQ_val ?_ rfl ?_ ?_
                  rotate_left
                  · intro w hS; go_simp; (first | done | (with_reducible rfl) | (refine (if_pos ?_).trans ?_; (focus omega); with_reducible rfl) | skip)
                  (simp only [Act.put, List.setIfInBounds_toArray, List.set_cons_zero, List.set_cons_succ])
                  refine ⟨wpQuiet_nil ?_⟩
                  intro wx hS
                  go_wp2_with (first | ((with_reducible show WGd ..); (with_reducible apply wpA_guard); exact rfl; skip) | ((with_reducible show WLd ..); (with_reducible apply wpA_loadN (t := 30)); exact rfl; exact (row_elem EntS.cells_length (hS.at_ 2 rfl) HA.out); kernel_rfl; kernel_rfl; (try simp only [Act.put, List.setIfInBounds_toArray, List.set_cons_zero, List.set_cons_succ])) | ((with_reducible show WSt ..); (with_reducible apply wpA_storeI hS); exact rfl; (focus repeat constructor); exact rfl; exact rfl; exact rfl; exact (Nat.le_of_ble_eq_true rfl); kernel_rfl; intro wx hS; (try simp only [Act.put, List.setIfInBounds_toArray, List.set_cons_zero, List.set_cons_succ]); (try simp only [Act.eval, Array.getD_eq_getD_getElem?, List.getElem?_toArray, List.getElem?_cons_succ, List.getElem?_cons_zero, Option.getD_some, List.set_cons_succ, List.set_cons_zero, Value.cells, List.toList_toArray] at hS); (try simp only [List.take_zero, List.take_succ_cons, List.nil_append, List.cons_append, List.length_cons, List.length_nil, Nat.reduceAdd, Nat.zero_add, List.drop_succ_cons, List.drop_zero, List.drop_nil, List.append_nil] at hS)) | ((with_reducible show WLd ..); (with_reducible apply wpA_load); exact rfl; (first | ((with_reducible apply St.cellI hS); (focus repeat constructor); exact rfl) | assumption); kernel_rfl) | ((with_reducible show WSt ..); (with_reducible apply wpA_store1I hS); exact rfl; (focus repeat constructor); exact rfl; exact rfl; exact rfl; exact rfl; kernel_rfl; intro wx hS; (try simp only [Act.put, List.setIfInBounds_toArray, List.set_cons_zero, List.set_cons_succ]); (try simp only [Act.eval, Array.getD_eq_getD_getElem?, List.getElem?_toArray, List.getElem?_cons_succ, List.getElem?_cons_zero, Option.getD_some, List.set_cons_succ, List.set_cons_zero, Value.cells, List.toList_toArray] at hS)) | ((with_reducible show WBx ..); (with_reducible apply wpA_box hS); exact rfl; exact rfl; intro _ wx hS; (try simp only [Act.put, List.setIfInBounds_toArray, List.set_cons_zero, List.set_cons_succ]); (try simp only [Act.eval, Array.getD_eq_getD_getElem?, List.getElem?_toArray, List.getElem?_cons_succ, List.getElem?_cons_zero, Option.getD_some, List.set_cons_succ, List.set_cons_zero, Value.cells, List.toList_toArray] at hS)))
                  go_roundw; (case rel => exact ⟨k + 1, by omega, by go_num, by rw [HT.out, HP.out]; first | done | rfl, by rw [HT.out, HP.out]; exact hS⟩); (case measure => simp [intOf]; omega)
              · obtain rfl : k = all.length := by omega
                rw [List.take_length] at hS ⊢
                go_wp2_with (first | ((with_reducible show WGd ..); (with_reducible apply wpA_guard); exact rfl; skip) | ((with_reducible show WLd ..); (with_reducible apply wpA_load); exact rfl; (first | ((with_reducible apply St.cellI hS); (focus repeat constructor); exact rfl) | assumption); kernel_rfl) | ((with_reducible show WSt ..); (with_reducible apply wpA_store1I hS); exact rfl; (focus repeat constructor); exact rfl; exact rfl; exact rfl; exact rfl; kernel_rfl; intro wx hS; (try simp only [Act.put, List.setIfInBounds_toArray, List.set_cons_zero, List.set_cons_succ]); (try simp only [Act.eval, Array.getD_eq_getD_getElem?, List.getElem?_toArray, List.getElem?_cons_succ, List.getElem?_cons_zero, Option.getD_some, List.set_cons_succ, List.set_cons_zero, Value.cells, List.toList_toArray] at hS)) | ((with_reducible show WBx ..); (with_reducible apply wpA_box hS); exact rfl; exact rfl; intro _ wx hS; (try simp only [Act.put, List.setIfInBounds_toArray, List.set_cons_zero, List.set_cons_succ]); (try simp only [Act.eval, Array.getD_eq_getD_getElem?, List.getElem?_toArray, List.getElem?_cons_succ, List.getElem?_cons_zero, Option.getD_some, List.set_cons_succ, List.set_cons_zero, Value.cells, List.toList_toArray] at hS)))
                go_meet
                exact ⟨rfl, hS⟩
          case rest =>
            clear hS
            obtain ⟨rfl, hS⟩ := hcut
            have hwL : IntKind.i64.wrap ((L.length : Int) - 1) = (L.length : Int) - 1 := by rw [IntKind.wrap_i64]; omega
            by_cases c10 : q + 1 < L.length
            · have hcmd := HV3.out c10
              obtain ⟨E, hE⟩ : ∃ E, (scanD (frm + (q : Int)) all).getD ent0 = E := ⟨_, rfl⟩
              obtain ⟨T, hT⟩ : ∃ T, (scanD (frm + (q : Int)) all).isSome = T := ⟨_, rfl⟩
              rw [hE] at hS hcmd
              rw [hT]
              have HEE := Lib.hid (And.intro hE hT)
              obtain ⟨Es, Eb, ⟨E1, E2, E3, E4, E5⟩⟩ := E
              simp only at hcmd
              subst hcmd
              clear hE hT
              have hc10 : decide ((q : Int) < (L.length : Int) - 1) = true := by simp; omega
              have hc11 : ((q : Int) == (L.length : Int) - 1) = false := by simp; omega
              go_upto_region 37 with (first | ((with_reducible show WGd ..); (with_reducible apply wpA_guard); exact rfl; skip) | ((with_reducible show WLd ..); (with_reducible apply wpA_load); exact rfl; (first | ((with_reducible apply St.cellI hS); (focus repeat constructor); exact rfl) | assumption); kernel_rfl) | ((with_reducible show WSt ..); (with_reducible apply wpA_store1I hS); exact rfl; (focus repeat constructor); exact rfl; exact rfl; exact rfl; exact rfl; kernel_rfl; intro wx hS; (try simp only [Act.put, List.setIfInBounds_toArray, List.set_cons_zero, List.set_cons_succ]); (try simp only [Act.eval, Array.getD_eq_getD_getElem?, List.getElem?_toArray, List.getElem?_cons_succ, List.getElem?_cons_zero, Option.getD_some, List.set_cons_succ, List.set_cons_zero, Value.cells, List.toList_toArray] at hS)) | ((with_reducible show WBx ..); (with_reducible apply wpA_box hS); exact rfl; exact rfl; intro _ wx hS; (try simp only [Act.put, List.setIfInBounds_toArray, List.set_cons_zero, List.set_cons_succ]); (try simp only [Act.eval, Array.getD_eq_getD_getElem?, List.getElem?_toArray, List.getElem?_cons_succ, List.getElem?_cons_zero, Option.getD_some, List.set_cons_succ, List.set_cons_zero, Value.cells, List.toList_toArray] at hS)))
              refine wp_region_St hS (by kernel_rfl) (by kernel_rfl) (Bx.out ?_)
              refine bQ_val ?_ rfl ?_ ?_
              rotate_left
              · intro w hS; go_simp; (first | done | (with_reducible rfl) | (refine (if_pos ?_).trans ?_; (focus omega); with_reducible rfl) | skip)
              (simp only [Act.put, List.setIfInBounds_toArray, List.set_cons_zero, List.set_cons_succ])
              refine bQ_val ?_ rfl ?_ ?_
              rotate_left
              · intro w hS; go_simp; (first | done | (with_reducible rfl) | (refine (if_pos ?_).trans ?_; (focus omega); with_reducible rfl) | skip)
              (simp only [Act.put, List.setIfInBounds_toArray, List.set_cons_zero, List.set_cons_succ])
              refine bQ_val ?_ rfl ?_ ?_
              rotate_left
              · intro w hS; go_simp; (first | done | (with_reducible rfl) | (refine (if_pos ?_).trans ?_; (focus omega); with_reducible rfl) | skip)
              (simp only [Act.put, List.setIfInBounds_toArray, List.set_cons_zero, List.set_cons_succ])
              refine bQ_val (.int .i64 ((L.length : Int) - 1)) rfl (fun w hS => by go_simp; (first | done | exact hwL | (simp [hwL]; done) | (rw [hwL]))) ?_
              (simp only [Act.put, List.setIfInBounds_toArray, List.set_cons_zero, List.set_cons_succ])
              refine bQ_val (.bool true) rfl (fun w hS => by go_simp; (first | done | (simp [hc10, hc11]; done) | (simp; omega))) ?_
              (simp only [Act.put, List.setIfInBounds_toArray, List.set_cons_zero, List.set_cons_succ])
              refine bQ_val ?_ rfl ?_ ?_
              rotate_left
              · intro w hS; go_simp; (first | done | (with_reducible rfl) | (refine (if_pos ?_).trans ?_; (focus omega); with_reducible rfl) | skip)
              (simp only [Act.put, List.setIfInBounds_toArray, List.set_cons_zero, List.set_cons_succ])
              refine bQ_guard (by exact rfl) ?_
              refine bQ_val ?_ rfl ?_ ?_
              rotate_left
              · intro w hS; go_simp; (first | done | (with_reducible rfl) | (refine (if_pos ?_).trans ?_; (focus omega); with_reducible rfl) | skip)
              (simp only [Act.put, List.setIfInBounds_toArray, List.set_cons_zero, List.set_cons_succ])
              refine bQ_guard (by exact rfl) ?_
              refine bQ_val ?_ rfl ?_ ?_
              rotate_left
              · intro w hS; go_simp; (first | done | (with_reducible rfl) | (refine (if_pos ?_).trans ?_; (focus omega); with_reducible rfl) | skip)
              (simp only [Act.put, List.setIfInBounds_toArray, List.set_cons_zero, List.set_cons_succ])
              refine bQ_guard (by exact rfl) ?_
              refine bQ_val ?_ rfl ?_ ?_
              rotate_left
              · intro w hS; go_simp; (first | done | (with_reducible rfl) | (refine (if_pos ?_).trans ?_; (focus omega); with_reducible rfl) | skip)
              (simp only [Act.put, List.setIfInBounds_toArray, List.set_cons_zero, List.set_cons_succ])
              refine bQ_guard (by exact rfl) ?_
              refine bQ_val ?_ rfl ?_ ?_
              rotate_left
              · intro w hS; go_simp; (first | done | (with_reducible rfl) | (refine (if_pos ?_).trans ?_; (focus omega); with_reducible rfl) | skip)
              (simp only [Act.put, List.setIfInBounds_toArray, List.set_cons_zero, List.set_cons_succ])
              refine bQ_guard (by exact rfl) ?_
              refine bQ_val (.agg #[.int .i64 E1, .int .i64 E2, .int .i64 E3, .string E4, .int .i64 E5]) rfl (fun w hS => by exact exec_loadN_val (cs := [.int .i64 E1, .int .i64 E2, .int .i64 E3, .string E4, .int .i64 E5]) rfl (row_elem2 (hS.at_ 1 rfl) HQ.out) (by kernel_rfl) (by kernel_rfl)) ?_
              (simp only [Act.put, List.setIfInBounds_toArray, List.set_cons_zero, List.set_cons_succ])
              refine bQ_guard (by exact rfl) ?_
              refine bQ_val ?_ rfl ?_ ?_
              rotate_left
              · intro w hS; go_simp; (first | done | (with_reducible rfl) | (refine (if_pos ?_).trans ?_; (focus omega); with_reducible rfl) | skip)
              (simp only [Act.put, List.setIfInBounds_toArray, List.set_cons_zero, List.set_cons_succ])
              refine bQ_guard (by exact rfl) ?_
              refine bQ_val (.agg #[.int .i64 E1, .int .i64 E2, .int .i64 E3, .string E4, .int .i64 E5]) rfl (fun w hS => by exact exec_loadN_val (cs := [.int .i64 E1, .int .i64 E2, .int .i64 E3, .string E4, .int .i64 E5]) rfl (Hp.range hS 0 rfl 2 5) (by kernel_rfl) (by kernel_rfl)) ?_
              (simp only [Act.put, List.setIfInBounds_toArray, List.set_cons_zero, List.set_cons_succ])
              refine bQ_guard (by exact rfl) ?_
              refine bQ_val ?_ rfl ?_ ?_
              rotate_left
              · intro w hS; go_simp; (first | done | (with_reducible rfl) | (refine (if_pos ?_).trans ?_; (focus omega); with_reducible rfl) | skip)
              (simp only [Act.put, List.setIfInBounds_toArray, List.set_cons_zero, List.set_cons_succ])
              refine bQ_val ?_ rfl ?_ ?_
              rotate_left
              · intro w hS; go_simp; (first | done | (with_reducible rfl) | (refine (if_pos ?_).trans ?_; (focus omega); with_reducible rfl) | skip)
              (simp only [Act.put, List.setIfInBounds_toArray, List.set_cons_zero, List.set_cons_succ])
              refine bQ_val ?_ rfl ?_ ?_
              rotate_left
              · intro w hS; go_simp; (first | done | (with_reducible rfl) | (refine (if_pos ?_).trans ?_; (focus omega); with_reducible rfl) | skip)
              (simp only [Act.put, List.setIfInBounds_toArray, List.set_cons_zero, List.set_cons_succ])
              refine bQ_guard (by exact rfl) ?_
              refine bQ_val ?_ rfl ?_ ?_
              rotate_left
              · intro w hS; go_simp; (first | done | (with_reducible rfl) | (refine (if_pos ?_).trans ?_; (focus omega); with_reducible rfl) | skip)
              (simp only [Act.put, List.setIfInBounds_toArray, List.set_cons_zero, List.set_cons_succ])
              refine bQ_guard (by exact rfl) ?_
              refine bQ_val ?_ rfl ?_ ?_
              rotate_left
              · intro w hS; go_simp; (first | done | (with_reducible rfl) | (refine (if_pos ?_).trans ?_; (focus omega); with_reducible rfl) | skip)
              (simp only [Act.put, List.setIfInBounds_toArray, List.set_cons_zero, List.set_cons_succ])
              refine bQ_guard (by exact rfl) ?_
              refine bQ_val ?_ rfl ?_ ?_
              rotate_left
              · intro w hS; go_simp; (first | done | (with_reducible rfl) | (refine (if_pos ?_).trans ?_; (focus omega); with_reducible rfl) | skip)
              (simp only [Act.put, List.setIfInBounds_toArray, List.set_cons_zero, List.set_cons_succ])
              refine bQ_guard (by exact rfl) ?_
              refine bQ_val (.int .i64 ((L.length : Int) - 1)) rfl (fun w hS => by go_simp; (first | done | exact hwL | (simp [hwL]; done) | (rw [hwL]))) ?_
              (simp only [Act.put, List.setIfInBounds_toArray, List.set_cons_zero, List.set_cons_succ])
              refine bQ_guard (by exact rfl) ?_
              refine bQ_val (.bool false) rfl (fun w hS => by go_simp; (first | done | (simp [hc10, hc11]; done) | (simp; omega))) ?_
              (simp only [Act.put, List.setIfInBounds_toArray, List.set_cons_zero, List.set_cons_succ])
              refine bQ_guard (by exact rfl) ?_
              refine bQ_val ?_ rfl ?_ ?_
              rotate_left
              · intro w hS; go_simp; (first | done | (with_reducible rfl) | (refine (if_pos ?_).trans ?_; (focus omega); with_reducible rfl) | skip)
              (simp only [Act.put, List.setIfInBounds_toArray, List.set_cons_zero, List.set_cons_succ])
              refine bQ_skip (by exact rfl) ?_
              (simp only [Act.put, List.setIfInBounds_toArray, List.set_cons_zero, List.set_cons_succ])
              refine bQ_guard (by exact rfl) ?_
              refine bQ_val ?_ rfl ?_ ?_
              rotate_left
              · intro w hS; go_simp; (first | done | (with_reducible rfl) | (refine (if_pos ?_).trans ?_; (focus omega); with_reducible rfl) | skip)
              (simp only [Act.put, List.setIfInBounds_toArray, List.set_cons_zero, List.set_cons_succ])
              refine bQ_val ?_ rfl ?_ ?_
              rotate_left
              · intro w hS; go_simp; (first | done | (with_reducible rfl) | (refine (if_pos ?_).trans ?_; (focus omega); with_reducible rfl) | skip)
              (simp only [Act.put, List.setIfInBounds_toArray, List.set_cons_zero, List.set_cons_succ])
              refine ⟨wpQuiet_nil ?_⟩
              intro wx hS
              go_wp2_with (first | ((with_reducible show WGd ..); (with_reducible apply wpA_guard); exact rfl; skip) | ((with_reducible show WLd ..); (with_reducible apply wpA_load); exact rfl; (first | ((with_reducible apply St.cellI hS); (focus repeat constructor); exact rfl) | assumption); kernel_rfl) | ((with_reducible show WSt ..); (with_reducible apply wpA_store1I hS); exact rfl; (focus repeat constructor); exact rfl; exact rfl; exact rfl; exact rfl; kernel_rfl; intro wx hS; (try simp only [Act.put, List.setIfInBounds_toArray, List.set_cons_zero, List.set_cons_succ]); (try simp only [Act.eval, Array.getD_eq_getD_getElem?, List.getElem?_toArray, List.getElem?_cons_succ, List.getElem?_cons_zero, Option.getD_some, List.set_cons_succ, List.set_cons_zero, Value.cells, List.toList_toArray] at hS)) | ((with_reducible show WBx ..); (with_reducible apply wpA_box hS); exact rfl; exact rfl; intro _ wx hS; (try simp only [Act.put, List.setIfInBounds_toArray, List.set_cons_zero, List.set_cons_succ]); (try simp only [Act.eval, Array.getD_eq_getD_getElem?, List.getElem?_toArray, List.getElem?_cons_succ, List.getElem?_cons_zero, Option.getD_some, List.set_cons_succ, List.set_cons_zero, Value.cells, List.toList_toArray] at hS)))
              go_roundw
              case rel => exact ⟨q + 1, by omega, by go_num, hS.tail⟩
              case measure => simp [intOf]; omega
            · obtain ⟨hsc, hcmd⟩ := HV4.out (by omega)
              rw [hsc] at hS ⊢
              have HSC := Lib.hid hsc
              clear hsc
              have hc10 : decide ((q : Int) < (L.length : Int) - 1) = false := by simp; omega
              have hc11 : ((q : Int) == (L.length : Int) - 1) = true := by simp; omega
              go_upto_region 37 with (first | ((with_reducible show WGd ..); (with_reducible apply wpA_guard); exact rfl; skip) | ((with_reducible show WLd ..); (with_reducible apply wpA_load); exact rfl; (first | ((with_reducible apply St.cellI hS); (focus repeat constructor); exact rfl) | assumption); kernel_rfl) | ((with_reducible show WSt ..); (with_reducible apply wpA_store1I hS); exact rfl; (focus repeat constructor); exact rfl; exact rfl; exact rfl; exact rfl; kernel_rfl; intro wx hS; (try simp only [Act.put, List.setIfInBounds_toArray, List.set_cons_zero, List.set_cons_succ]); (try simp only [Act.eval, Array.getD_eq_getD_getElem?, List.getElem?_toArray, List.getElem?_cons_succ, List.getElem?_cons_zero, Option.getD_some, List.set_cons_succ, List.set_cons_zero, Value.cells, List.toList_toArray] at hS)) | ((with_reducible show WBx ..); (with_reducible apply wpA_box hS); exact rfl; exact rfl; intro _ wx hS; (try simp only [Act.put, List.setIfInBounds_toArray, List.set_cons_zero, List.set_cons_succ]); (try simp only [Act.eval, Array.getD_eq_getD_getElem?, List.getElem?_toArray, List.getElem?_cons_succ, List.getElem?_cons_zero, Option.getD_some, List.set_cons_succ, List.set_cons_zero, Value.cells, List.toList_toArray] at hS)))
              refine wp_region_St hS (by kernel_rfl) (by kernel_rfl) (Bx.out ?_)
              refine bQ_val ?_ rfl ?_ ?_
              rotate_left
              · intro w hS; go_simp; (first | done | (with_reducible rfl) | (refine (if_pos ?_).trans ?_; (focus omega); with_reducible rfl) | skip)
              (simp only [Act.put, List.setIfInBounds_toArray, List.set_cons_zero, List.set_cons_succ])
              refine bQ_val ?_ rfl ?_ ?_
              rotate_left
              · intro w hS; go_simp; (first | done | (with_reducible rfl) | (refine (if_pos ?_).trans ?_; (focus omega); with_reducible rfl) | skip)
              (simp only [Act.put, List.setIfInBounds_toArray, List.set_cons_zero, List.set_cons_succ])
              refine bQ_val ?_ rfl ?_ ?_
              rotate_left
              · intro w hS; go_simp; (first | done | (with_reducible rfl) | (refine (if_pos ?_).trans ?_; (focus omega); with_reducible rfl) | skip)
              (simp only [Act.put, List.setIfInBounds_toArray, List.set_cons_zero, List.set_cons_succ])
              refine bQ_val (.int .i64 ((L.length : Int) - 1)) rfl (fun w hS => by go_simp; (first | done | exact hwL | (simp [hwL]; done) | (rw [hwL]))) ?_
              (simp only [Act.put, List.setIfInBounds_toArray, List.set_cons_zero, List.set_cons_succ])
              refine bQ_val (.bool false) rfl (fun w hS => by go_simp; (first | done | (simp [hc10, hc11]; done) | (simp; omega))) ?_
              (simp only [Act.put, List.setIfInBounds_toArray, List.set_cons_zero, List.set_cons_succ])
              refine bQ_val ?_ rfl ?_ ?_
              rotate_left
              · intro w hS; go_simp; (first | done | (with_reducible rfl) | (refine (if_pos ?_).trans ?_; (focus omega); with_reducible rfl) | skip)
              (simp only [Act.put, List.setIfInBounds_toArray, List.set_cons_zero, List.set_cons_succ])
              refine bQ_skip (by exact rfl) ?_
              (simp only [Act.put, List.setIfInBounds_toArray, List.set_cons_zero, List.set_cons_succ])
              refine bQ_skip (by exact rfl) ?_
              (simp only [Act.put, List.setIfInBounds_toArray, List.set_cons_zero, List.set_cons_succ])
              refine bQ_skip (by exact rfl) ?_
              (simp only [Act.put, List.setIfInBounds_toArray, List.set_cons_zero, List.set_cons_succ])
              refine bQ_skip (by exact rfl) ?_
              (simp only [Act.put, List.setIfInBounds_toArray, List.set_cons_zero, List.set_cons_succ])
              refine bQ_skip (by exact rfl) ?_
              (simp only [Act.put, List.setIfInBounds_toArray, List.set_cons_zero, List.set_cons_succ])
              refine bQ_skip (by exact rfl) ?_
              (simp only [Act.put, List.setIfInBounds_toArray, List.set_cons_zero, List.set_cons_succ])
              refine bQ_skip (by exact rfl) ?_
              (simp only [Act.put, List.setIfInBounds_toArray, List.set_cons_zero, List.set_cons_succ])
              refine bQ_skip (by exact rfl) ?_
              (simp only [Act.put, List.setIfInBounds_toArray, List.set_cons_zero, List.set_cons_succ])
              refine bQ_val ?_ rfl ?_ ?_
              rotate_left
              · intro w hS; go_simp; (first | done | (with_reducible rfl) | (refine (if_pos ?_).trans ?_; (focus omega); with_reducible rfl) | skip)
              (simp only [Act.put, List.setIfInBounds_toArray, List.set_cons_zero, List.set_cons_succ])
              refine bQ_val ?_ rfl ?_ ?_
              rotate_left
              · intro w hS; go_simp; (first | done | (with_reducible rfl) | (refine (if_pos ?_).trans ?_; (focus omega); with_reducible rfl) | skip)
              (simp only [Act.put, List.setIfInBounds_toArray, List.set_cons_zero, List.set_cons_succ])
              refine bQ_guard (by exact rfl) ?_
              refine bQ_val ?_ rfl ?_ ?_
              rotate_left
              · intro w hS; go_simp; (first | done | (with_reducible rfl) | (refine (if_pos ?_).trans ?_; (focus omega); with_reducible rfl) | skip)
              (simp only [Act.put, List.setIfInBounds_toArray, List.set_cons_zero, List.set_cons_succ])
              refine bQ_guard (by exact rfl) ?_
              refine bQ_val ?_ rfl ?_ ?_
              rotate_left
              · intro w hS; go_simp; (first | done | (with_reducible rfl) | (refine (if_pos ?_).trans ?_; (focus omega); with_reducible rfl) | skip)
              (simp only [Act.put, List.setIfInBounds_toArray, List.set_cons_zero, List.set_cons_succ])
              refine bQ_guard (by exact rfl) ?_
              refine bQ_val ?_ rfl ?_ ?_
              rotate_left
              · intro w hS; go_simp; (first | done | (with_reducible rfl) | (refine (if_pos ?_).trans ?_; (focus omega); with_reducible rfl) | skip)
              (simp only [Act.put, List.setIfInBounds_toArray, List.set_cons_zero, List.set_cons_succ])
              refine bQ_guard (by exact rfl) ?_
              refine bQ_val (.int .i64 ((L.length : Int) - 1)) rfl (fun w hS => by go_simp; (first | done | exact hwL | (simp [hwL]; done) | (rw [hwL]))) ?_
              (simp only [Act.put, List.setIfInBounds_toArray, List.set_cons_zero, List.set_cons_succ])
              refine bQ_guard (by exact rfl) ?_
              refine bQ_val (.bool true) rfl (fun w hS => by go_simp; (first | done | (simp [hc10, hc11]; done) | (simp; omega))) ?_
              (simp only [Act.put, List.setIfInBounds_toArray, List.set_cons_zero, List.set_cons_succ])
              refine bQ_guard (by exact rfl) ?_
              refine bQ_val ?_ rfl ?_ ?_
              rotate_left
              · intro w hS; go_simp; (first | done | (with_reducible rfl) | (refine (if_pos ?_).trans ?_; (focus omega); with_reducible rfl) | skip)
              (simp only [Act.put, List.setIfInBounds_toArray, List.set_cons_zero, List.set_cons_succ])
              refine bQ_guard (by exact rfl) ?_
              refine bQ_val ?_ rfl ?_ ?_
              rotate_left
              · intro w hS; go_simp; (first | done | (with_reducible rfl) | (refine (if_pos ?_).trans ?_; (focus omega); with_reducible rfl) | skip)
              (simp only [Act.put, List.setIfInBounds_toArray, List.set_cons_zero, List.set_cons_succ])
              refine bQ_guard (by exact rfl) ?_
              refine bQ_val ?_ rfl ?_ ?_
              rotate_left
              · intro w hS; go_simp; (first | done | (with_reducible rfl) | (refine (if_pos ?_).trans ?_; (focus omega); with_reducible rfl) | skip)
              (simp only [Act.put, List.setIfInBounds_toArray, List.set_cons_zero, List.set_cons_succ])
              refine bQ_val ?_ rfl ?_ ?_
              rotate_left
              · intro w hS; go_simp; (first | done | (with_reducible rfl) | (refine (if_pos ?_).trans ?_; (focus omega); with_reducible rfl) | skip)
              (simp only [Act.put, List.setIfInBounds_toArray, List.set_cons_zero, List.set_cons_succ])
              refine ⟨wpQuiet_nil ?_⟩
              intro wx hS
              go_wp2_with (first | ((with_reducible show WGd ..); (with_reducible apply wpA_guard); exact rfl; skip) | ((with_reducible show WLd ..); (with_reducible apply wpA_load); exact rfl; (first | ((with_reducible apply St.cellI hS); (focus repeat constructor); exact rfl) | assumption); kernel_rfl) | ((with_reducible show WSt ..); (with_reducible apply wpA_store1I hS); exact rfl; (focus repeat constructor); exact rfl; exact rfl; exact rfl; exact rfl; kernel_rfl; intro wx hS; (try simp only [Act.put, List.setIfInBounds_toArray, List.set_cons_zero, List.set_cons_succ]); (try simp only [Act.eval, Array.getD_eq_getD_getElem?, List.getElem?_toArray, List.getElem?_cons_succ, List.getElem?_cons_zero, Option.getD_some, List.set_cons_succ, List.set_cons_zero, Value.cells, List.toList_toArray] at hS)) | ((with_reducible show WBx ..); (with_reducible apply wpA_box hS); exact rfl; exact rfl; intro _ wx hS; (try simp only [Act.put, List.setIfInBounds_toArray, List.set_cons_zero, List.set_cons_succ]); (try simp only [Act.eval, Array.getD_eq_getD_getElem?, List.getElem?_toArray, List.getElem?_cons_succ, List.getElem?_cons_zero, Option.getD_some, List.set_cons_succ, List.set_cons_zero, Value.cells, List.toList_toArray] at hS)))
              go_roundw
              case rel => exact ⟨q + 1, by omega, by go_num, hS.tail⟩
              case measure => simp [intOf]; omega
        · obtain rfl : q = L.length := by omega
          obtain ⟨m, hm⟩ : ∃ m, L.length = m + 1 := ⟨L.length - 1, by omega⟩
          obtain ⟨e, he⟩ : ∃ e, L[m]? = some e := ⟨_, List.getElem?_eq_getElem (by omega)⟩
          obtain ⟨v1, v2, v3, v4⟩ := HVF.out m e he
          obtain ⟨_, hcmd⟩ := v4 hm.symm
          obtain ⟨es_, eb, ec⟩ := e
          simp only at v1 v2 hcmd
          subst v1 v2 hcmd
          have HQ := Lib.hid he
          clear he v3 v4
          have hw : IntKind.i64.wrap ((L.length : Int) - 1) = (m : Int) := by rw [IntKind.wrap_i64]; omega
          go_wp2_with (first | ((with_reducible show WGd ..); (with_reducible apply wpA_guard); exact rfl; skip) | ((with_reducible show WLd ..); (with_reducible apply wpA_loadN (t := 28)); exact rfl; exact (row_elem2 (hS.at_ 0 rfl) HQ.out); kernel_rfl; kernel_rfl; (try simp only [Act.put, List.setIfInBounds_toArray, List.set_cons_zero, List.set_cons_succ])) | (go_at_call 7; with_reducible refine (awake_c w0 _ _ hS).mono ?_; rintro _ _ ⟨rfl, hS⟩) | ((with_reducible show WLd ..); (with_reducible apply wpA_load); exact rfl; (first | ((with_reducible apply St.cellI hS); (focus repeat constructor); exact rfl) | assumption); kernel_rfl) | ((with_reducible show WSt ..); (with_reducible apply wpA_store1I hS); exact rfl; (focus repeat constructor); exact rfl; exact rfl; exact rfl; exact rfl; kernel_rfl; intro wx hS; (try simp only [Act.put, List.setIfInBounds_toArray, List.set_cons_zero, List.set_cons_succ]); (try simp only [Act.eval, Array.getD_eq_getD_getElem?, List.getElem?_toArray, List.getElem?_cons_succ, List.getElem?_cons_zero, Option.getD_some, List.set_cons_succ, List.set_cons_zero, Value.cells, List.toList_toArray] at hS)) | ((with_reducible show WBx ..); (with_reducible apply wpA_box hS); exact rfl; exact rfl; intro _ wx hS; (try simp only [Act.put, List.setIfInBounds_toArray, List.set_cons_zero, List.set_cons_succ]); (try simp only [Act.eval, Array.getD_eq_getD_getElem?, List.getElem?_toArray, List.getElem?_cons_succ, List.getElem?_cons_zero, Option.getD_some, List.set_cons_succ, List.set_cons_zero, Value.cells, List.toList_toArray] at hS)))
          go_ret
          exact ⟨rfl, hS.tail.tail⟩

theorem adopts_law (w : World) (v0 v1 v2 : Value) (h0 : RdV Try.prog w 3 v0) (h1 : RdV Try.prog w 22 v1) (h2 : RdV Try.prog w 3 v2) : Calls Try.prog 3 #[v0, v1, v2] w fun e w' => e = .returned (.bool true) ∧ St w w' [] := by
  obtain ⟨n, rfl, _⟩ := h0.int Try.underlying3
  obtain ⟨f, rfl, hf⟩ := h2.int Try.underlying3
  obtain ⟨ao, cap, l, rfl, ho, bo, hq, hr⟩ := h1.sliceIn (f := EsIn.cells) (Q := EsIn.at_ w) Try.underlying22 (k := 1) (by kernel_rfl) (by decide) (fun cs h => es_in h)
  have e : reachBytes = 140737488351232 := rfl
  have hb : Try.prog.bytesOf 26 = 24 := by kernel_rfl
  rw [hb] at bo
  exact adopts_v w n f l ao cap (by omega) hr hq (wf64 hf)
end Go.Proofs.Ytkhjkicnalnibaa
