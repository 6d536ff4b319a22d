/-
  The reference's Accepted, walked.
-/
import Derived.Test.YtkhjkicnalnibaaPropR4
namespace Go.Proofs.Ytkhjkicnalnibaa
set_option linter.unusedVariables false
set_option linter.unusedSimpArgs false
open Go.RowKit

def accC (k s : Int) (z : SlotS) : Prop := z.e.slot = s ∧ z.most = false ∧ k ∉ z.who
theorem acc_none {σ : PropS} {k s : Int} (h : ∀ z ∈ σ.opn, ¬ accC k s z) : acceptedD σ k s = (false, σ) := by
  unfold acceptedD
  split
  · rfl
  · split
    · rfl
    · rename_i i hi
      obtain ⟨x, hx, hs⟩ := idx_some hi
      rw [getD_of hx]
      simp only
      rw [if_pos]
      have := h x (List.mem_of_getElem? hx)
      by_cases h1 : x.most = true
      · exact .inl h1
      · right
        apply Classical.byContradiction
        intro h2
        exact this ⟨hs, by simpa using h1, h2⟩
theorem acc_some {σ : PropS} {k s : Int} {i : Nat} {z : SlotS} (hv : srvD σ.n k = true) (hz : σ.opn[i]? = some z) (hc : accC k s z) (hr : σ.opn.Pairwise fun x y => x.e.slot < y.e.slot) :
    acceptedD σ k s = (decide (majD σ.n ≤ ((z.who ++ [k]).length : Int)), { σ with opn := σ.opn.set i ⟨z.e, z.who ++ [k], decide (majD σ.n ≤ ((z.who ++ [k]).length : Int))⟩ }) := by
  have hi : slotAt σ.opn s = some i := by
    unfold slotAt
    rw [List.findIdx?_eq_some_iff_getElem]
    have hl := (List.getElem?_eq_some_iff.1 hz).1
    have he := (List.getElem?_eq_some_iff.1 hz).2
    refine ⟨hl, by rw [he]; simpa using hc.1, fun j hj => ?_⟩
    have := List.pairwise_iff_getElem.1 hr j i (by omega) hl hj
    rw [he, hc.1] at this
    simp; omega
  unfold acceptedD
  rw [if_neg (by simp [hv]), hi]
  simp only
  rw [getD_of hz, if_neg]
  rintro (h | h)
  · rw [hc.2.1] at h; cases h
  · exact hc.2.2 h

theorem set_two {cur : List Value} {L : List SlotR} {j : Nat} {z : SlotR} (hz : L[j]? = some z) (hx : cur.take (L.length * 9) = L.flatMap SlotR.cells) (hl : L.length * 9 ≤ cur.length) (wa : Option Addr) (wc : Nat) (who : List Int) (b : Bool) :
    (cur.set (j * 9 + 7) (.slice wa who.length wc)).set (j * 9 + 8) (.bool b) = cur.take (j * 9) ++ SlotR.cells ⟨wa, wc, ⟨z.s.e, who, b⟩⟩ ++ cur.drop (j * 9 + (SlotR.cells ⟨wa, wc, ⟨z.s.e, who, b⟩⟩).length) := by
  have hjl := (List.getElem?_eq_some_iff.1 hz).1
  have hj9 : j * 9 + 9 ≤ cur.length := by have : (j + 1) * 9 ≤ L.length * 9 := Nat.mul_le_mul_right _ hjl; omega
  have hcell : ∀ q v, z.cells[q]? = some v → cur[j * 9 + q]? = some v := by
    intro q v hv
    have h1 := flat_get SlotR.cells_length hz q v hv
    rw [← hx, List.getElem?_take] at h1
    split at h1
    · exact h1
    · cases h1
  have hlen : (SlotR.cells ⟨wa, wc, ⟨z.s.e, who, b⟩⟩).length = 9 := rfl
  have ht : (cur.take (j * 9)).length = j * 9 := by rw [List.length_take]; omega
  apply List.ext_getElem?
  intro q
  rw [hlen]
  by_cases h1 : q < j * 9
  · rw [List.getElem?_set_ne (by omega), List.getElem?_set_ne (by omega), List.append_assoc, List.getElem?_append_left (by omega), List.getElem?_take, if_pos h1]
  · by_cases h2 : q < j * 9 + 9
    · obtain ⟨d, rfl⟩ : ∃ d, q = j * 9 + d := ⟨q - j * 9, by omega⟩
      have hd : d < 9 := by omega
      rw [List.append_assoc, List.getElem?_append_right (by omega), ht, Nat.add_sub_cancel_left, List.getElem?_append_left (by rw [hlen]; exact hd)]
      by_cases h8 : d = 8
      · subst h8; rw [List.getElem?_set_self (by simp; omega)]; rfl
      · rw [List.getElem?_set_ne (by omega)]
        by_cases h7 : d = 7
        · subst h7; rw [List.getElem?_set_self (by omega)]; rfl
        · rw [List.getElem?_set_ne (by omega)]
          have hlt : d < 7 := by omega
          have e1 : (SlotR.cells ⟨wa, wc, ⟨z.s.e, who, b⟩⟩)[d]? = z.cells[d]? := by
            obtain ⟨a, c, ⟨e, w, m⟩⟩ := z
            rcases d with _ | _ | _ | _ | _ | _ | _ | d <;> first | rfl | omega
          rw [e1]
          obtain ⟨v, hv⟩ : ∃ v, z.cells[d]? = some v := ⟨_, List.getElem?_eq_getElem (by rw [SlotR.cells_length]; omega)⟩
          rw [hv]
          exact hcell d v hv
    · rw [List.getElem?_set_ne (by omega), List.getElem?_set_ne (by omega), List.getElem?_append_right (by rw [List.length_append, ht, hlen]; omega), List.length_append, ht, hlen, List.getElem?_drop]
      congr 1; omega

theorem has_b {w0 w : World} {H : List Hp} (hS : St w0 w H) (i : Nat) (ao : Option Addr) (cap : Nat) (zs : List Int) (k : Int) (hi : H[i]? = some (irow ao cap zs)) (hl : zs.length ≤ 1000000000000) {b : Bool} (hb : decide (k ∈ zs) = b) :
    Calls Try.prog 30 #[.slice ao zs.length cap, .int .i64 k] w fun e w' => e = .returned (.bool b) ∧ St w0 w' H := by
  subst hb
  exact has_c hS i ao cap zs k hi hl

section
variable {w0 w : World} {R : List Hp} {x : Nat} {σ : PropS}

set_option maxRecDepth 100000 in
set_option maxHeartbeats 8000000 in
theorem raccepted_c (h : RefSt w0 w x σ R) (k s : Int) (hr : σ.opn.Pairwise fun x y => x.e.slot < y.e.slot) (hn : σ.n ≤ 1000000000000) (h3 : σ.opn.length ≤ 1000000000) (hw : ∀ x ∈ σ.opn, x.who.length ≤ 1000000000000) :
    Calls Try.prog 17 #[.pointer (some ⟨x, 0, none⟩), .int .i64 k, .int .i64 s] w fun e w' => e = .returned (.bool (acceptedD σ k s).1) ∧ RefSt w0 w' x (acceptedD σ k s).2 R := by
  cases hv : srvD σ.n k with
  | false =>
    have e : acceptedD σ k s = (false, σ) := by unfold acceptedD; rw [if_pos hv]
    rw [e]
    obtain ⟨aw, cw, ab, cb, av, cv, al, cl, L, hL, hS⟩ := h
    obtain ⟨n, ballot, frm, next, who, best, ready, vals, opn⟩ := σ
    have HL := Lib.hid hL
    simp only at hS hv ⊢
    clear hL e hr hw
    by_cases hk : k < 0
    · have hd : decide (k < 0) = true := by simpa using hk
      go_enter Try.func17, Try.ntmps17
      go_wp2_with (first | ((with_reducible show WGd ..); (with_reducible apply wpA_guard); exact rfl; skip) | ((with_reducible show WLd ..); (with_reducible apply wpA_load); exact rfl; (first | ((with_reducible apply St.cellI hS); (focus repeat constructor); exact rfl) | assumption); kernel_rfl) | ((with_reducible show WSt ..); (with_reducible apply wpA_store1I hS); exact rfl; (focus repeat constructor); exact rfl; exact rfl; exact rfl; exact rfl; kernel_rfl; intro wx hS; (try simp only [Act.put, List.setIfInBounds_toArray, List.set_cons_zero, List.set_cons_succ]); (try simp only [Act.eval, Array.getD_eq_getD_getElem?, List.getElem?_toArray, List.getElem?_cons_succ, List.getElem?_cons_zero, Option.getD_some, List.set_cons_succ, List.set_cons_zero, Value.cells, List.toList_toArray] at hS)) | ((with_reducible show WBx ..); (with_reducible apply wpA_box hS); exact rfl; exact rfl; intro _ wx hS; (try simp only [Act.put, List.setIfInBounds_toArray, List.set_cons_zero, List.set_cons_succ]); (try simp only [Act.eval, Array.getD_eq_getD_getElem?, List.getElem?_toArray, List.getElem?_cons_succ, List.getElem?_cons_zero, Option.getD_some, List.set_cons_succ, List.set_cons_zero, Value.cells, List.toList_toArray] at hS)))
      go_ret
      exact ⟨rfl, aw, cw, ab, cb, av, cv, al, cl, L, HL.out, hS⟩
    · have hd : decide (k < 0) = false := by simpa using hk
      have hd2 : decide (n ≤ k) = true := by simp [srvD] at hv; simp; omega
      go_enter Try.func17, Try.ntmps17
      go_wp2_with (first | ((with_reducible show WGd ..); (with_reducible apply wpA_guard); exact rfl; skip) | ((with_reducible show WLd ..); (with_reducible apply wpA_load); exact rfl; (first | ((with_reducible apply St.cellI hS); (focus repeat constructor); exact rfl) | assumption); kernel_rfl) | ((with_reducible show WSt ..); (with_reducible apply wpA_store1I hS); exact rfl; (focus repeat constructor); exact rfl; exact rfl; exact rfl; exact rfl; kernel_rfl; intro wx hS; (try simp only [Act.put, List.setIfInBounds_toArray, List.set_cons_zero, List.set_cons_succ]); (try simp only [Act.eval, Array.getD_eq_getD_getElem?, List.getElem?_toArray, List.getElem?_cons_succ, List.getElem?_cons_zero, Option.getD_some, List.set_cons_succ, List.set_cons_zero, Value.cells, List.toList_toArray] at hS)) | ((with_reducible show WBx ..); (with_reducible apply wpA_box hS); exact rfl; exact rfl; intro _ wx hS; (try simp only [Act.put, List.setIfInBounds_toArray, List.set_cons_zero, List.set_cons_succ]); (try simp only [Act.eval, Array.getD_eq_getD_getElem?, List.getElem?_toArray, List.getElem?_cons_succ, List.getElem?_cons_zero, Option.getD_some, List.set_cons_succ, List.set_cons_zero, Value.cells, List.toList_toArray] at hS)))
      go_ret
      exact ⟨rfl, aw, cw, ab, cb, av, cv, al, cl, L, HL.out, hS⟩
  | true =>
    obtain ⟨aw, cw, ab, cb, av, cv, al, cl, L, hL, hS⟩ := h
    have hkk : 0 ≤ k ∧ k < σ.n := by simpa [srvD] using hv
    have hd : decide (k < 0) = false := by simp; omega
    have hd2 : decide (σ.n ≤ k) = false := by simp; omega
    obtain ⟨res, hres⟩ : ∃ res, acceptedD σ k s = res := ⟨_, rfl⟩
    have hall : (∀ z ∈ L, ¬ accC k s z.s) → res = (false, σ) := fun h => by
      rw [← hres]
      exact acc_none (fun z hz => by
        rw [← hL] at hz
        obtain ⟨y, hy, rfl⟩ := List.mem_map.1 hz
        exact h y hy)
    have hone : ∀ (i : Nat) (z : SlotR), L[i]? = some z → accC k s z.s → res = (decide (majD σ.n ≤ ((z.s.who ++ [k]).length : Int)), { σ with opn := σ.opn.set i ⟨z.s.e, z.s.who ++ [k], decide (majD σ.n ≤ ((z.s.who ++ [k]).length : Int))⟩ }) := fun i z hz hc => by
      rw [← hres]
      exact acc_some hv (by rw [← hL, List.getElem?_map, hz]; rfl) hc hr
    have hwl : ∀ z ∈ L, z.s.who.length ≤ 1000000000000 := fun z hz => hw z.s (by rw [← hL]; exact List.mem_map.2 ⟨z, hz, rfl⟩)
    have hLl : σ.opn.length = L.length := by have := congrArg List.length hL; simp at this; exact this.symm
    rw [hres]
    obtain ⟨n, ballot, frm, next, who, best, ready, vals, opn⟩ := σ
    simp only at hS hd2 hall hone hL hLl hn h3
    rw [hLl] at hS h3
    have HALL := Lib.hid hall
    have HONE := Lib.hid hone
    have HL := Lib.hid (And.intro hL hLl)
    have HWL := Lib.hid hwl
    clear hL hLl hres hall hone hr hw hwl hv
    go_enter Try.func17, Try.ntmps17
    go_upto_block 0 with (first | ((with_reducible show WGd ..); (with_reducible apply wpA_guard); exact rfl; skip) | ((with_reducible show WLd ..); (with_reducible apply wpA_load); exact rfl; (first | ((with_reducible apply St.cellI hS); (focus repeat constructor); exact rfl) | assumption); kernel_rfl) | ((with_reducible show WSt ..); (with_reducible apply wpA_store1I hS); exact rfl; (focus repeat constructor); exact rfl; exact rfl; exact rfl; exact rfl; kernel_rfl; intro wx hS; (try simp only [Act.put, List.setIfInBounds_toArray, List.set_cons_zero, List.set_cons_succ]); (try simp only [Act.eval, Array.getD_eq_getD_getElem?, List.getElem?_toArray, List.getElem?_cons_succ, List.getElem?_cons_zero, Option.getD_some, List.set_cons_succ, List.set_cons_zero, Value.cells, List.toList_toArray] at hS)) | ((with_reducible show WBx ..); (with_reducible apply wpA_box hS); exact rfl; exact rfl; intro _ wx hS; (try simp only [Act.put, List.setIfInBounds_toArray, List.set_cons_zero, List.set_cons_succ]); (try simp only [Act.eval, Array.getD_eq_getD_getElem?, List.getElem?_toArray, List.getElem?_cons_succ, List.getElem?_cons_zero, Option.getD_some, List.set_cons_succ, List.set_cons_zero, Value.cells, List.toList_toArray] at hS)))
    go_cut [] (fun wr => (∀ z ∈ L, ¬ accC k s z.s) ∧ St w0 wr (rc x ⟨n, ballot, frm, next, who, best, ready, vals, opn⟩ aw who.length cw ab best.length cb av vals.length cv al L.length cl :: irow aw cw who :: vrow ab cb best :: vrow av cv vals :: lrow al cl L :: (L.flatMap rhp ++ R)))
    case first =>
      go_wp2_with (first | ((with_reducible show WGd ..); (with_reducible apply wpA_guard); exact rfl; skip) | ((with_reducible show WLd ..); (with_reducible apply wpA_load); exact rfl; (first | ((with_reducible apply St.cellI hS); (focus repeat constructor); exact rfl) | assumption); kernel_rfl) | ((with_reducible show WSt ..); (with_reducible apply wpA_store1I hS); exact rfl; (focus repeat constructor); exact rfl; exact rfl; exact rfl; exact rfl; kernel_rfl; intro wx hS; (try simp only [Act.put, List.setIfInBounds_toArray, List.set_cons_zero, List.set_cons_succ]); (try simp only [Act.eval, Array.getD_eq_getD_getElem?, List.getElem?_toArray, List.getElem?_cons_succ, List.getElem?_cons_zero, Option.getD_some, List.set_cons_succ, List.set_cons_zero, Value.cells, List.toList_toArray] at hS)) | ((with_reducible show WBx ..); (with_reducible apply wpA_box hS); exact rfl; exact rfl; intro _ wx hS; (try simp only [Act.put, List.setIfInBounds_toArray, List.set_cons_zero, List.set_cons_succ]); (try simp only [Act.eval, Array.getD_eq_getD_getElem?, List.getElem?_toArray, List.getElem?_cons_succ, List.getElem?_cons_zero, Option.getD_some, List.set_cons_succ, List.set_cons_zero, Value.cells, List.toList_toArray] at hS)))
      go_loopw [7] (fun c wr => ∃ j : Nat, j ≤ L.length ∧ c = .int .i64 j ∧ Hid (∀ z ∈ L.take j, ¬ accC k s z.s) ∧ St w0 wr (rc x ⟨n, ballot, frm, next, who, best, ready, vals, opn⟩ aw who.length cw ab best.length cb av vals.length cv al L.length cl :: irow aw cw who :: vrow ab cb best :: vrow av cv vals :: lrow al cl L :: (L.flatMap rhp ++ R))) (fun c _ => L.length - (intOf c).toNat)
      case atStart => exact ⟨0, Nat.zero_le _, rfl, Lib.hid (by simp), hS⟩
      case round =>
        clear hS
        obtain ⟨j, hj, rfl, HJ, hS⟩ := hrel
        by_cases hlt : j < L.length
        · obtain ⟨z, hz⟩ : ∃ z, L[j]? = some z := ⟨_, List.getElem?_eq_getElem hlt⟩
          rcases row_head (hS.at_ 4 rfl) with ⟨_, hh, _⟩ | ⟨⟨gL, rfl⟩, _⟩
          · omega
          have HZ := Lib.hid hz
          have hskip : ¬ accC k s z.s → ∀ y ∈ L.take (j + 1), ¬ accC k s y.s := fun hn y hy => by
            rw [List.take_add_one, hz] at hy
            rcases List.mem_append.1 hy with h | h
            · exact HJ.out y h
            · simp at h; subst h; exact hn
          have hwz := HWL.out z (List.mem_of_getElem? hz)
          have hact := HONE.out j z hz
          obtain ⟨wa, wc, ⟨⟨sl, bl, ⟨ck, cs, cq, cn, c5⟩⟩, xw, mo⟩⟩ := z
          simp only [accC] at hskip hwz hact
          by_cases q1 : sl = s
          case neg =>
            have hb : (sl != s) = true := by simpa using q1
            have HJ2 := Lib.hid (hskip (fun h => q1 h.1))
            clear hz hskip hact q1
            go_wp2_with (first | ((with_reducible show WGd ..); (with_reducible apply wpA_guard); exact rfl; skip) | ((with_reducible show WLd ..); (with_reducible apply wpA_load); exact rfl; exact (row_elem SlotR.cells_length (hS.at_ 4 rfl) HZ.out) 0 _ rfl; kernel_rfl) | ((with_reducible show WLd ..); (with_reducible apply wpA_load); exact rfl; (first | ((with_reducible apply St.cellI hS); (focus repeat constructor); exact rfl) | assumption); kernel_rfl) | ((with_reducible show WSt ..); (with_reducible apply wpA_store1I hS); exact rfl; (focus repeat constructor); exact rfl; exact rfl; exact rfl; exact rfl; kernel_rfl; intro wx hS; (try simp only [Act.put, List.setIfInBounds_toArray, List.set_cons_zero, List.set_cons_succ]); (try simp only [Act.eval, Array.getD_eq_getD_getElem?, List.getElem?_toArray, List.getElem?_cons_succ, List.getElem?_cons_zero, Option.getD_some, List.set_cons_succ, List.set_cons_zero, Value.cells, List.toList_toArray] at hS)) | ((with_reducible show WBx ..); (with_reducible apply wpA_box hS); exact rfl; exact rfl; intro _ wx hS; (try simp only [Act.put, List.setIfInBounds_toArray, List.set_cons_zero, List.set_cons_succ]); (try simp only [Act.eval, Array.getD_eq_getD_getElem?, List.getElem?_toArray, List.getElem?_cons_succ, List.getElem?_cons_zero, Option.getD_some, List.set_cons_succ, List.set_cons_zero, Value.cells, List.toList_toArray] at hS)))
            go_roundw; (case rel => exact ⟨j + 1, by omega, by go_num, HJ2, hS⟩); (case measure => simp [intOf]; omega)
          have hb : (sl != s) = false := by simpa using q1
          cases mo with
          | true =>
            have HJ2 := Lib.hid (hskip (fun h => by cases h.2.1))
            clear hz hskip hact
            go_wp2_with (first | ((with_reducible show WGd ..); (with_reducible apply wpA_guard); exact rfl; skip) | ((with_reducible show WLd ..); (with_reducible apply wpA_load); exact rfl; exact (row_elem SlotR.cells_length (hS.at_ 4 rfl) HZ.out) 0 _ rfl; kernel_rfl) | ((with_reducible show WLd ..); (with_reducible apply wpA_load); exact rfl; exact (row_elem SlotR.cells_length (hS.at_ 4 rfl) HZ.out) 8 _ rfl; kernel_rfl) | ((with_reducible show WLd ..); (with_reducible apply wpA_load); exact rfl; (first | ((with_reducible apply St.cellI hS); (focus repeat constructor); exact rfl) | assumption); kernel_rfl) | ((with_reducible show WSt ..); (with_reducible apply wpA_store1I hS); exact rfl; (focus repeat constructor); exact rfl; exact rfl; exact rfl; exact rfl; kernel_rfl; intro wx hS; (try simp only [Act.put, List.setIfInBounds_toArray, List.set_cons_zero, List.set_cons_succ]); (try simp only [Act.eval, Array.getD_eq_getD_getElem?, List.getElem?_toArray, List.getElem?_cons_succ, List.getElem?_cons_zero, Option.getD_some, List.set_cons_succ, List.set_cons_zero, Value.cells, List.toList_toArray] at hS)) | ((with_reducible show WBx ..); (with_reducible apply wpA_box hS); exact rfl; exact rfl; intro _ wx hS; (try simp only [Act.put, List.setIfInBounds_toArray, List.set_cons_zero, List.set_cons_succ]); (try simp only [Act.eval, Array.getD_eq_getD_getElem?, List.getElem?_toArray, List.getElem?_cons_succ, List.getElem?_cons_zero, Option.getD_some, List.set_cons_succ, List.set_cons_zero, Value.cells, List.toList_toArray] at hS)))
            go_roundw; (case rel => exact ⟨j + 1, by omega, by go_num, HJ2, hS⟩); (case measure => simp [intOf]; omega)
          | false =>
            obtain ⟨idx, hidx⟩ : ∃ idx, (rc x ⟨n, ballot, frm, next, who, best, ready, vals, opn⟩ aw who.length cw ab best.length cb av vals.length cv (some ⟨gL, 0, none⟩) L.length cl :: irow aw cw who :: vrow ab cb best :: vrow av cv vals :: lrow (some ⟨gL, 0, none⟩) cl L :: (L.flatMap rhp ++ R))[idx]? = some (irow wa wc xw) := List.getElem?_of_mem (by
              refine List.mem_cons_of_mem _ (List.mem_cons_of_mem _ (List.mem_cons_of_mem _ (List.mem_cons_of_mem _ (List.mem_cons_of_mem _ (List.mem_append_left _ ?_)))))
              exact List.mem_flatMap.2 ⟨_, List.mem_of_getElem? hz, by simp [rhp]⟩)
            have HIX := Lib.hid hidx
            clear hidx
            by_cases q2 : k ∈ xw
            · have hq2 : decide (k ∈ xw) = true := decide_eq_true q2
              have HJ2 := Lib.hid (hskip (fun h => h.2.2 q2))
              have HQ2 := Lib.hid hq2
              clear hz hskip hact q2 hq2
              go_wp2_with (first | ((with_reducible show WGd ..); (with_reducible apply wpA_guard); exact rfl; skip) | ((with_reducible show WLd ..); (with_reducible apply wpA_load); exact rfl; exact (row_elem SlotR.cells_length (hS.at_ 4 rfl) HZ.out) 0 _ rfl; kernel_rfl) | ((with_reducible show WLd ..); (with_reducible apply wpA_load); exact rfl; exact (row_elem SlotR.cells_length (hS.at_ 4 rfl) HZ.out) 8 _ rfl; kernel_rfl) | ((with_reducible show WLd ..); (with_reducible apply wpA_load); exact rfl; exact (row_elem SlotR.cells_length (hS.at_ 4 rfl) HZ.out) 7 _ rfl; kernel_rfl) | (go_at_call 30; with_reducible refine (has_b hS idx wa wc xw k HIX.out hwz HQ2.out).mono ?_; rintro _ _ ⟨rfl, hS⟩) | ((with_reducible show WLd ..); (with_reducible apply wpA_load); exact rfl; (first | ((with_reducible apply St.cellI hS); (focus repeat constructor); exact rfl) | assumption); kernel_rfl) | ((with_reducible show WSt ..); (with_reducible apply wpA_store1I hS); exact rfl; (focus repeat constructor); exact rfl; exact rfl; exact rfl; exact rfl; kernel_rfl; intro wx hS; (try simp only [Act.put, List.setIfInBounds_toArray, List.set_cons_zero, List.set_cons_succ]); (try simp only [Act.eval, Array.getD_eq_getD_getElem?, List.getElem?_toArray, List.getElem?_cons_succ, List.getElem?_cons_zero, Option.getD_some, List.set_cons_succ, List.set_cons_zero, Value.cells, List.toList_toArray] at hS)) | ((with_reducible show WBx ..); (with_reducible apply wpA_box hS); exact rfl; exact rfl; intro _ wx hS; (try simp only [Act.put, List.setIfInBounds_toArray, List.set_cons_zero, List.set_cons_succ]); (try simp only [Act.eval, Array.getD_eq_getD_getElem?, List.getElem?_toArray, List.getElem?_cons_succ, List.getElem?_cons_zero, Option.getD_some, List.set_cons_succ, List.set_cons_zero, Value.cells, List.toList_toArray] at hS)))
              go_roundw; (case rel => exact ⟨j + 1, by omega, by go_num, HJ2, hS⟩); (case measure => simp [intOf]; omega)
            · have hq2 : decide (k ∈ xw) = false := decide_eq_false q2
              have HACT := Lib.hid (hact ⟨q1, rfl, q2⟩)
              have HQ2 := Lib.hid hq2
              clear hskip hact q2 hq2
              go_upto_region 8 with (first | ((with_reducible show WGd ..); (with_reducible apply wpA_guard); exact rfl; skip) | ((with_reducible show WLd ..); (with_reducible apply wpA_load); exact rfl; exact (row_elem SlotR.cells_length (hS.at_ 4 rfl) HZ.out) 0 _ rfl; kernel_rfl) | ((with_reducible show WLd ..); (with_reducible apply wpA_load); exact rfl; exact (row_elem SlotR.cells_length (hS.at_ 4 rfl) HZ.out) 8 _ rfl; kernel_rfl) | ((with_reducible show WLd ..); (with_reducible apply wpA_load); exact rfl; exact (row_elem SlotR.cells_length (hS.at_ 4 rfl) HZ.out) 7 _ rfl; kernel_rfl) | (go_at_call 30; with_reducible refine (has_b hS idx wa wc xw k HIX.out hwz HQ2.out).mono ?_; rintro _ _ ⟨rfl, hS⟩) | ((with_reducible show WLd ..); (with_reducible apply wpA_load); exact rfl; (first | ((with_reducible apply St.cellI hS); (focus repeat constructor); exact rfl) | assumption); kernel_rfl) | ((with_reducible show WSt ..); (with_reducible apply wpA_store1I hS); exact rfl; (focus repeat constructor); exact rfl; exact rfl; exact rfl; exact rfl; kernel_rfl; intro wx hS; (try simp only [Act.put, List.setIfInBounds_toArray, List.set_cons_zero, List.set_cons_succ]); (try simp only [Act.eval, Array.getD_eq_getD_getElem?, List.getElem?_toArray, List.getElem?_cons_succ, List.getElem?_cons_zero, Option.getD_some, List.set_cons_succ, List.set_cons_zero, Value.cells, List.toList_toArray] at hS)) | ((with_reducible show WBx ..); (with_reducible apply wpA_box hS); exact rfl; exact rfl; intro _ wx hS; (try simp only [Act.put, List.setIfInBounds_toArray, List.set_cons_zero, List.set_cons_succ]); (try simp only [Act.eval, Array.getD_eq_getD_getElem?, List.getElem?_toArray, List.getElem?_cons_succ, List.getElem?_cons_zero, Option.getD_some, List.set_cons_succ, List.set_cons_zero, Value.cells, List.toList_toArray] at hS)))
              have hS2 := St.takeOut (f := rhp) (A := [_, _, _, _, _]) (R := R) hz hS
              simp only [List.cons_append, List.nil_append, rhp] at hS2
              obtain ⟨D, hD⟩ : ∃ D, (L.eraseIdx j).flatMap rhp ++ R = D := ⟨_, rfl⟩
              rw [hD] at hS2
              obtain ⟨cur, d1, d2, d3, d4, hS3⟩ := hS2.rowCells 4 rfl
              simp only [List.set_cons_succ, List.set_cons_zero] at hS3
              have hlen9 : L.length * 9 ≤ cur.length := by rw [d1]; exact Nat.mul_le_mul_right _ d3
              have hj9 : j * 9 + 9 ≤ cur.length := by have : (j + 1) * 9 ≤ L.length * 9 := Nat.mul_le_mul_right _ hlt; omega
              have hcell : ∀ q v, (SlotR.cells ⟨wa, wc, ⟨⟨sl, bl, ⟨ck, cs, cq, cn, c5⟩⟩, xw, false⟩⟩)[q]? = some v → cur[j * 9 + q]? = some v := by
                intro q v hv
                have h1 := flat_get SlotR.cells_length hz q v hv
                rw [← d2, List.getElem?_take] at h1
                split at h1
                · exact h1
                · cases h1
              have HC7 := Lib.hid (hcell 7 (.slice wa xw.length wc) rfl)
              have hfit7 : (cur[j * 9 + 7]?).isSome = true := by rw [List.getElem?_eq_getElem (by omega)]; rfl
              have hfit8 : ∀ v, ((cur.set (j * 9 + 7) v)[j * 9 + 8]?).isSome = true := fun v => by rw [List.getElem?_eq_getElem (by simp; omega)]; rfl
              have HF8 := Lib.hid hfit8
              have hc77 : ∀ v, (cur.set (j * 9 + 7) v)[j * 9 + 7]? = some v := fun v => List.getElem?_set_self (by omega)
              have HC77 := Lib.hid hc77
              have hc88 : ∀ (v u : Value), ((cur.set (j * 9 + 7) v).set (j * 9 + 8) u)[j * 9 + 8]? = some u := fun v u => List.getElem?_set_self (by simp; omega)
              have HC88 := Lib.hid hc88
              have HZD := Lib.hid (And.intro hz (And.intro hD (And.intro d2 (And.intro d1 (And.intro d3 d4)))))
              have HL9 := Lib.hid hlen9
              clear hS hS2 hD hcell hz d1 d2 d3 d4 hfit8 hc77 hc88 hlen9
              have hS := hS3
              clear hS3
              go_wp2_with (first | ((with_reducible show WGd ..); (with_reducible apply wpA_guard); exact rfl; skip) | ((with_reducible show WLd ..); (with_reducible apply wpA_load); exact rfl; exact hS.cell 4 rfl (j * 9 + 7) HC7.out; kernel_rfl) | ((with_reducible show WLd ..); (with_reducible apply wpA_load); exact rfl; exact hS.cell 5 rfl (j * 9 + 7) HC7.out; kernel_rfl) | ((first | ((with_reducible show WBs ..); (with_reducible apply wpA_oneN hS (z := .int .i64 0) (bytes := 8) (size := 1)); exact Try.underlying35; kernel_rfl; exact rfl; exact rfl; exact rfl; exact (by decide); exact (by decide); intro _ wx hS) | ((with_reducible show WBx ..); (with_reducible apply wpA_box hS); exact rfl; exact rfl; intro _ wx hS)); (try simp only [Act.put, List.setIfInBounds_toArray, List.set_cons_zero, List.set_cons_succ]); (try simp only [Act.eval, Array.getD_eq_getD_getElem?, List.getElem?_toArray, List.getElem?_cons_succ, List.getElem?_cons_zero, Option.getD_some, List.set_cons_succ, List.set_cons_zero, Value.cells, List.toList_toArray] at hS)) | ((with_reducible show WAp ..); (with_reducible apply wpA_appendI hS (e := 3) (z := .int .i64 0) (size := 1) (bytes := 8)); exact rfl; exact rfl; exact Try.underlying35; (focus repeat constructor); exact .inr Try.underlying35; kernel_rfl; exact rfl; exact (Src.freshN (m := 1) hS 0 rfl rfl (by rfl)); exact (by unfold maxLen; omega); exact (by omega); intro ao2 cap2 wx hS; (try simp only [Act.put, List.setIfInBounds_toArray, List.set_cons_zero, List.set_cons_succ])) | ((with_reducible show WSt ..); (with_reducible apply wpA_store1 hS 5); exact rfl; exact rfl; exact rfl; exact rfl; exact rfl; exact hfit7; kernel_rfl; intro wx hS; (try simp only [Act.put, List.setIfInBounds_toArray, List.set_cons_zero, List.set_cons_succ]); (try simp only [Act.eval, Array.getD_eq_getD_getElem?, List.getElem?_toArray, List.getElem?_cons_succ, List.getElem?_cons_zero, Option.getD_some, List.set_cons_succ, List.set_cons_zero, Value.cells, List.toList_toArray] at hS); replace hS := hS.tail) | ((with_reducible show WLd ..); (with_reducible apply wpA_load); exact rfl; (first | ((with_reducible apply St.cellI hS); (focus repeat constructor); exact rfl) | assumption); kernel_rfl) | ((with_reducible show WSt ..); (with_reducible apply wpA_store1I hS); exact rfl; (focus repeat constructor); exact rfl; exact rfl; exact rfl; exact rfl; kernel_rfl; intro wx hS; (try simp only [Act.put, List.setIfInBounds_toArray, List.set_cons_zero, List.set_cons_succ]); (try simp only [Act.eval, Array.getD_eq_getD_getElem?, List.getElem?_toArray, List.getElem?_cons_succ, List.getElem?_cons_zero, Option.getD_some, List.set_cons_succ, List.set_cons_zero, Value.cells, List.toList_toArray] at hS)))
              refine wp_region_E 14 hS (by kernel_rfl) (fun _ hR hS => ?_)
              simp only [List.length_cons, List.length_nil, Nat.reduceAdd]
              refine takeP_val (i := 0) ?_ rfl (by exact rfl) (by kernel_rfl) (fun _ _ _ h => h) ?_ hR (fun hR => ?_)
              rotate_left
              · intro w; go_simp; (first | done | (with_reducible rfl) | (refine (if_pos ?_).trans ?_; (focus omega); with_reducible rfl) | skip)
              (simp only [Act.put, List.setIfInBounds_toArray, List.set_cons_zero, List.set_cons_succ])
              refine takeP_val (i := 1) ?_ rfl (by exact rfl) (by kernel_rfl) (fun _ _ _ h => h) ?_ hR (fun hR => ?_)
              rotate_left
              · intro w; go_simp; (first | done | (with_reducible rfl) | (refine (if_pos ?_).trans ?_; (focus omega); with_reducible rfl) | skip)
              (simp only [Act.put, List.setIfInBounds_toArray, List.set_cons_zero, List.set_cons_succ])
              refine takeP_val (i := 2) ?_ rfl (by exact rfl) (by kernel_rfl) (fun _ _ _ h => h) ?_ hR (fun hR => ?_)
              rotate_left
              · intro w; go_simp; (first | done | (with_reducible rfl) | (refine (if_pos ?_).trans ?_; (focus omega); with_reducible rfl) | skip)
              (simp only [Act.put, List.setIfInBounds_toArray, List.set_cons_zero, List.set_cons_succ])
              refine takeP_val (i := 3) ?_ rfl (by exact rfl) (by kernel_rfl) (fun _ _ _ h => h) ?_ hR (fun hR => ?_)
              rotate_left
              · intro w; go_simp; (first | done | (with_reducible rfl) | (refine (if_pos ?_).trans ?_; (focus omega); with_reducible rfl) | skip)
              (simp only [Act.put, List.setIfInBounds_toArray, List.set_cons_zero, List.set_cons_succ])
              refine takeE_load (i := 4) [14] rfl (by exact rfl) (by kernel_rfl) (fun _ _ _ h => h) (by decide) rfl (fun w hS => hS.cell 4 rfl (j * 9 + 7) (HC77.out _)) (by kernel_rfl) hR (fun hR => ?_)
              (simp only [Act.put, List.setIfInBounds_toArray, List.set_cons_zero, List.set_cons_succ])
              refine takeP_val (i := 5) ?_ rfl (by exact rfl) (by kernel_rfl) (fun _ _ _ h => h) ?_ hR (fun hR => ?_)
              rotate_left
              · intro w; go_simp; (first | done | (with_reducible rfl) | (refine (if_pos ?_).trans ?_; (focus omega); with_reducible rfl) | skip)
              (simp only [Act.put, List.setIfInBounds_toArray, List.set_cons_zero, List.set_cons_succ])
              refine takeP_val (i := 6) ?_ rfl (by exact rfl) (by kernel_rfl) (fun _ _ _ h => h) ?_ hR (fun hR => ?_)
              rotate_left
              · intro w; go_simp; (first | done | (with_reducible rfl) | (refine (if_pos ?_).trans ?_; (focus omega); with_reducible rfl) | skip)
              (simp only [Act.put, List.setIfInBounds_toArray, List.set_cons_zero, List.set_cons_succ])
              refine takeP_val (i := 7) ?_ rfl (by exact rfl) (by kernel_rfl) (fun _ _ _ h => h) ?_ hR (fun hR => ?_)
              rotate_left
              · intro w; go_simp; (first | done | (with_reducible rfl) | (refine (if_pos ?_).trans ?_; (focus omega); with_reducible rfl) | skip)
              (simp only [Act.put, List.setIfInBounds_toArray, List.set_cons_zero, List.set_cons_succ])
              refine takeP_val (i := 8) ?_ rfl (by exact rfl) (by kernel_rfl) (fun _ _ _ h => h) ?_ hR (fun hR => ?_)
              rotate_left
              · intro w; go_simp; (first | done | (with_reducible rfl) | (refine (if_pos ?_).trans ?_; (focus omega); with_reducible rfl) | skip)
              (simp only [Act.put, List.setIfInBounds_toArray, List.set_cons_zero, List.set_cons_succ])
              refine takeE_load (i := 9) [14] rfl (by exact rfl) (by kernel_rfl) (fun _ _ _ h => h) (by decide) rfl (fun w hS => by (first | ((with_reducible apply St.cellI hS); (focus repeat constructor); exact rfl) | assumption)) (by kernel_rfl) hR (fun hR => ?_)
              (simp only [Act.put, List.setIfInBounds_toArray, List.set_cons_zero, List.set_cons_succ])
              refine oneE (i := 10) (by kernel_rfl) rfl (by exact rfl) (fun K_ hK_ => ?_)
              (apply opA_call (f := 10) Try.func10 (by kernel_rfl); (focus ((try simp only [List.map_toArray, List.map_cons, List.map_nil, Act.eval, Array.getD_eq_getD_getElem?, List.getElem?_toArray, List.getElem?_cons_succ, List.getElem?_cons_zero, Option.getD_some]); exact rfl)); (focus (with_reducible exact (rmaj_c hS n hn))); rintro _ _ ⟨rfl, hS⟩; refine ⟨_, rfl, ?_⟩; skip)
              refine hK_ _ _ (fun _ => (hS)) ?_; clear hK_ K_
              (simp only [Act.put, List.setIfInBounds_toArray, List.set_cons_zero, List.set_cons_succ])
              refine takeP_val (i := 11) ?_ rfl (by exact rfl) (by kernel_rfl) (fun _ _ _ h => h) ?_ (fun _ => hS) (fun hR => ?_)
              rotate_left
              · intro w; go_simp; (first | done | (with_reducible rfl) | (refine (if_pos ?_).trans ?_; (focus omega); with_reducible rfl) | skip)
              (simp only [Act.put, List.setIfInBounds_toArray, List.set_cons_zero, List.set_cons_succ])
              refine takeP_val (i := 12) ?_ rfl (by exact rfl) (by kernel_rfl) (fun _ _ _ h => h) ?_ hR (fun hR => ?_)
              rotate_left
              · intro w; go_simp; (first | done | (with_reducible rfl) | (refine (if_pos ?_).trans ?_; (focus omega); with_reducible rfl) | skip)
              (simp only [Act.put, List.setIfInBounds_toArray, List.set_cons_zero, List.set_cons_succ])
              refine takeP_val (i := 13) ?_ rfl (by exact rfl) (by kernel_rfl) (fun _ _ _ h => h) ?_ hR (fun hR => ?_)
              rotate_left
              · intro w; go_simp; (first | done | (with_reducible rfl) | (refine (if_pos ?_).trans ?_; (focus omega); with_reducible rfl) | skip)
              (simp only [Act.put, List.setIfInBounds_toArray, List.set_cons_zero, List.set_cons_succ])
              refine oneE (i := 14) (by kernel_rfl) rfl (by exact rfl) (fun K_ hK_ => ?_)
              ((with_reducible apply opA_store1 hS 4); exact rfl; exact rfl; exact rfl; exact rfl; exact rfl; exact HF8.out _; kernel_rfl; intro wx hS; (try simp only [Act.eval, Array.getD_eq_getD_getElem?, List.getElem?_toArray, List.getElem?_cons_succ, List.getElem?_cons_zero, Option.getD_some, List.set_cons_succ, List.set_cons_zero, Value.cells, List.toList_toArray] at hS))
              refine hK_ _ _ (fun h => by cases h) ?_; clear hK_ K_
              (simp only [Act.put, List.setIfInBounds_toArray, List.set_cons_zero, List.set_cons_succ])
              refine wpAnyR_done (by kernel_rfl) ?_ _
              go_wp2_with (first | ((with_reducible show WGd ..); (with_reducible apply wpA_guard); exact rfl; skip) | ((with_reducible show WLd ..); (with_reducible apply wpA_load); exact rfl; exact hS.cell 4 rfl (j * 9 + 8) (HC88.out _ _); kernel_rfl) | ((with_reducible show WLd ..); (with_reducible apply wpA_load); exact rfl; (first | ((with_reducible apply St.cellI hS); (focus repeat constructor); exact rfl) | assumption); kernel_rfl) | ((with_reducible show WSt ..); (with_reducible apply wpA_store1I hS); exact rfl; (focus repeat constructor); exact rfl; exact rfl; exact rfl; exact rfl; kernel_rfl; intro wx hS; (try simp only [Act.put, List.setIfInBounds_toArray, List.set_cons_zero, List.set_cons_succ]); (try simp only [Act.eval, Array.getD_eq_getD_getElem?, List.getElem?_toArray, List.getElem?_cons_succ, List.getElem?_cons_zero, Option.getD_some, List.set_cons_succ, List.set_cons_zero, Value.cells, List.toList_toArray] at hS)) | ((with_reducible show WBx ..); (with_reducible apply wpA_box hS); exact rfl; exact rfl; intro _ wx hS; (try simp only [Act.put, List.setIfInBounds_toArray, List.set_cons_zero, List.set_cons_succ]); (try simp only [Act.eval, Array.getD_eq_getD_getElem?, List.getElem?_toArray, List.getElem?_cons_succ, List.getElem?_cons_zero, Option.getD_some, List.set_cons_succ, List.set_cons_zero, Value.cells, List.toList_toArray] at hS)))
              go_ret
              have hre := HACT.out
              subst hre
              obtain ⟨hz, hD, d2, d1, d3, d4⟩ := HZD.out
              obtain ⟨b, hb'⟩ : ∃ b, decide (majD n ≤ ((xw ++ [k]).length : Int)) = b := ⟨_, rfl⟩
              have hb2 : decide (majD n ≤ (xw.length : Int) + 1) = b := by rw [← hb']; simp
              have hs2 := set_two (z := ⟨wa, wc, ⟨⟨sl, bl, ⟨ck, cs, cq, cn, c5⟩⟩, xw, false⟩⟩) hz d2 HL9.out ao2 cap2 (xw ++ [k]) b
              have el : (xw ++ [k]).length = xw.length + 1 := by simp
              obtain ⟨r1, r2⟩ := row_set (f := SlotR.cells) SlotR.cells_length (y := ⟨ao2, cap2, ⟨⟨sl, bl, ⟨ck, cs, cq, cn, c5⟩⟩, xw ++ [k], b⟩⟩) hlt d2 HL9.out
              simp only at hs2
              rw [← hs2] at r1 r2
              rw [el] at r1 r2
              simp only [hb', hb2]
              refine ⟨rfl, ?_⟩
              rw [hb2] at hS
              have hS4 := hS
              have hS5 := St.cellsRow hS4 4 rfl (n := L.length) (cap := cl) (by rw [← d1]; exact r2) r1 d3 d4
              simp only [List.set_cons_succ, List.set_cons_zero] at hS5
              rw [← hD] at hS5
              have hS7 := St.putIn (w0 := w0) (f := rhp) (A := [rc x ⟨n, ballot, frm, next, who, best, ready, vals, opn⟩ aw who.length cw ab best.length cb av vals.length cv (some ⟨gL, 0, none⟩) L.length cl, irow aw cw who, vrow ab cb best, vrow av cv vals, .row 72 9 (some ⟨gL, 0, none⟩) L.length cl ((L.set j ⟨ao2, cap2, ⟨⟨sl, bl, ⟨ck, cs, cq, cn, c5⟩⟩, xw ++ [k], b⟩⟩).flatMap SlotR.cells)]) (R := R) (z' := ⟨ao2, cap2, ⟨⟨sl, bl, ⟨ck, cs, cq, cn, c5⟩⟩, xw ++ [k], b⟩⟩) hz (by simpa [rhp] using hS5)
              refine ⟨aw, cw, ab, cb, av, cv, some ⟨gL, 0, none⟩, cl, L.set j ⟨ao2, cap2, ⟨⟨sl, bl, ⟨ck, cs, cq, cn, c5⟩⟩, xw ++ [k], b⟩⟩, by rw [List.map_set, HL.out.1], ?_⟩
              have e9 : (opn.set j ⟨⟨sl, bl, ⟨ck, cs, cq, cn, c5⟩⟩, xw ++ [k], b⟩).length = L.length := by rw [List.length_set]; exact HL.out.2
              simp only [e9]
              simpa [lrow] using hS7
        · obtain rfl : j = L.length := by omega
          go_wp2_with (first | ((with_reducible show WGd ..); (with_reducible apply wpA_guard); exact rfl; skip) | ((with_reducible show WLd ..); (with_reducible apply wpA_load); exact rfl; (first | ((with_reducible apply St.cellI hS); (focus repeat constructor); exact rfl) | assumption); kernel_rfl) | ((with_reducible show WSt ..); (with_reducible apply wpA_store1I hS); exact rfl; (focus repeat constructor); exact rfl; exact rfl; exact rfl; exact rfl; kernel_rfl; intro wx hS; (try simp only [Act.put, List.setIfInBounds_toArray, List.set_cons_zero, List.set_cons_succ]); (try simp only [Act.eval, Array.getD_eq_getD_getElem?, List.getElem?_toArray, List.getElem?_cons_succ, List.getElem?_cons_zero, Option.getD_some, List.set_cons_succ, List.set_cons_zero, Value.cells, List.toList_toArray] at hS)) | ((with_reducible show WBx ..); (with_reducible apply wpA_box hS); exact rfl; exact rfl; intro _ wx hS; (try simp only [Act.put, List.setIfInBounds_toArray, List.set_cons_zero, List.set_cons_succ]); (try simp only [Act.eval, Array.getD_eq_getD_getElem?, List.getElem?_toArray, List.getElem?_cons_succ, List.getElem?_cons_zero, Option.getD_some, List.set_cons_succ, List.set_cons_zero, Value.cells, List.toList_toArray] at hS)))
          go_meet
          exact ⟨by have := HJ.out; rwa [List.take_length] at this, hS⟩
    case rest =>
      clear hS
      obtain ⟨hno, hS⟩ := hcut
      have hre := HALL.out hno
      subst hre
      go_wp2_with (first | ((with_reducible show WGd ..); (with_reducible apply wpA_guard); exact rfl; skip) | ((with_reducible show WLd ..); (with_reducible apply wpA_load); exact rfl; (first | ((with_reducible apply St.cellI hS); (focus repeat constructor); exact rfl) | assumption); kernel_rfl) | ((with_reducible show WSt ..); (with_reducible apply wpA_store1I hS); exact rfl; (focus repeat constructor); exact rfl; exact rfl; exact rfl; exact rfl; kernel_rfl; intro wx hS; (try simp only [Act.put, List.setIfInBounds_toArray, List.set_cons_zero, List.set_cons_succ]); (try simp only [Act.eval, Array.getD_eq_getD_getElem?, List.getElem?_toArray, List.getElem?_cons_succ, List.getElem?_cons_zero, Option.getD_some, List.set_cons_succ, List.set_cons_zero, Value.cells, List.toList_toArray] at hS)) | ((with_reducible show WBx ..); (with_reducible apply wpA_box hS); exact rfl; exact rfl; intro _ wx hS; (try simp only [Act.put, List.setIfInBounds_toArray, List.set_cons_zero, List.set_cons_succ]); (try simp only [Act.eval, Array.getD_eq_getD_getElem?, List.getElem?_toArray, List.getElem?_cons_succ, List.getElem?_cons_zero, Option.getD_some, List.set_cons_succ, List.set_cons_zero, Value.cells, List.toList_toArray] at hS)))
      go_ret
      exact ⟨rfl, aw, cw, ab, cb, av, cv, al, cl, L, HL.out.1, by rw [HL.out.2]; exact hS⟩
end
end Go.Proofs.Ytkhjkicnalnibaa
