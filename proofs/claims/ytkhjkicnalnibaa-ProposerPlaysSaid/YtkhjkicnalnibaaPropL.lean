/-
  ProposerPlays, walked: pieces.
-/
import Derived.Test.YtkhjkicnalnibaaPropT
import Derived.Test.YtkhjkicnalnibaaPropF
namespace Go.Proofs.Ytkhjkicnalnibaa
set_option linter.unusedVariables false
set_option linter.unusedSimpArgs false
open Go.RowKit

section
variable {w0 w : World} {x : Nat} {n ballot frm next : Int} {who : List Int} {best vals : List EntS} {ready : Bool} {opn : List SlotS} {aw ab av al : Option Addr} {wl cw bl cb vl cv cl : Nat} {L : List SlotR} {D : List Hp}
set_option maxRecDepth 100000 in
set_option maxHeartbeats 4000000 in
theorem ropen_s (hS : St w0 w (rc x ⟨n, ballot, frm, next, who, best, ready, vals, opn⟩ aw wl cw ab bl cb av vl cv al L.length cl :: lrow al cl L :: D)) (h3 : L.length ≤ 1000000000) :
    Calls Try.prog 24 #[.pointer (some ⟨x, 0, none⟩)] w fun e w' => ∃ ao cap, e = .returned (.slice ao L.length cap) ∧ St w0 w' (vrow ao cap (L.map (fun z => z.s.e)) :: rc x ⟨n, ballot, frm, next, who, best, ready, vals, opn⟩ aw wl cw ab bl cb av vl cv al L.length cl :: lrow al cl L :: D) := by
  have hS := hS.nilRow 30 7
  go_enter Try.func24, Try.ntmps24
  go_wp2_with (first | ((with_reducible show WGd ..); (with_reducible apply wpA_guard); exact rfl; skip) | ((with_reducible show WLd ..); (with_reducible apply wpA_load); exact rfl; (first | ((with_reducible apply St.cellI hS); (focus repeat constructor); exact rfl) | assumption); kernel_rfl) | ((with_reducible show WSt ..); (with_reducible apply wpA_store1I hS); exact rfl; (focus repeat constructor); exact rfl; exact rfl; exact rfl; exact rfl; kernel_rfl; intro wx hS; (try simp only [Act.put, List.setIfInBounds_toArray, List.set_cons_zero, List.set_cons_succ]); (try simp only [Act.eval, Array.getD_eq_getD_getElem?, List.getElem?_toArray, List.getElem?_cons_succ, List.getElem?_cons_zero, Option.getD_some, List.set_cons_succ, List.set_cons_zero, Value.cells, List.toList_toArray] at hS)) | ((with_reducible show WBx ..); (with_reducible apply wpA_box hS); exact rfl; exact rfl; intro _ wx hS; (try simp only [Act.put, List.setIfInBounds_toArray, List.set_cons_zero, List.set_cons_succ]); (try simp only [Act.eval, Array.getD_eq_getD_getElem?, List.getElem?_toArray, List.getElem?_cons_succ, List.getElem?_cons_zero, Option.getD_some, List.set_cons_succ, List.set_cons_zero, Value.cells, List.toList_toArray] at hS)))
  go_loopw [4, 3] (fun c v wr => ∃ (i : Nat) (ao : Option Addr) (cap : Nat), i ≤ L.length ∧ c = .int .i64 i ∧ v = .slice ao i cap ∧
    St w0 wr (.row 30 7 ao i cap (((L.take i).map (fun z => z.s.e)).flatMap EntS.cells) :: rc x ⟨n, ballot, frm, next, who, best, ready, vals, opn⟩ aw wl cw ab bl cb av vl cv al L.length cl :: lrow al cl L :: D)) (fun c _ _ => L.length - (intOf c).toNat)
  case atStart => exact ⟨0, none, 0, Nat.zero_le _, rfl, rfl, hS⟩
  case round =>
    clear hS
    obtain ⟨i, ao, cap, hi, rfl, rfl, hS⟩ := hrel
    by_cases hlt : i < L.length
    · obtain ⟨z, hz⟩ : ∃ z, L[i]? = some z := ⟨_, List.getElem?_eq_getElem hlt⟩
      rcases row_head (hS.at_ 2 rfl) with ⟨_, hh, _⟩ | ⟨⟨gL, rfl⟩, _⟩
      · omega
      have htk : (L.take (i + 1)).map (fun z => z.s.e) = (L.take i).map (fun z => z.s.e) ++ [z.s.e] := by rw [List.take_add_one, hz]; simp
      have HZ := Lib.hid hz
      have HT := Lib.hid htk
      obtain ⟨wa, wc, ⟨⟨sl, bl, ⟨ck, cs, cq, cn, c5⟩⟩, xw, mo1⟩⟩ := z
      simp only at HT
      clear hz htk
      go_wp2_with (first | ((with_reducible show WGd ..); (with_reducible apply wpA_guard); exact rfl; skip) | ((with_reducible show WLd ..); (with_reducible apply wpA_loadN (t := 30)); exact rfl; exact (show wr.rangeAt gL (i * 9) [.int .i64 sl, .int .i64 bl, .int .i64 ck, .int .i64 cs, .int .i64 cq, .string cn, .int .i64 c5] from fun q v hv => row_elem SlotR.cells_length (hS.at_ 2 rfl) HZ.out q v (sub7 hv)); kernel_rfl; kernel_rfl; (try simp only [Act.put, List.setIfInBounds_toArray, List.set_cons_zero, List.set_cons_succ])) | ((first | ((with_reducible show WBs ..); (with_reducible apply wpA_oneN hS (z := .agg #[.int .i64 0, .int .i64 0, .int .i64 0, .int .i64 0, .int .i64 0, .string ⟨#[]⟩, .int .i64 0]) (bytes := 64) (size := 7)); exact Try.underlying26; kernel_rfl; exact rfl; exact rfl; exact rfl; exact (by decide); exact (by decide); intro _ wx hS) | ((with_reducible show WBx ..); (with_reducible apply wpA_box hS); exact rfl; exact rfl; intro _ wx hS)); (try simp only [Act.put, List.setIfInBounds_toArray, List.set_cons_zero, List.set_cons_succ]); (try simp only [Act.eval, Array.getD_eq_getD_getElem?, List.getElem?_toArray, List.getElem?_cons_succ, List.getElem?_cons_zero, Option.getD_some, List.set_cons_succ, List.set_cons_zero, Value.cells, List.toList_toArray] at hS)) | ((with_reducible show WAp ..); (with_reducible apply wpA_appendI hS (e := 30) (z := .agg #[.int .i64 0, .int .i64 0, .int .i64 0, .int .i64 0, .int .i64 0, .string ⟨#[]⟩, .int .i64 0]) (size := 7) (bytes := 64)); exact rfl; exact rfl; exact Try.underlying26; (focus repeat constructor); exact .inr Try.underlying26; kernel_rfl; exact rfl; exact (Src.freshN (m := 1) hS 0 rfl rfl (by rfl)); exact (by unfold maxLen; omega); exact (by omega); intro ao2 cap2 wx hS; (try simp only [Act.put, List.setIfInBounds_toArray, List.set_cons_zero, List.set_cons_succ])) | ((with_reducible show WLd ..); (with_reducible apply wpA_load); exact rfl; (first | ((with_reducible apply St.cellI hS); (focus repeat constructor); exact rfl) | assumption); kernel_rfl) | ((with_reducible show WSt ..); (with_reducible apply wpA_store1I hS); exact rfl; (focus repeat constructor); exact rfl; exact rfl; exact rfl; exact rfl; kernel_rfl; intro wx hS; (try simp only [Act.put, List.setIfInBounds_toArray, List.set_cons_zero, List.set_cons_succ]); (try simp only [Act.eval, Array.getD_eq_getD_getElem?, List.getElem?_toArray, List.getElem?_cons_succ, List.getElem?_cons_zero, Option.getD_some, List.set_cons_succ, List.set_cons_zero, Value.cells, List.toList_toArray] at hS)))
      go_roundw
      case rel =>
        refine ⟨i + 1, ao2, cap2, by omega, by go_num, rfl, ?_⟩
        rw [HT.out, List.flatMap_append]
        exact hS.tail
      case measure => simp [intOf]; omega
    · obtain rfl : i = L.length := by omega
      rw [List.take_length] at hS
      go_wp2_with (first | ((with_reducible show WGd ..); (with_reducible apply wpA_guard); exact rfl; skip) | ((with_reducible show WLd ..); (with_reducible apply wpA_load); exact rfl; (first | ((with_reducible apply St.cellI hS); (focus repeat constructor); exact rfl) | assumption); kernel_rfl) | ((with_reducible show WSt ..); (with_reducible apply wpA_store1I hS); exact rfl; (focus repeat constructor); exact rfl; exact rfl; exact rfl; exact rfl; kernel_rfl; intro wx hS; (try simp only [Act.put, List.setIfInBounds_toArray, List.set_cons_zero, List.set_cons_succ]); (try simp only [Act.eval, Array.getD_eq_getD_getElem?, List.getElem?_toArray, List.getElem?_cons_succ, List.getElem?_cons_zero, Option.getD_some, List.set_cons_succ, List.set_cons_zero, Value.cells, List.toList_toArray] at hS)) | ((with_reducible show WBx ..); (with_reducible apply wpA_box hS); exact rfl; exact rfl; intro _ wx hS; (try simp only [Act.put, List.setIfInBounds_toArray, List.set_cons_zero, List.set_cons_succ]); (try simp only [Act.eval, Array.getD_eq_getD_getElem?, List.getElem?_toArray, List.getElem?_cons_succ, List.getElem?_cons_zero, Option.getD_some, List.set_cons_succ, List.set_cons_zero, Value.cells, List.toList_toArray] at hS)))
      go_ret
      refine ⟨ao, cap, rfl, ?_⟩
      simpa only [vrow, List.length_map] using hS
end

section
variable {w0 w : World} {p x : Nat} {σ τ σ' : PropS} {R : List Hp} {K : Nat} {b : Bool}
theorem tP (h : TwoSt w0 w p σ x τ R) (ok : σ.ok K) (hK : K ≤ 900) (k : Int) (ad : Option Addr) (cap m : Nat) (es : List EntS) (hm : es.length = m) (hl : ∀ w, St w0 w R → Ents w ad es) (hn : σ.n ≤ 1000000000000) (hes : es.length ≤ 1000) (hs : ∀ e ∈ es, e.slot ≤ σ.frm + 1000) (e : promiseD σ k es = (b, σ')) :
    Calls Try.prog 9 #[.pointer (some ⟨p, 0, none⟩), .int .i64 k, .slice ad m cap] w fun e w' => e = .returned (.bool b) ∧ TwoSt w0 w' p σ' x τ R := by
  have := t_promise h ok hK k ad cap m es hm hl hn hes hs
  rwa [e] at this
theorem tRP (h : TwoSt w0 w p τ x σ R) (ok : σ.ok K) (hK : K ≤ 900) (k : Int) (ad : Option Addr) (cap m : Nat) (es : List EntS) (hm : es.length = m) (hl : ∀ w, St w0 w R → Ents w ad es) (hn : σ.n ≤ 1000000000000) (hes : es.length ≤ 1000) (hs : ∀ e ∈ es, e.slot ≤ σ.frm + 1000) (e : promiseD σ k es = (b, σ')) :
    Calls Try.prog 16 #[.pointer (some ⟨x, 0, none⟩), .int .i64 k, .slice ad m cap] w fun e w' => e = .returned (.bool b) ∧ TwoSt w0 w' p τ x σ' R := by
  have := t_rpromise h ok hK k ad cap m es hm hl hn hes hs
  rwa [e] at this
theorem tA (h : TwoSt w0 w p σ x τ R) (ok : σ.ok K) (hK : K ≤ 900) (k s : Int) (hn : σ.n ≤ 1000000000000) (e : acceptedD σ k s = (b, σ')) :
    Calls Try.prog 13 #[.pointer (some ⟨p, 0, none⟩), .int .i64 k, .int .i64 s] w fun e w' => e = .returned (.bool b) ∧ TwoSt w0 w' p σ' x τ R := by
  have := t_accepted h ok hK k s hn
  rwa [e] at this
theorem tRA (h : TwoSt w0 w p τ x σ R) (ok : σ.ok K) (hK : K ≤ 900) (k s : Int) (hn : σ.n ≤ 1000000000000) (e : acceptedD σ k s = (b, σ')) :
    Calls Try.prog 17 #[.pointer (some ⟨x, 0, none⟩), .int .i64 k, .int .i64 s] w fun e w' => e = .returned (.bool b) ∧ TwoSt w0 w' p τ x σ' R := by
  have := t_raccepted h ok hK k s hn
  rwa [e] at this
theorem tO (h : TwoSt w0 w p σ x τ R) (ok : σ.ok K) (hK : K ≤ 900) (c : CmdS) {r : EntS} (e : proposeD σ c = (r, σ')) :
    Calls Try.prog 18 #[.pointer (some ⟨p, 0, none⟩), .agg #[.int .i64 c.kind, .int .i64 c.session, .int .i64 c.seq, .string c.name, .int .i64 c.n]] w fun e w' => e = .returned (.agg #[.int .i64 r.slot, .int .i64 r.ballot, .int .i64 r.cmd.kind, .int .i64 r.cmd.session, .int .i64 r.cmd.seq, .string r.cmd.name, .int .i64 r.cmd.n]) ∧ TwoSt w0 w' p σ' x τ R := by
  have := t_propose h ok hK c
  rwa [e] at this
theorem tRO (h : TwoSt w0 w p τ x σ R) (ok : σ.ok K) (hK : K ≤ 900) (c : CmdS) {r : EntS} (e : proposeD σ c = (r, σ')) :
    Calls Try.prog 19 #[.pointer (some ⟨x, 0, none⟩), .agg #[.int .i64 c.kind, .int .i64 c.session, .int .i64 c.seq, .string c.name, .int .i64 c.n]] w fun e w' => e = .returned (.agg #[.int .i64 r.slot, .int .i64 r.ballot, .int .i64 r.cmd.kind, .int .i64 r.cmd.session, .int .i64 r.cmd.seq, .string r.cmd.name, .int .i64 r.cmd.n]) ∧ TwoSt w0 w' p τ x σ' R := by
  have := t_rpropose h ok hK c
  rwa [e] at this
/-- The reference's cells laid open, beside the proposer. -/
theorem TwoSt.openX (h : TwoSt w0 w p σ x τ R) : ∃ (aw : Option Addr) (cw : Nat) (ab : Option Addr) (cb : Nat) (av : Option Addr) (cv : Nat) (al : Option Addr) (cl : Nat) (L : List SlotR) (E : List Hp), L.map (·.s) = τ.opn ∧
    PropSt w0 w p σ (rc x τ aw τ.who.length cw ab τ.best.length cb av τ.vals.length cv al τ.opn.length cl :: vrow av cv τ.vals :: lrow al cl L :: (E ++ R)) ∧
    ∀ w' σ' R', PropSt w0 w' p σ' (rc x τ aw τ.who.length cw ab τ.best.length cb av τ.vals.length cv al τ.opn.length cl :: vrow av cv τ.vals :: lrow al cl L :: (E ++ R')) → TwoSt w0 w' p σ' x τ R' := by
  obtain ⟨D, hX, _⟩ := h.onX
  obtain ⟨E0, D0, hS, hp, hx⟩ := h
  obtain ⟨aw, cw, ab, cb, av, cv, al, cl, L, hL, hS2⟩ := hx _ _ (hS.perm (List.perm_append_comm_assoc E0 D0 R))
  refine ⟨aw, cw, ab, cb, av, cv, al, cl, L, irow aw cw τ.who :: vrow ab cb τ.best :: L.flatMap rhp, hL, ?_, ?_⟩
  · refine hp _ _ (hS2.perm ?_)
    refine (List.Perm.cons _ (List.perm_append_comm_assoc [_, _] [_, _] _)).trans ?_
    have := List.perm_append_comm_assoc (rc x τ aw τ.who.length cw ab τ.best.length cb av τ.vals.length cv al τ.opn.length cl :: vrow av cv τ.vals :: lrow al cl L :: irow aw cw τ.who :: vrow ab cb τ.best :: L.flatMap rhp) E0 R
    simpa using this
  · intro w' σ' R' h'
    obtain ⟨D', hS', hp'⟩ := h'.use
    refine ⟨D', rc x τ aw τ.who.length cw ab τ.best.length cb av τ.vals.length cv al τ.opn.length cl :: vrow av cv τ.vals :: lrow al cl L :: irow aw cw τ.who :: vrow ab cb τ.best :: L.flatMap rhp, hS', hp', fun w' R' h => ⟨aw, cw, ab, cb, av, cv, al, cl, L, hL, h.perm ?_⟩⟩
    exact List.Perm.cons _ (List.perm_append_comm_assoc [_, _] [_, _] _)
end
end Go.Proofs.Ytkhjkicnalnibaa
