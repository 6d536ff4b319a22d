/-
  LocksTokens, walked.
-/
import Derived.Test.YtelbpnlpmaihhaaLkT
namespace Go.Proofs.Ytelbpnlpmaihhaa
set_option linter.unusedVariables false
set_option linter.unusedSimpArgs false
open Go.RowKit

theorem fit_b {w0 w : World} {H : List Hp} (hS : St w0 w H) (c : CmdS) (hn : c.name.size ≤ 1000000000000000) {b : Bool} (hb : fitB c = b) :
    Calls Try.prog 15 #[.agg #[.int .i64 c.kind, .int .i64 c.session, .int .i64 c.seq, .string c.name, .int .i64 c.n]] w fun e w' => e = .returned (.bool b) ∧ St w0 w' H := by
  subst hb
  exact fit_c hS c hn
theorem Rise.cases_ {t t' : Int} {r : RepS} {rs : List RepS} (h : Rise t (r :: rs) t') : ((r.token = t ∨ r.token = 0) ∧ Rise t rs t') ∨ (r.token = t + 1 ∧ Rise (t + 1) rs t') := by
  cases h with
  | same h hr => exact .inl ⟨h, hr⟩
  | up h hr => exact .inr ⟨h, hr⟩
theorem Rise.nil_ {t t' : Int} (h : Rise t [] t') : t = t' := by
  cases h; rfl

set_option maxRecDepth 100000 in
set_option maxHeartbeats 8000000 in
theorem tokens_v (w0 : World) (l : List DeedL) (from_ : Int) (ao : Option Addr) (cap : Nat) (hl : l.length ≤ 1000000000000000) (hr : ElsAt w0 ao 7 DeedL.cells l) (hq : ∀ d ∈ l, d.c.name.size ≤ 1000000000000000) (hf0 : 0 ≤ from_) (hf1 : from_ ≤ tokLast) :
    Calls Try.prog 4 #[.slice ao l.length cap, .int .u64 from_] w0 fun e w' => e = .returned (.bool true) ∧ St w0 w' [] := by
  have hS := St.init w0
  have HR := Lib.hid hr
  have HQ := Lib.hid hq
  have hli : LI 0 ⟨[], from_⟩ := ⟨⟨hf0, hf1, Nat.zero_le _, fun y hy => absurd hy (List.not_mem_nil)⟩, List.nodup_nil⟩
  clear hr hq hf0 hf1
  go_enter Try.func4, Try.ntmps4
  go_upto_region 4 with (first | ((with_reducible show WGd ..); (with_reducible apply wpA_guard); exact rfl; skip) | (go_at_call 9; with_reducible refine (lnew_c w0 _ _ hS).mono ?_; rintro _ _ ⟨gp, rfl, hL⟩; (obtain ⟨D_, hS, hfin⟩ := LocksSt.opn (A := []) hL; have HF := Lib.hid hfin; clear hfin hL; simp only [List.nil_append] at hS)) | ((with_reducible show WLd ..); (with_reducible apply wpA_loadN (t := 43)); exact rfl; ((with_reducible apply Hp.rangeI hS (n := 7)); (focus repeat constructor)); kernel_rfl; kernel_rfl; (try simp only [Act.put, List.setIfInBounds_toArray, List.set_cons_zero, List.set_cons_succ])) | ((first | ((with_reducible show WAl ..); (with_reducible apply wpA_alloc (t := 43) hS (v := .agg #[.int .i64 0, .int .i64 0, .int .i64 0, .int .i64 0, .string ⟨#[]⟩, .int .i64 0, .int .u64 0])); kernel_rfl; exact rfl; intro _ wx hS) | ((with_reducible show WBx ..); (with_reducible apply wpA_box hS); exact rfl; exact rfl; intro _ wx hS)); (try simp only [Act.put, List.setIfInBounds_toArray, List.set_cons_zero, List.set_cons_succ]); (try simp only [Act.eval, Array.getD_eq_getD_getElem?, List.getElem?_toArray, List.getElem?_cons_succ, List.getElem?_cons_zero, Option.getD_some, List.set_cons_succ, List.set_cons_zero, Value.cells, List.toList_toArray] at hS)) | ((with_reducible show WLd ..); (with_reducible apply wpA_loadN (t := 30)); exact rfl; ((with_reducible apply Hp.rangeI hS (n := 5)); (focus repeat constructor)); kernel_rfl; kernel_rfl; (try simp only [Act.put, List.setIfInBounds_toArray, List.set_cons_zero, List.set_cons_succ])) | ((with_reducible show WSt ..); (with_reducible apply wpA_storeI hS); exact rfl; (focus repeat constructor); exact rfl; exact rfl; exact rfl; exact (Nat.le_of_ble_eq_true rfl); kernel_rfl; intro wx hS; (try simp only [Act.put, List.setIfInBounds_toArray, List.set_cons_zero, List.set_cons_succ]); (try simp only [Act.eval, Array.getD_eq_getD_getElem?, List.getElem?_toArray, List.getElem?_cons_succ, List.getElem?_cons_zero, Option.getD_some, List.set_cons_succ, List.set_cons_zero, Value.cells, List.toList_toArray] at hS); (try simp only [List.take_zero, List.take_succ_cons, List.nil_append, List.cons_append, List.length_cons, List.length_nil, Nat.reduceAdd, Nat.zero_add, List.drop_succ_cons, List.drop_zero, List.drop_nil, List.append_nil] at hS)) | ((with_reducible show WLd ..); (with_reducible apply wpA_load); exact rfl; (first | ((with_reducible apply St.cellI hS); (focus repeat constructor); exact rfl) | assumption); kernel_rfl) | ((with_reducible show WSt ..); (with_reducible apply wpA_store1I hS); exact rfl; (focus repeat constructor); exact rfl; exact rfl; exact rfl; exact rfl; kernel_rfl; intro wx hS; (try simp only [Act.put, List.setIfInBounds_toArray, List.set_cons_zero, List.set_cons_succ]); (try simp only [Act.eval, Array.getD_eq_getD_getElem?, List.getElem?_toArray, List.getElem?_cons_succ, List.getElem?_cons_zero, Option.getD_some, List.set_cons_succ, List.set_cons_zero, Value.cells, List.toList_toArray] at hS)))
  go_upto_block 0 with (first | ((with_reducible show WGd ..); (with_reducible apply wpA_guard); exact rfl; skip) | (go_at_call 14; skip; have hL := HF.out _ [] hS; clear hS HF; (with_reducible refine (settok_c w0 _ _ _ _ from_ hL).mono ?_); rintro _ _ ⟨⟨_, rfl⟩, hL⟩; (obtain ⟨D_, hS, hfin⟩ := LocksSt.opn (A := []) hL); have HF := Lib.hid hfin; clear hfin hL; (try simp only [List.cons_append, List.nil_append] at hS); skip) | ((with_reducible show WLd ..); (with_reducible apply wpA_load); exact rfl; (first | ((with_reducible apply St.cellI hS); (focus repeat constructor); exact rfl) | assumption); kernel_rfl) | ((with_reducible show WSt ..); (with_reducible apply wpA_store1I hS); exact rfl; (focus repeat constructor); exact rfl; exact rfl; exact rfl; exact rfl; kernel_rfl; intro wx hS; (try simp only [Act.put, List.setIfInBounds_toArray, List.set_cons_zero, List.set_cons_succ]); (try simp only [Act.eval, Array.getD_eq_getD_getElem?, List.getElem?_toArray, List.getElem?_cons_succ, List.getElem?_cons_zero, Option.getD_some, List.set_cons_succ, List.set_cons_zero, Value.cells, List.toList_toArray] at hS)) | ((with_reducible show WBx ..); (with_reducible apply wpA_box hS); exact rfl; exact rfl; intro _ wx hS; (try simp only [Act.put, List.setIfInBounds_toArray, List.set_cons_zero, List.set_cons_succ]); (try simp only [Act.eval, Array.getD_eq_getD_getElem?, List.getElem?_toArray, List.getElem?_cons_succ, List.getElem?_cons_zero, Option.getD_some, List.set_cons_succ, List.set_cons_zero, Value.cells, List.toList_toArray] at hS)))
  have hL := HF.out _ [] hS
  clear hS HF
  go_cut [] (fun wr => St w0 wr [])
  case first =>
    go_wp2_with (first | ((with_reducible show WGd ..); (with_reducible apply wpA_guard); exact rfl; skip) | ((with_reducible show WLd ..); (with_reducible apply wpA_load); exact rfl; (first | ((with_reducible apply St.cellI hS); (focus repeat constructor); exact rfl) | assumption); kernel_rfl) | ((with_reducible show WSt ..); (with_reducible apply wpA_store1I hS); exact rfl; (focus repeat constructor); exact rfl; exact rfl; exact rfl; exact rfl; kernel_rfl; intro wx hS; (try simp only [Act.put, List.setIfInBounds_toArray, List.set_cons_zero, List.set_cons_succ]); (try simp only [Act.eval, Array.getD_eq_getD_getElem?, List.getElem?_toArray, List.getElem?_cons_succ, List.getElem?_cons_zero, Option.getD_some, List.set_cons_succ, List.set_cons_zero, Value.cells, List.toList_toArray] at hS)) | ((with_reducible show WBx ..); (with_reducible apply wpA_box hS); exact rfl; exact rfl; intro _ wx hS; (try simp only [Act.put, List.setIfInBounds_toArray, List.set_cons_zero, List.set_cons_succ]); (try simp only [Act.eval, Array.getD_eq_getD_getElem?, List.getElem?_toArray, List.getElem?_cons_succ, List.getElem?_cons_zero, Option.getD_some, List.set_cons_succ, List.set_cons_zero, Value.cells, List.toList_toArray] at hS)))
    go_loopw [6] (fun v6 wr => ∃ (i : Nat) (σ : LocksS), i ≤ l.length ∧ i ≤ 200 ∧ v6 = .int .i64 i ∧ Hid (LI i σ) ∧ LocksSt w0 wr gp σ []) (fun v6 _ => l.length - (intOf v6).toNat)
    case atStart => exact ⟨0, _, Nat.zero_le _, Nat.zero_le _, rfl, Lib.hid hli, hL⟩
    case round =>
      clear hL hli
      obtain ⟨i, σ, hi, hi2, rfl, HI, hL⟩ := hrel
      by_cases k1 : i < l.length
      case neg =>
        have hcd : decide ((i : Int) < (l.length : Int)) = false := by simpa using k1
        go_wp2_with (first | ((with_reducible show WGd ..); (with_reducible apply wpA_guard); exact rfl; skip) | ((with_reducible show WLd ..); (with_reducible apply wpA_load); exact rfl; (first | ((with_reducible apply St.cellI hS); (focus repeat constructor); exact rfl) | assumption); kernel_rfl) | ((with_reducible show WSt ..); (with_reducible apply wpA_store1I hS); exact rfl; (focus repeat constructor); exact rfl; exact rfl; exact rfl; exact rfl; kernel_rfl; intro wx hS; (try simp only [Act.put, List.setIfInBounds_toArray, List.set_cons_zero, List.set_cons_succ]); (try simp only [Act.eval, Array.getD_eq_getD_getElem?, List.getElem?_toArray, List.getElem?_cons_succ, List.getElem?_cons_zero, Option.getD_some, List.set_cons_succ, List.set_cons_zero, Value.cells, List.toList_toArray] at hS)) | ((with_reducible show WBx ..); (with_reducible apply wpA_box hS); exact rfl; exact rfl; intro _ wx hS; (try simp only [Act.put, List.setIfInBounds_toArray, List.set_cons_zero, List.set_cons_succ]); (try simp only [Act.eval, Array.getD_eq_getD_getElem?, List.getElem?_toArray, List.getElem?_cons_succ, List.getElem?_cons_zero, Option.getD_some, List.set_cons_succ, List.set_cons_zero, Value.cells, List.toList_toArray] at hS)))
        go_meet
        exact hL.rest
      have hcd : decide ((i : Int) < (l.length : Int)) = true := by simpa using k1
      by_cases k2 : i < 200
      case neg =>
        have hcd2 : decide ((i : Int) < 200) = false := by simp; omega
        go_wp2_with (first | ((with_reducible show WGd ..); (with_reducible apply wpA_guard); exact rfl; skip) | ((with_reducible show WLd ..); (with_reducible apply wpA_load); exact rfl; (first | ((with_reducible apply St.cellI hS); (focus repeat constructor); exact rfl) | assumption); kernel_rfl) | ((with_reducible show WSt ..); (with_reducible apply wpA_store1I hS); exact rfl; (focus repeat constructor); exact rfl; exact rfl; exact rfl; exact rfl; kernel_rfl; intro wx hS; (try simp only [Act.put, List.setIfInBounds_toArray, List.set_cons_zero, List.set_cons_succ]); (try simp only [Act.eval, Array.getD_eq_getD_getElem?, List.getElem?_toArray, List.getElem?_cons_succ, List.getElem?_cons_zero, Option.getD_some, List.set_cons_succ, List.set_cons_zero, Value.cells, List.toList_toArray] at hS)) | ((with_reducible show WBx ..); (with_reducible apply wpA_box hS); exact rfl; exact rfl; intro _ wx hS; (try simp only [Act.put, List.setIfInBounds_toArray, List.set_cons_zero, List.set_cons_succ]); (try simp only [Act.eval, Array.getD_eq_getD_getElem?, List.getElem?_toArray, List.getElem?_cons_succ, List.getElem?_cons_zero, Option.getD_some, List.set_cons_succ, List.set_cons_zero, Value.cells, List.toList_toArray] at hS)))
        go_meet
        exact hL.rest
      have hcd2 : decide ((i : Int) < 200) = true := by simp; omega
      obtain ⟨d, hd⟩ : ∃ d, l[i]? = some d := ⟨_, List.getElem?_eq_getElem k1⟩
      obtain ⟨b0, off, rfl, hcl⟩ := HR.out i d hd
      have hnm := HQ.out d (List.mem_of_getElem? hd)
      have hra : ∀ w H, St w0 w H → w.rangeAt b0 (off + i * 7) d.cells := fun w H h q v hv => h.oldCell (hcl q v hv)
      have HRA := Lib.hid hra
      clear hra hcl hd
      obtain ⟨dk, ⟨ck, cs, cq, cn, c5⟩, dt⟩ := d
      simp only [DeedL.cells] at HRA hnm
      obtain ⟨D_, hS, hfin⟩ := LocksSt.opn (A := []) hL
      simp only [List.nil_append] at hS
      have HF := Lib.hid hfin
      clear hfin hL
      cases hfb : fitB ⟨ck, cs, cq, cn, c5⟩ with
      | false =>
        have HFB := Lib.hid hfb
        clear hfb
        go_wp2_with (first | ((with_reducible show WGd ..); (with_reducible apply wpA_guard); exact rfl; skip) | ((with_reducible show WLd ..); (with_reducible apply wpA_loadN (t := 43)); exact rfl; exact (HRA.out _ _ hS); kernel_rfl; kernel_rfl; (try simp only [Act.put, List.setIfInBounds_toArray, List.set_cons_zero, List.set_cons_succ])) | ((first | ((with_reducible show WAl ..); (with_reducible apply wpA_alloc (t := 43) hS (v := .agg #[.int .i64 0, .int .i64 0, .int .i64 0, .int .i64 0, .string ⟨#[]⟩, .int .i64 0, .int .u64 0])); kernel_rfl; exact rfl; intro vd wx hS) | ((with_reducible show WBx ..); (with_reducible apply wpA_box hS); exact rfl; exact rfl; intro _ wx hS)); (try simp only [Act.put, List.setIfInBounds_toArray, List.set_cons_zero, List.set_cons_succ]); (try simp only [Act.eval, Array.getD_eq_getD_getElem?, List.getElem?_toArray, List.getElem?_cons_succ, List.getElem?_cons_zero, Option.getD_some, List.set_cons_succ, List.set_cons_zero, Value.cells, List.toList_toArray] at hS)) | ((with_reducible show WSt ..); (with_reducible apply wpA_storeI hS); exact rfl; (focus repeat constructor); exact rfl; exact rfl; exact rfl; exact (Nat.le_of_ble_eq_true rfl); kernel_rfl; intro wx hS; (try simp only [Act.put, List.setIfInBounds_toArray, List.set_cons_zero, List.set_cons_succ]); (try simp only [Act.eval, Array.getD_eq_getD_getElem?, List.getElem?_toArray, List.getElem?_cons_succ, List.getElem?_cons_zero, Option.getD_some, List.set_cons_succ, List.set_cons_zero, Value.cells, List.toList_toArray] at hS); (try simp only [List.take_zero, List.take_succ_cons, List.nil_append, List.cons_append, List.length_cons, List.length_nil, Nat.reduceAdd, Nat.zero_add, List.drop_succ_cons, List.drop_zero, List.drop_nil, List.append_nil] at hS)) | ((with_reducible show WLd ..); (with_reducible apply wpA_loadN (t := 30)); exact rfl; exact Hp.range hS 0 rfl 1 5; kernel_rfl; kernel_rfl; (try simp only [Act.put, List.setIfInBounds_toArray, List.set_cons_zero, List.set_cons_succ])) | (go_at_call 15; with_reducible refine (fit_b hS ⟨ck, cs, cq, cn, c5⟩ hnm HFB.out).mono ?_; rintro _ _ ⟨rfl, hS⟩) | ((with_reducible show WLd ..); (with_reducible apply wpA_load); exact rfl; (first | ((with_reducible apply St.cellI hS); (focus repeat constructor); exact rfl) | assumption); kernel_rfl) | ((with_reducible show WSt ..); (with_reducible apply wpA_store1I hS); exact rfl; (focus repeat constructor); exact rfl; exact rfl; exact rfl; exact rfl; kernel_rfl; intro wx hS; (try simp only [Act.put, List.setIfInBounds_toArray, List.set_cons_zero, List.set_cons_succ]); (try simp only [Act.eval, Array.getD_eq_getD_getElem?, List.getElem?_toArray, List.getElem?_cons_succ, List.getElem?_cons_zero, Option.getD_some, List.set_cons_succ, List.set_cons_zero, Value.cells, List.toList_toArray] at hS)))
        have hL := HF.out _ [] hS.tail
        clear hS HF
        go_roundw
        case rel => exact ⟨i + 1, σ, by omega, by omega, by go_num, Lib.hid HI.out.mono, hL⟩
        case measure => simp [intOf]; omega
      | true =>
        have HFB := Lib.hid hfb
        clear hfb
        obtain ⟨was, hwas⟩ : ∃ was, σ.tok = was := ⟨_, rfl⟩
        have HW := Lib.hid hwas
        have htk := fun w R h => token_c w0 w R gp σ h
        rw [hwas] at htk
        have hw0 : 0 ≤ was := by rw [← hwas]; exact HI.out.ok.t0
        have HTK := Lib.hid htk
        clear htk hwas
        go_upto_block 2 with (first | ((with_reducible show WGd ..); (with_reducible apply wpA_guard); exact rfl; skip) | ((with_reducible show WLd ..); (with_reducible apply wpA_loadN (t := 43)); exact rfl; exact (HRA.out _ _ hS); kernel_rfl; kernel_rfl; (try simp only [Act.put, List.setIfInBounds_toArray, List.set_cons_zero, List.set_cons_succ])) | ((first | ((with_reducible show WAl ..); (with_reducible apply wpA_alloc (t := 43) hS (v := .agg #[.int .i64 0, .int .i64 0, .int .i64 0, .int .i64 0, .string ⟨#[]⟩, .int .i64 0, .int .u64 0])); kernel_rfl; exact rfl; intro vd wx hS) | ((with_reducible show WBx ..); (with_reducible apply wpA_box hS); exact rfl; exact rfl; intro _ wx hS)); (try simp only [Act.put, List.setIfInBounds_toArray, List.set_cons_zero, List.set_cons_succ]); (try simp only [Act.eval, Array.getD_eq_getD_getElem?, List.getElem?_toArray, List.getElem?_cons_succ, List.getElem?_cons_zero, Option.getD_some, List.set_cons_succ, List.set_cons_zero, Value.cells, List.toList_toArray] at hS)) | ((with_reducible show WSt ..); (with_reducible apply wpA_storeI hS); exact rfl; (focus repeat constructor); exact rfl; exact rfl; exact rfl; exact (Nat.le_of_ble_eq_true rfl); kernel_rfl; intro wx hS; (try simp only [Act.put, List.setIfInBounds_toArray, List.set_cons_zero, List.set_cons_succ]); (try simp only [Act.eval, Array.getD_eq_getD_getElem?, List.getElem?_toArray, List.getElem?_cons_succ, List.getElem?_cons_zero, Option.getD_some, List.set_cons_succ, List.set_cons_zero, Value.cells, List.toList_toArray] at hS); (try simp only [List.take_zero, List.take_succ_cons, List.nil_append, List.cons_append, List.length_cons, List.length_nil, Nat.reduceAdd, Nat.zero_add, List.drop_succ_cons, List.drop_zero, List.drop_nil, List.append_nil] at hS)) | ((with_reducible show WLd ..); (with_reducible apply wpA_loadN (t := 30)); exact rfl; exact Hp.range hS 0 rfl 1 5; kernel_rfl; kernel_rfl; (try simp only [Act.put, List.setIfInBounds_toArray, List.set_cons_zero, List.set_cons_succ])) | (go_at_call 15; with_reducible refine (fit_b hS ⟨ck, cs, cq, cn, c5⟩ hnm HFB.out).mono ?_; rintro _ _ ⟨rfl, hS⟩) | (go_at_call 16; skip; have hL := HF.out _ [_] hS; clear hS HF; (with_reducible refine (HTK.out _ _ hL).mono ?_); rintro _ _ ⟨rfl, hL⟩; (obtain ⟨D_, hS, hfin⟩ := LocksSt.opn (A := [_]) hL); have HF := Lib.hid hfin; clear hfin hL; (try simp only [List.cons_append, List.nil_append] at hS); skip) | ((with_reducible show WLd ..); (with_reducible apply wpA_load); exact rfl; (first | ((with_reducible apply St.cellI hS); (focus repeat constructor); exact rfl) | assumption); kernel_rfl) | ((with_reducible show WSt ..); (with_reducible apply wpA_store1I hS); exact rfl; (focus repeat constructor); exact rfl; exact rfl; exact rfl; exact rfl; kernel_rfl; intro wx hS; (try simp only [Act.put, List.setIfInBounds_toArray, List.set_cons_zero, List.set_cons_succ]); (try simp only [Act.eval, Array.getD_eq_getD_getElem?, List.getElem?_toArray, List.getElem?_cons_succ, List.getElem?_cons_zero, Option.getD_some, List.set_cons_succ, List.set_cons_zero, Value.cells, List.toList_toArray] at hS)))
        (try simp only [Act.put, List.setIfInBounds_toArray, List.set_cons_zero, List.set_cons_succ])
        go_cut [9] (fun v9 wr => ∃ (rs : List RepS) (σ' : LocksS) (ao : Option Addr) (cap : Nat), v9 = .slice ao rs.length cap ∧ Hid (LI (i + 1) σ' ∧ Rise was rs σ'.tok ∧ rs.length ≤ 1000000000) ∧ LocksSt w0 wr gp σ' (.row 38 5 ao (rs).length cap ((rs).flatMap RepS.cells) :: []))
        case first =>
          by_cases d0 : dk = 0
          · subst d0
            obtain ⟨⟨rs, bb, σ'⟩, hq⟩ : ∃ q, askD σ ⟨ck, cs, cq, cn, c5⟩ = q := ⟨_, rfl⟩
            obtain ⟨f1, f2, f3⟩ := ask_facts HI.out ⟨ck, cs, cq, cn, c5⟩
            have hak := fun w R h => ask_c w0 w R gp σ ⟨ck, cs, cq, cn, c5⟩ h (HI.out.ok7 (by omega))
            rw [hq] at f1 f2 f3 hak
            rw [HW.out] at f2
            have HF3 := Lib.hid (And.intro f1 (And.intro f2 (show rs.length ≤ 1000000000 by simp only at f3; omega)))
            have HAK := Lib.hid hak
            (try simp only [AskP] at HAK)
            clear f1 f2 f3 hak hq
            go_wp2_with (first | ((with_reducible show WGd ..); (with_reducible apply wpA_guard); exact rfl; skip) | ((with_reducible show WLd ..); (with_reducible apply wpA_loadN (t := 30)); exact rfl; exact Hp.range hS 0 rfl 1 5; kernel_rfl; kernel_rfl; (try simp only [Act.put, List.setIfInBounds_toArray, List.set_cons_zero, List.set_cons_succ])) | (go_at_call 10; skip; have hL := HF.out _ [_] hS; clear hS HF; (with_reducible refine (HAK.out _ _ hL).mono ?_); rintro _ _ ⟨a2, c2, rfl, hL⟩; (obtain ⟨D_, hS, hfin⟩ := LocksSt.opn (A := [_, _]) hL); have HF := Lib.hid hfin; clear hfin hL; (try simp only [List.cons_append, List.nil_append] at hS); skip) | ((with_reducible show WLd ..); (with_reducible apply wpA_load); exact rfl; (first | ((with_reducible apply St.cellI hS); (focus repeat constructor); exact rfl) | assumption); kernel_rfl) | ((with_reducible show WSt ..); (with_reducible apply wpA_store1I hS); exact rfl; (focus repeat constructor); exact rfl; exact rfl; exact rfl; exact rfl; kernel_rfl; intro wx hS; (try simp only [Act.put, List.setIfInBounds_toArray, List.set_cons_zero, List.set_cons_succ]); (try simp only [Act.eval, Array.getD_eq_getD_getElem?, List.getElem?_toArray, List.getElem?_cons_succ, List.getElem?_cons_zero, Option.getD_some, List.set_cons_succ, List.set_cons_zero, Value.cells, List.toList_toArray] at hS)) | ((with_reducible show WBx ..); (with_reducible apply wpA_box hS); exact rfl; exact rfl; intro _ wx hS; (try simp only [Act.put, List.setIfInBounds_toArray, List.set_cons_zero, List.set_cons_succ]); (try simp only [Act.eval, Array.getD_eq_getD_getElem?, List.getElem?_toArray, List.getElem?_cons_succ, List.getElem?_cons_zero, Option.getD_some, List.set_cons_succ, List.set_cons_zero, Value.cells, List.toList_toArray] at hS)))
            have hL := (HF.out _ [_, _] hS).sub (.cons_cons _ (.cons _ (List.Sublist.refl _)))
            clear hS HF
            go_meet
            exact ⟨rs, σ', a2, c2, rfl, HF3, hL⟩
          have e0 : (dk == 0) = false := by simpa using d0
          by_cases d1 : dk = 1
          · subst d1
            obtain ⟨⟨rs, σ'⟩, hq⟩ : ∃ q, relD σ ⟨ck, cs, cq, cn, c5⟩ = q := ⟨_, rfl⟩
            obtain ⟨f1, f2, f3⟩ := rel_facts HI.out ⟨ck, cs, cq, cn, c5⟩
            have hak := fun w R h => release_c w0 w R gp σ ⟨ck, cs, cq, cn, c5⟩ h (HI.out.ok7 (by omega))
            rw [hq] at f1 f2 f3 hak
            rw [HW.out] at f2
            have HF3 := Lib.hid (And.intro f1.mono (And.intro f2 (show rs.length ≤ 1000000000 by simp only at f3; omega)))
            have HAK := Lib.hid hak
            (try simp only [RelP] at HAK)
            clear f1 f2 f3 hak hq
            go_wp2_with (first | ((with_reducible show WGd ..); (with_reducible apply wpA_guard); exact rfl; skip) | ((with_reducible show WLd ..); (with_reducible apply wpA_loadN (t := 30)); exact rfl; exact Hp.range hS 0 rfl 1 5; kernel_rfl; kernel_rfl; (try simp only [Act.put, List.setIfInBounds_toArray, List.set_cons_zero, List.set_cons_succ])) | (go_at_call 13; skip; have hL := HF.out _ [_] hS; clear hS HF; (with_reducible refine (HAK.out _ _ hL).mono ?_); rintro _ _ ⟨a2, c2, rfl, hL⟩; (obtain ⟨D_, hS, hfin⟩ := LocksSt.opn (A := [_, _]) hL); have HF := Lib.hid hfin; clear hfin hL; (try simp only [List.cons_append, List.nil_append] at hS); skip) | ((with_reducible show WLd ..); (with_reducible apply wpA_load); exact rfl; (first | ((with_reducible apply St.cellI hS); (focus repeat constructor); exact rfl) | assumption); kernel_rfl) | ((with_reducible show WSt ..); (with_reducible apply wpA_store1I hS); exact rfl; (focus repeat constructor); exact rfl; exact rfl; exact rfl; exact rfl; kernel_rfl; intro wx hS; (try simp only [Act.put, List.setIfInBounds_toArray, List.set_cons_zero, List.set_cons_succ]); (try simp only [Act.eval, Array.getD_eq_getD_getElem?, List.getElem?_toArray, List.getElem?_cons_succ, List.getElem?_cons_zero, Option.getD_some, List.set_cons_succ, List.set_cons_zero, Value.cells, List.toList_toArray] at hS)) | ((with_reducible show WBx ..); (with_reducible apply wpA_box hS); exact rfl; exact rfl; intro _ wx hS; (try simp only [Act.put, List.setIfInBounds_toArray, List.set_cons_zero, List.set_cons_succ]); (try simp only [Act.eval, Array.getD_eq_getD_getElem?, List.getElem?_toArray, List.getElem?_cons_succ, List.getElem?_cons_zero, Option.getD_some, List.set_cons_succ, List.set_cons_zero, Value.cells, List.toList_toArray] at hS)))
            have hL := (HF.out _ [_, _] hS).sub (.cons_cons _ (.cons _ (List.Sublist.refl _)))
            clear hS HF
            go_meet
            exact ⟨rs, σ', a2, c2, rfl, HF3, hL⟩
          have e1 : (dk == 1) = false := by simpa using d1
          by_cases d2 : dk = 2
          · subst d2
            obtain ⟨⟨rs, σ'⟩, hq⟩ : ∃ q, goneD σ cs = q := ⟨_, rfl⟩
            obtain ⟨f1, f2, f3⟩ := gone_facts HI.out cs
            have hak := fun w R h => gone_c w0 w R gp σ cs h HI.out (by omega)
            rw [hq] at f1 f2 f3 hak
            rw [HW.out] at f2
            have HF3 := Lib.hid (And.intro f1.mono (And.intro f2 (show rs.length ≤ 1000000000 by simp only at f3; omega)))
            have HAK := Lib.hid hak
            (try simp only [RelP] at HAK)
            clear f1 f2 f3 hak hq
            go_wp2_with (first | ((with_reducible show WGd ..); (with_reducible apply wpA_guard); exact rfl; skip) | (go_at_call 17; skip; have hL := HF.out _ [_] hS; clear hS HF; (with_reducible refine (HAK.out _ _ hL).mono ?_); rintro _ _ ⟨a2, c2, rfl, hL⟩; (obtain ⟨D_, hS, hfin⟩ := LocksSt.opn (A := [_, _]) hL); have HF := Lib.hid hfin; clear hfin hL; (try simp only [List.cons_append, List.nil_append] at hS); skip) | ((with_reducible show WLd ..); (with_reducible apply wpA_load); exact rfl; (first | ((with_reducible apply St.cellI hS); (focus repeat constructor); exact rfl) | assumption); kernel_rfl) | ((with_reducible show WSt ..); (with_reducible apply wpA_store1I hS); exact rfl; (focus repeat constructor); exact rfl; exact rfl; exact rfl; exact rfl; kernel_rfl; intro wx hS; (try simp only [Act.put, List.setIfInBounds_toArray, List.set_cons_zero, List.set_cons_succ]); (try simp only [Act.eval, Array.getD_eq_getD_getElem?, List.getElem?_toArray, List.getElem?_cons_succ, List.getElem?_cons_zero, Option.getD_some, List.set_cons_succ, List.set_cons_zero, Value.cells, List.toList_toArray] at hS)) | ((with_reducible show WBx ..); (with_reducible apply wpA_box hS); exact rfl; exact rfl; intro _ wx hS; (try simp only [Act.put, List.setIfInBounds_toArray, List.set_cons_zero, List.set_cons_succ]); (try simp only [Act.eval, Array.getD_eq_getD_getElem?, List.getElem?_toArray, List.getElem?_cons_succ, List.getElem?_cons_zero, Option.getD_some, List.set_cons_succ, List.set_cons_zero, Value.cells, List.toList_toArray] at hS)))
            have hL := (HF.out _ [_, _] hS).sub (.cons_cons _ (.cons _ (List.Sublist.refl _)))
            clear hS HF
            go_meet
            exact ⟨rs, σ', a2, c2, rfl, HF3, hL⟩
          have e2 : (dk == 2) = false := by simpa using d2
          go_wp2_with (first | ((with_reducible show WGd ..); (with_reducible apply wpA_guard); exact rfl; skip) | ((with_reducible show WLd ..); (with_reducible apply wpA_load); exact rfl; (first | ((with_reducible apply St.cellI hS); (focus repeat constructor); exact rfl) | assumption); kernel_rfl) | ((with_reducible show WSt ..); (with_reducible apply wpA_store1I hS); exact rfl; (focus repeat constructor); exact rfl; exact rfl; exact rfl; exact rfl; kernel_rfl; intro wx hS; (try simp only [Act.put, List.setIfInBounds_toArray, List.set_cons_zero, List.set_cons_succ]); (try simp only [Act.eval, Array.getD_eq_getD_getElem?, List.getElem?_toArray, List.getElem?_cons_succ, List.getElem?_cons_zero, Option.getD_some, List.set_cons_succ, List.set_cons_zero, Value.cells, List.toList_toArray] at hS)) | ((with_reducible show WBx ..); (with_reducible apply wpA_box hS); exact rfl; exact rfl; intro _ wx hS; (try simp only [Act.put, List.setIfInBounds_toArray, List.set_cons_zero, List.set_cons_succ]); (try simp only [Act.eval, Array.getD_eq_getD_getElem?, List.getElem?_toArray, List.getElem?_cons_succ, List.getElem?_cons_zero, Option.getD_some, List.set_cons_succ, List.set_cons_zero, Value.cells, List.toList_toArray] at hS)))
          have hL := HF.out _ [_] (hS.tail.nilRow 38 5)
          clear hS HF
          go_meet
          exact ⟨[], σ, none, 0, rfl, Lib.hid ⟨HI.out.mono, by rw [HW.out]; exact .nil _, Nat.zero_le _⟩, hL⟩
        case rest =>
          clear hS HF HTK HRA HFB
          obtain ⟨rs, σ', ao2, cap2, rfl, HF3, hL⟩ := hcut
          obtain ⟨now, hnow⟩ : ∃ now, σ'.tok = now := ⟨_, rfl⟩
          have htk := fun w R h => token_c w0 w R gp σ' h
          rw [hnow] at htk HF3
          have HTK := Lib.hid htk
          have hle := HF3.out.2.1.le
          have hrl := HF3.out.2.2
          have hnw : decide (now < was) = false := by simp; omega
          obtain ⟨D_, hS, hfin⟩ := LocksSt.opn (A := [_]) hL
          simp only [List.cons_append, List.nil_append] at hS
          have HF := Lib.hid hfin
          clear hfin hL htk hnow
          go_upto_block 3 with (first | ((with_reducible show WGd ..); (with_reducible apply wpA_guard); exact rfl; skip) | (go_at_call 16; skip; have hL := HF.out _ [_] hS; clear hS HF; (with_reducible refine (HTK.out _ _ hL).mono ?_); rintro _ _ ⟨rfl, hL⟩; (obtain ⟨D_, hS, hfin⟩ := LocksSt.opn (A := [_]) hL); have HF := Lib.hid hfin; clear hfin hL; (try simp only [List.cons_append, List.nil_append] at hS); skip) | ((with_reducible show WLd ..); (with_reducible apply wpA_load); exact rfl; (first | ((with_reducible apply St.cellI hS); (focus repeat constructor); exact rfl) | assumption); kernel_rfl) | ((with_reducible show WSt ..); (with_reducible apply wpA_store1I hS); exact rfl; (focus repeat constructor); exact rfl; exact rfl; exact rfl; exact rfl; kernel_rfl; intro wx hS; (try simp only [Act.put, List.setIfInBounds_toArray, List.set_cons_zero, List.set_cons_succ]); (try simp only [Act.eval, Array.getD_eq_getD_getElem?, List.getElem?_toArray, List.getElem?_cons_succ, List.getElem?_cons_zero, Option.getD_some, List.set_cons_succ, List.set_cons_zero, Value.cells, List.toList_toArray] at hS)) | ((with_reducible show WBx ..); (with_reducible apply wpA_box hS); exact rfl; exact rfl; intro _ wx hS; (try simp only [Act.put, List.setIfInBounds_toArray, List.set_cons_zero, List.set_cons_succ]); (try simp only [Act.eval, Array.getD_eq_getD_getElem?, List.getElem?_toArray, List.getElem?_cons_succ, List.getElem?_cons_zero, Option.getD_some, List.set_cons_succ, List.set_cons_zero, Value.cells, List.toList_toArray] at hS)))
          go_cut [11] (fun v11 wr => v11 = .int .u64 now ∧ LocksSt w0 wr gp σ' (.row 38 5 ao2 (rs).length cap2 ((rs).flatMap RepS.cells) :: []))
          case first =>
            have hL := HF.out _ [_] hS
            clear hS HF
            go_wp2_with (first | ((with_reducible show WGd ..); (with_reducible apply wpA_guard); exact rfl; skip) | ((with_reducible show WLd ..); (with_reducible apply wpA_load); exact rfl; (first | ((with_reducible apply St.cellI hS); (focus repeat constructor); exact rfl) | assumption); kernel_rfl) | ((with_reducible show WSt ..); (with_reducible apply wpA_store1I hS); exact rfl; (focus repeat constructor); exact rfl; exact rfl; exact rfl; exact rfl; kernel_rfl; intro wx hS; (try simp only [Act.put, List.setIfInBounds_toArray, List.set_cons_zero, List.set_cons_succ]); (try simp only [Act.eval, Array.getD_eq_getD_getElem?, List.getElem?_toArray, List.getElem?_cons_succ, List.getElem?_cons_zero, Option.getD_some, List.set_cons_succ, List.set_cons_zero, Value.cells, List.toList_toArray] at hS)) | ((with_reducible show WBx ..); (with_reducible apply wpA_box hS); exact rfl; exact rfl; intro _ wx hS; (try simp only [Act.put, List.setIfInBounds_toArray, List.set_cons_zero, List.set_cons_succ]); (try simp only [Act.eval, Array.getD_eq_getD_getElem?, List.getElem?_toArray, List.getElem?_cons_succ, List.getElem?_cons_zero, Option.getD_some, List.set_cons_succ, List.set_cons_zero, Value.cells, List.toList_toArray] at hS)))
            go_loopw [11, 12] (fun v11 v12 wr => ∃ (k : Nat) (seen : Int), k ≤ rs.length ∧ v12 = .int .i64 k ∧ v11 = .int .u64 seen ∧ Hid (Rise seen (rs.drop k) now) ∧ 0 ≤ seen ∧ LocksSt w0 wr gp σ' (.row 38 5 ao2 (rs).length cap2 ((rs).flatMap RepS.cells) :: [])) (fun _ v12 _ => rs.length - (intOf v12).toNat)
            case atStart => exact ⟨0, was, Nat.zero_le _, rfl, rfl, Lib.hid HF3.out.2.1, hw0, hL⟩
            case round =>
              clear hL
              obtain ⟨k, seen, hk, rfl, rfl, HS, hs0, hL⟩ := hrel
              by_cases hlt : k < rs.length
              · obtain ⟨r, hr⟩ : ∃ r, rs[k]? = some r := ⟨_, List.getElem?_eq_getElem hlt⟩
                have hdr : rs.drop k = r :: rs.drop (k + 1) := by rw [List.drop_eq_getElem_cons hlt, (List.getElem?_eq_some_iff.1 hr).2]
                have hri := HS.out
                rw [hdr] at hri
                obtain ⟨D_, hS, hfin⟩ := LocksSt.opn (A := [_]) hL
                simp only [List.cons_append, List.nil_append] at hS
                have HF := Lib.hid hfin
                rcases row_head (hS.at_ 0 rfl) with ⟨_, hh, _⟩ | ⟨⟨g1, rfl⟩, _⟩
                · omega
                obtain ⟨r1, r2, r3, rt, r5⟩ := r
                have HRR := Lib.hid hr
                clear hfin hL hr hdr HS
                rcases hri.cases_ with ⟨h1, h2⟩ | ⟨h1, h2⟩
                · have h3 := h2.le
                  have HS2 := Lib.hid h2
                  simp only at h1
                  by_cases hz : rt = 0
                  · subst hz
                    clear h1 h2 hri
                    have hm : max seen 0 = seen := Int.max_eq_left hs0
                    go_wp2_with (first | ((with_reducible show WGd ..); (with_reducible apply wpA_guard); exact rfl; skip) | ((with_reducible show WLd ..); (with_reducible apply wpA_load); exact rfl; exact (row_elem RepS.cells_length (hS.at_ 0 rfl) HRR.out) 3 _ rfl; kernel_rfl) | ((with_reducible show WLd ..); (with_reducible apply wpA_load); exact rfl; (first | ((with_reducible apply St.cellI hS); (focus repeat constructor); exact rfl) | assumption); kernel_rfl) | ((with_reducible show WSt ..); (with_reducible apply wpA_store1I hS); exact rfl; (focus repeat constructor); exact rfl; exact rfl; exact rfl; exact rfl; kernel_rfl; intro wx hS; (try simp only [Act.put, List.setIfInBounds_toArray, List.set_cons_zero, List.set_cons_succ]); (try simp only [Act.eval, Array.getD_eq_getD_getElem?, List.getElem?_toArray, List.getElem?_cons_succ, List.getElem?_cons_zero, Option.getD_some, List.set_cons_succ, List.set_cons_zero, Value.cells, List.toList_toArray] at hS)) | ((with_reducible show WBx ..); (with_reducible apply wpA_box hS); exact rfl; exact rfl; intro _ wx hS; (try simp only [Act.put, List.setIfInBounds_toArray, List.set_cons_zero, List.set_cons_succ]); (try simp only [Act.eval, Array.getD_eq_getD_getElem?, List.getElem?_toArray, List.getElem?_cons_succ, List.getElem?_cons_zero, Option.getD_some, List.set_cons_succ, List.set_cons_zero, Value.cells, List.toList_toArray] at hS)))
                    have hL := HF.out _ [_] hS
                    clear hS HF
                    go_roundw
                    case rel => exact ⟨k + 1, seen, by omega, by go_num, rfl, HS2, by omega, hL⟩
                    case measure => simp [intOf]; omega
                  · obtain rfl : rt = seen := h1.resolve_right hz
                    have hd1 : (rt != 0) = true := by simpa using hz
                    have hd2 : decide (rt < rt) = false := by simp
                    have hd3 : decide (now < rt) = false := by simp; omega
                    have hm : max rt rt = rt := Int.max_self rt
                    clear h1 h2 hri hz
                    go_wp2_with (first | ((with_reducible show WGd ..); (with_reducible apply wpA_guard); exact rfl; skip) | ((with_reducible show WLd ..); (with_reducible apply wpA_load); exact rfl; exact (row_elem RepS.cells_length (hS.at_ 0 rfl) HRR.out) 3 _ rfl; kernel_rfl) | ((with_reducible show WLd ..); (with_reducible apply wpA_load); exact rfl; (first | ((with_reducible apply St.cellI hS); (focus repeat constructor); exact rfl) | assumption); kernel_rfl) | ((with_reducible show WSt ..); (with_reducible apply wpA_store1I hS); exact rfl; (focus repeat constructor); exact rfl; exact rfl; exact rfl; exact rfl; kernel_rfl; intro wx hS; (try simp only [Act.put, List.setIfInBounds_toArray, List.set_cons_zero, List.set_cons_succ]); (try simp only [Act.eval, Array.getD_eq_getD_getElem?, List.getElem?_toArray, List.getElem?_cons_succ, List.getElem?_cons_zero, Option.getD_some, List.set_cons_succ, List.set_cons_zero, Value.cells, List.toList_toArray] at hS)) | ((with_reducible show WBx ..); (with_reducible apply wpA_box hS); exact rfl; exact rfl; intro _ wx hS; (try simp only [Act.put, List.setIfInBounds_toArray, List.set_cons_zero, List.set_cons_succ]); (try simp only [Act.eval, Array.getD_eq_getD_getElem?, List.getElem?_toArray, List.getElem?_cons_succ, List.getElem?_cons_zero, Option.getD_some, List.set_cons_succ, List.set_cons_zero, Value.cells, List.toList_toArray] at hS)))
                    have hL := HF.out _ [_] hS
                    clear hS HF
                    go_roundw
                    case rel => exact ⟨k + 1, rt, by omega, by go_num, rfl, HS2, by omega, hL⟩
                    case measure => simp [intOf]; omega
                · have h3 := h2.le
                  have HS2 := Lib.hid h2
                  simp only at h1
                  subst h1
                  have hd1 : (seen + 1 != 0) = true := by simp; omega
                  have hd2 : decide (seen + 1 < seen) = false := by simp; omega
                  have hd3 : decide (now < seen + 1) = false := by simp; omega
                  have hm : max seen (seen + 1) = seen + 1 := Int.max_eq_right (by omega)
                  clear h2 hri
                  go_wp2_with (first | ((with_reducible show WGd ..); (with_reducible apply wpA_guard); exact rfl; skip) | ((with_reducible show WLd ..); (with_reducible apply wpA_load); exact rfl; exact (row_elem RepS.cells_length (hS.at_ 0 rfl) HRR.out) 3 _ rfl; kernel_rfl) | ((with_reducible show WLd ..); (with_reducible apply wpA_load); exact rfl; (first | ((with_reducible apply St.cellI hS); (focus repeat constructor); exact rfl) | assumption); kernel_rfl) | ((with_reducible show WSt ..); (with_reducible apply wpA_store1I hS); exact rfl; (focus repeat constructor); exact rfl; exact rfl; exact rfl; exact rfl; kernel_rfl; intro wx hS; (try simp only [Act.put, List.setIfInBounds_toArray, List.set_cons_zero, List.set_cons_succ]); (try simp only [Act.eval, Array.getD_eq_getD_getElem?, List.getElem?_toArray, List.getElem?_cons_succ, List.getElem?_cons_zero, Option.getD_some, List.set_cons_succ, List.set_cons_zero, Value.cells, List.toList_toArray] at hS)) | ((with_reducible show WBx ..); (with_reducible apply wpA_box hS); exact rfl; exact rfl; intro _ wx hS; (try simp only [Act.put, List.setIfInBounds_toArray, List.set_cons_zero, List.set_cons_succ]); (try simp only [Act.eval, Array.getD_eq_getD_getElem?, List.getElem?_toArray, List.getElem?_cons_succ, List.getElem?_cons_zero, Option.getD_some, List.set_cons_succ, List.set_cons_zero, Value.cells, List.toList_toArray] at hS)))
                  have hL := HF.out _ [_] hS
                  clear hS HF
                  go_roundw
                  case rel => exact ⟨k + 1, seen + 1, by omega, by go_num, rfl, HS2, by omega, hL⟩
                  case measure => simp [intOf]; omega
              · obtain rfl : k = rs.length := by omega
                have he := HS.out
                rw [List.drop_length] at he
                have he2 := he.nil_
                subst he2
                go_wp2_with (first | ((with_reducible show WGd ..); (with_reducible apply wpA_guard); exact rfl; skip) | ((with_reducible show WLd ..); (with_reducible apply wpA_load); exact rfl; (first | ((with_reducible apply St.cellI hS); (focus repeat constructor); exact rfl) | assumption); kernel_rfl) | ((with_reducible show WSt ..); (with_reducible apply wpA_store1I hS); exact rfl; (focus repeat constructor); exact rfl; exact rfl; exact rfl; exact rfl; kernel_rfl; intro wx hS; (try simp only [Act.put, List.setIfInBounds_toArray, List.set_cons_zero, List.set_cons_succ]); (try simp only [Act.eval, Array.getD_eq_getD_getElem?, List.getElem?_toArray, List.getElem?_cons_succ, List.getElem?_cons_zero, Option.getD_some, List.set_cons_succ, List.set_cons_zero, Value.cells, List.toList_toArray] at hS)) | ((with_reducible show WBx ..); (with_reducible apply wpA_box hS); exact rfl; exact rfl; intro _ wx hS; (try simp only [Act.put, List.setIfInBounds_toArray, List.set_cons_zero, List.set_cons_succ]); (try simp only [Act.eval, Array.getD_eq_getD_getElem?, List.getElem?_toArray, List.getElem?_cons_succ, List.getElem?_cons_zero, Option.getD_some, List.set_cons_succ, List.set_cons_zero, Value.cells, List.toList_toArray] at hS)))
                go_meet
                exact ⟨rfl, hL⟩
          case rest =>
            clear hS HF
            obtain ⟨rfl, hL⟩ := hcut
            have hd4 : (now != now) = false := by simp
            by_cases hlt2 : was < now
            · have hd5 : decide (was < now) = true := by simpa using hlt2
              go_wp2_with (first | ((with_reducible show WGd ..); (with_reducible apply wpA_guard); exact rfl; skip) | ((with_reducible show WLd ..); (with_reducible apply wpA_load); exact rfl; (first | ((with_reducible apply St.cellI hS); (focus repeat constructor); exact rfl) | assumption); kernel_rfl) | ((with_reducible show WSt ..); (with_reducible apply wpA_store1I hS); exact rfl; (focus repeat constructor); exact rfl; exact rfl; exact rfl; exact rfl; kernel_rfl; intro wx hS; (try simp only [Act.put, List.setIfInBounds_toArray, List.set_cons_zero, List.set_cons_succ]); (try simp only [Act.eval, Array.getD_eq_getD_getElem?, List.getElem?_toArray, List.getElem?_cons_succ, List.getElem?_cons_zero, Option.getD_some, List.set_cons_succ, List.set_cons_zero, Value.cells, List.toList_toArray] at hS)) | ((with_reducible show WBx ..); (with_reducible apply wpA_box hS); exact rfl; exact rfl; intro _ wx hS; (try simp only [Act.put, List.setIfInBounds_toArray, List.set_cons_zero, List.set_cons_succ]); (try simp only [Act.eval, Array.getD_eq_getD_getElem?, List.getElem?_toArray, List.getElem?_cons_succ, List.getElem?_cons_zero, Option.getD_some, List.set_cons_succ, List.set_cons_zero, Value.cells, List.toList_toArray] at hS)))
              have hL2 := hL.sub (List.sublist_cons_self _ _)
              clear hL
              go_roundw
              case rel => exact ⟨i + 1, σ', by omega, by omega, by go_num, Lib.hid HF3.out.1, hL2⟩
              case measure => simp [intOf]; omega
            · have hd5 : decide (was < now) = false := by simpa using hlt2
              go_wp2_with (first | ((with_reducible show WGd ..); (with_reducible apply wpA_guard); exact rfl; skip) | ((with_reducible show WLd ..); (with_reducible apply wpA_load); exact rfl; (first | ((with_reducible apply St.cellI hS); (focus repeat constructor); exact rfl) | assumption); kernel_rfl) | ((with_reducible show WSt ..); (with_reducible apply wpA_store1I hS); exact rfl; (focus repeat constructor); exact rfl; exact rfl; exact rfl; exact rfl; kernel_rfl; intro wx hS; (try simp only [Act.put, List.setIfInBounds_toArray, List.set_cons_zero, List.set_cons_succ]); (try simp only [Act.eval, Array.getD_eq_getD_getElem?, List.getElem?_toArray, List.getElem?_cons_succ, List.getElem?_cons_zero, Option.getD_some, List.set_cons_succ, List.set_cons_zero, Value.cells, List.toList_toArray] at hS)) | ((with_reducible show WBx ..); (with_reducible apply wpA_box hS); exact rfl; exact rfl; intro _ wx hS; (try simp only [Act.put, List.setIfInBounds_toArray, List.set_cons_zero, List.set_cons_succ]); (try simp only [Act.eval, Array.getD_eq_getD_getElem?, List.getElem?_toArray, List.getElem?_cons_succ, List.getElem?_cons_zero, Option.getD_some, List.set_cons_succ, List.set_cons_zero, Value.cells, List.toList_toArray] at hS)))
              have hL2 := hL.sub (List.sublist_cons_self _ _)
              clear hL
              go_roundw
              case rel => exact ⟨i + 1, σ', by omega, by omega, by go_num, Lib.hid HF3.out.1, hL2⟩
              case measure => simp [intOf]; omega
  case rest =>
    clear hL
    have hS := hcut
    go_wp2_with (first | ((with_reducible show WGd ..); (with_reducible apply wpA_guard); exact rfl; skip) | (go_at_call 12; with_reducible refine (awake_c w0 _ _ hS).mono ?_; rintro _ _ ⟨rfl, hS⟩) | ((with_reducible show WLd ..); (with_reducible apply wpA_load); exact rfl; (first | ((with_reducible apply St.cellI hS); (focus repeat constructor); exact rfl) | assumption); kernel_rfl) | ((with_reducible show WSt ..); (with_reducible apply wpA_store1I hS); exact rfl; (focus repeat constructor); exact rfl; exact rfl; exact rfl; exact rfl; kernel_rfl; intro wx hS; (try simp only [Act.put, List.setIfInBounds_toArray, List.set_cons_zero, List.set_cons_succ]); (try simp only [Act.eval, Array.getD_eq_getD_getElem?, List.getElem?_toArray, List.getElem?_cons_succ, List.getElem?_cons_zero, Option.getD_some, List.set_cons_succ, List.set_cons_zero, Value.cells, List.toList_toArray] at hS)) | ((with_reducible show WBx ..); (with_reducible apply wpA_box hS); exact rfl; exact rfl; intro _ wx hS; (try simp only [Act.put, List.setIfInBounds_toArray, List.set_cons_zero, List.set_cons_succ]); (try simp only [Act.eval, Array.getD_eq_getD_getElem?, List.getElem?_toArray, List.getElem?_cons_succ, List.getElem?_cons_zero, Option.getD_some, List.set_cons_succ, List.set_cons_zero, Value.cells, List.toList_toArray] at hS)))
    go_ret
    exact ⟨rfl, hS⟩

theorem tokens_law (w : World) (v0 v1 : Value) (h0 : RdV Try.prog w 40 v0) (h1 : RdV Try.prog w 36 v1) : Calls Try.prog 4 #[v0, v1] w fun e w' => e = .returned (.bool true) ∧ St w w' [] := by
  obtain ⟨ao, cap, l, rfl, ho, bo, hq, hr⟩ := h0.sliceIn (f := DeedL.cells) (Q := fun d => d.c.name.size ≤ 1000000000000000 ∧ 0 ≤ d.token ∧ d.token ≤ tokLast) Try.underlying40 (k := 7) (by kernel_rfl) (by decide) (fun cs h => deed_in h)
  obtain ⟨x1, rfl, ht⟩ := h1.int Try.underlying36
  have e : reachBytes = 140737488351232 := rfl
  have hb : Try.prog.bytesOf 43 = 64 := by kernel_rfl
  rw [hb] at bo
  simp [Lit.wf, IntKind.min, IntKind.max, IntKind.bits, IntKind.signed] at ht
  exact tokens_v w l x1 ao cap (by omega) hr (fun d hd => (hq d hd).1) ht.1 (by unfold tokLast; exact ht.2)
end Go.Proofs.Ytelbpnlpmaihhaa
