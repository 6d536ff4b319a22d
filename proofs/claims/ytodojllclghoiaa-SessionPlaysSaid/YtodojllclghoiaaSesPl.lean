/-
  SessionPlays, walked.
-/
import Derived.Test.YtodojllclghoiaaSesL
namespace Go.Proofs.Ytodojllclghoiaa
set_option linter.unusedVariables false
set_option linter.unusedSimpArgs false
open Go.RowKit

theorem sg_mk {w0 w : World} {D : List Hp} {g : Nat} (h : St w0 w (xc g :: (D ++ []))) : St w0 w (D ++ ([rxc g none 0 0 ⟨[], []⟩, srow none 0 []] ++ [])) := by
  refine (h.nilRow 88 10).perm ?_
  refine List.Perm.trans (List.Perm.swap _ _ _) ?_
  rw [List.append_nil, List.append_nil]
  exact List.perm_append_comm (l₁ := [_, _]) (l₂ := D)
set_option maxRecDepth 100000 in
set_option maxHeartbeats 8000000 in
theorem splays_v (w0 : World) (l : List DeedG) (ao : Option Addr) (cap : Nat) (hl : l.length ≤ 1000000000000000) (hr : ElsAt w0 ao 8 DeedG.cells l) (hq : ∀ d ∈ l, d.r.ok) :
    Calls Try.prog 6 #[.slice ao l.length cap] w0 fun e w' => e = .returned (.bool true) ∧ St w0 w' [] := by
  have hS := St.init w0
  have HR := Lib.hid hr
  have HQ := Lib.hid hq
  clear hr hq
  go_enter Try.func6, Try.ntmps6
  go_upto_region 2 with (first | ((with_reducible show WGd ..); (with_reducible apply wpA_guard); exact rfl; skip) | (go_at_call 8; with_reducible refine (snew_c w0 _ _ hS).mono ?_; rintro _ _ ⟨gp, rfl, hD⟩; (obtain ⟨DD, hS, hDD⟩ := hD.use; have HDD := Lib.hid hDD; clear hDD hD)) | ((first | ((with_reducible show WBx ..); (with_reducible apply wpA_box hS); exact rfl; exact rfl; intro gx wx hS) | ((with_reducible show WBx ..); (with_reducible apply wpA_box hS); exact rfl; exact rfl; intro _ wx hS)); (try simp only [Act.put, List.setIfInBounds_toArray, List.set_cons_zero, List.set_cons_succ]); (try simp only [Act.eval, Array.getD_eq_getD_getElem?, List.getElem?_toArray, List.getElem?_cons_succ, List.getElem?_cons_zero, Option.getD_some, List.set_cons_succ, List.set_cons_zero, Value.cells, List.toList_toArray] at hS)) | ((with_reducible show WLd ..); (with_reducible apply wpA_loadN (t := 40)); exact rfl; ((with_reducible apply Hp.rangeI hS (n := 8)); (focus repeat constructor)); kernel_rfl; kernel_rfl; (try simp only [Act.put, List.setIfInBounds_toArray, List.set_cons_zero, List.set_cons_succ])) | ((with_reducible show WLd ..); (with_reducible apply wpA_load); exact rfl; (first | ((with_reducible apply St.cellI hS); (focus repeat constructor); exact rfl) | assumption); kernel_rfl) | ((with_reducible show WSt ..); (with_reducible apply wpA_store1I hS); exact rfl; (focus repeat constructor); exact rfl; exact rfl; exact rfl; exact rfl; kernel_rfl; intro wx hS; (try simp only [Act.put, List.setIfInBounds_toArray, List.set_cons_zero, List.set_cons_succ]); (try simp only [Act.eval, Array.getD_eq_getD_getElem?, List.getElem?_toArray, List.getElem?_cons_succ, List.getElem?_cons_zero, Option.getD_some, List.set_cons_succ, List.set_cons_zero, Value.cells, List.toList_toArray] at hS)))
  have hL : TwoG w0 _ gp ⟨[], []⟩ gx ⟨[], []⟩ [] := ⟨DD, [rxc gx none 0 0 ⟨[], []⟩, srow none 0 []], sg_mk hS, HDD.out, fun w' R' h' => ⟨none, 0, h'⟩⟩
  clear hS
  go_upto_block 0 with (first | ((with_reducible show WGd ..); (with_reducible apply wpA_guard); exact rfl; skip) | ((with_reducible show WLd ..); (with_reducible apply wpA_load); exact rfl; (first | ((with_reducible apply St.cellI hS); (focus repeat constructor); exact rfl) | assumption); kernel_rfl) | ((with_reducible show WSt ..); (with_reducible apply wpA_store1I hS); exact rfl; (focus repeat constructor); exact rfl; exact rfl; exact rfl; exact rfl; kernel_rfl; intro wx hS; (try simp only [Act.put, List.setIfInBounds_toArray, List.set_cons_zero, List.set_cons_succ]); (try simp only [Act.eval, Array.getD_eq_getD_getElem?, List.getElem?_toArray, List.getElem?_cons_succ, List.getElem?_cons_zero, Option.getD_some, List.set_cons_succ, List.set_cons_zero, Value.cells, List.toList_toArray] at hS)) | ((with_reducible show WBx ..); (with_reducible apply wpA_box hS); exact rfl; exact rfl; intro _ wx hS; (try simp only [Act.put, List.setIfInBounds_toArray, List.set_cons_zero, List.set_cons_succ]); (try simp only [Act.eval, Array.getD_eq_getD_getElem?, List.getElem?_toArray, List.getElem?_cons_succ, List.getElem?_cons_zero, Option.getD_some, List.set_cons_succ, List.set_cons_zero, Value.cells, List.toList_toArray] at hS)))
  go_cut [] (fun wr => St w0 wr [])
  case first =>
    go_wp2_with (first | ((with_reducible show WGd ..); (with_reducible apply wpA_guard); exact rfl; skip) | ((with_reducible show WLd ..); (with_reducible apply wpA_load); exact rfl; (first | ((with_reducible apply St.cellI hS); (focus repeat constructor); exact rfl) | assumption); kernel_rfl) | ((with_reducible show WSt ..); (with_reducible apply wpA_store1I hS); exact rfl; (focus repeat constructor); exact rfl; exact rfl; exact rfl; exact rfl; kernel_rfl; intro wx hS; (try simp only [Act.put, List.setIfInBounds_toArray, List.set_cons_zero, List.set_cons_succ]); (try simp only [Act.eval, Array.getD_eq_getD_getElem?, List.getElem?_toArray, List.getElem?_cons_succ, List.getElem?_cons_zero, Option.getD_some, List.set_cons_succ, List.set_cons_zero, Value.cells, List.toList_toArray] at hS)) | ((with_reducible show WBx ..); (with_reducible apply wpA_box hS); exact rfl; exact rfl; intro _ wx hS; (try simp only [Act.put, List.setIfInBounds_toArray, List.set_cons_zero, List.set_cons_succ]); (try simp only [Act.eval, Array.getD_eq_getD_getElem?, List.getElem?_toArray, List.getElem?_cons_succ, List.getElem?_cons_zero, Option.getD_some, List.set_cons_succ, List.set_cons_zero, Value.cells, List.toList_toArray] at hS)))
    go_loopw [5] (fun v5 wr => ∃ (i : Nat) (σ : SesS), i ≤ l.length ∧ i ≤ 200 ∧ v5 = .int .i64 i ∧ Hid (SG i σ) ∧ TwoG w0 wr gp σ gx σ []) (fun v5 _ => l.length - (intOf v5).toNat)
    case atStart => exact ⟨0, _, Nat.zero_le _, Nat.zero_le _, rfl, Lib.hid SG.new, hL⟩
    case round =>
      clear hL
      obtain ⟨i, σ, hi, hi2, rfl, HI, hL⟩ := hrel
      by_cases k1 : i < l.length
      case neg =>
        have hcd : decide ((i : Int) < (l.length : Int)) = false := by simpa using k1
        go_wp2_with (first | ((with_reducible show WGd ..); (with_reducible apply wpA_guard); exact rfl; skip) | ((with_reducible show WLd ..); (with_reducible apply wpA_load); exact rfl; (first | ((with_reducible apply St.cellI hS); (focus repeat constructor); exact rfl) | assumption); kernel_rfl) | ((with_reducible show WSt ..); (with_reducible apply wpA_store1I hS); exact rfl; (focus repeat constructor); exact rfl; exact rfl; exact rfl; exact rfl; kernel_rfl; intro wx hS; (try simp only [Act.put, List.setIfInBounds_toArray, List.set_cons_zero, List.set_cons_succ]); (try simp only [Act.eval, Array.getD_eq_getD_getElem?, List.getElem?_toArray, List.getElem?_cons_succ, List.getElem?_cons_zero, Option.getD_some, List.set_cons_succ, List.set_cons_zero, Value.cells, List.toList_toArray] at hS)) | ((with_reducible show WBx ..); (with_reducible apply wpA_box hS); exact rfl; exact rfl; intro _ wx hS; (try simp only [Act.put, List.setIfInBounds_toArray, List.set_cons_zero, List.set_cons_succ]); (try simp only [Act.eval, Array.getD_eq_getD_getElem?, List.getElem?_toArray, List.getElem?_cons_succ, List.getElem?_cons_zero, Option.getD_some, List.set_cons_succ, List.set_cons_zero, Value.cells, List.toList_toArray] at hS)))
        go_meet
        exact hL.rest
      have hcd : decide ((i : Int) < (l.length : Int)) = true := by simpa using k1
      by_cases k2 : i < 200
      case neg =>
        have hcd2 : decide ((i : Int) < 200) = false := by simp; omega
        go_wp2_with (first | ((with_reducible show WGd ..); (with_reducible apply wpA_guard); exact rfl; skip) | ((with_reducible show WLd ..); (with_reducible apply wpA_load); exact rfl; (first | ((with_reducible apply St.cellI hS); (focus repeat constructor); exact rfl) | assumption); kernel_rfl) | ((with_reducible show WSt ..); (with_reducible apply wpA_store1I hS); exact rfl; (focus repeat constructor); exact rfl; exact rfl; exact rfl; exact rfl; kernel_rfl; intro wx hS; (try simp only [Act.put, List.setIfInBounds_toArray, List.set_cons_zero, List.set_cons_succ]); (try simp only [Act.eval, Array.getD_eq_getD_getElem?, List.getElem?_toArray, List.getElem?_cons_succ, List.getElem?_cons_zero, Option.getD_some, List.set_cons_succ, List.set_cons_zero, Value.cells, List.toList_toArray] at hS)) | ((with_reducible show WBx ..); (with_reducible apply wpA_box hS); exact rfl; exact rfl; intro _ wx hS; (try simp only [Act.put, List.setIfInBounds_toArray, List.set_cons_zero, List.set_cons_succ]); (try simp only [Act.eval, Array.getD_eq_getD_getElem?, List.getElem?_toArray, List.getElem?_cons_succ, List.getElem?_cons_zero, Option.getD_some, List.set_cons_succ, List.set_cons_zero, Value.cells, List.toList_toArray] at hS)))
        go_meet
        exact hL.rest
      have hcd2 : decide ((i : Int) < 200) = true := by simp; omega
      obtain ⟨d, hd⟩ : ∃ d, l[i]? = some d := ⟨_, List.getElem?_eq_getElem k1⟩
      obtain ⟨b0, off, rfl, hcl⟩ := HR.out i d hd
      have hrok := HQ.out d (List.mem_of_getElem? hd)
      have hra : ∀ w H, St w0 w H → w.rangeAt b0 (off + i * 8) d.cells := fun w H h q v hv => h.oldCell (hcl q v hv)
      have HRA := Lib.hid hra
      have HRO := Lib.hid hrok
      clear hra hcl hd hrok
      obtain ⟨dk, dn, dq, ⟨r1, r2, r3, r4, r5⟩⟩ := d
      simp only [DeedG.cells] at HRA
      simp only at HRO
      obtain ⟨D_, hS, hfin⟩ := TwoG.opn (A := []) hL
      simp only [List.nil_append] at hS
      have HF := Lib.hid hfin
      clear hfin hL
      cases hpb : decide (plainD ⟨dk, dn, dq, ⟨r1, r2, r3, r4, r5⟩⟩) with
      | false =>
        have HPB := Lib.hid hpb
        clear hpb
        go_wp2_with (first | ((with_reducible show WGd ..); (with_reducible apply wpA_guard); exact rfl; skip) | ((with_reducible show WLd ..); (with_reducible apply wpA_loadN (t := 40)); exact rfl; exact (HRA.out _ _ hS); kernel_rfl; kernel_rfl; (try simp only [Act.put, List.setIfInBounds_toArray, List.set_cons_zero, List.set_cons_succ])) | (go_at_call 13; with_reducible refine (plain_b hS HPB.out).mono ?_; rintro _ _ ⟨rfl, hS⟩) | ((with_reducible show WLd ..); (with_reducible apply wpA_load); exact rfl; (first | ((with_reducible apply St.cellI hS); (focus repeat constructor); exact rfl) | assumption); kernel_rfl) | ((with_reducible show WSt ..); (with_reducible apply wpA_store1I hS); exact rfl; (focus repeat constructor); exact rfl; exact rfl; exact rfl; exact rfl; kernel_rfl; intro wx hS; (try simp only [Act.put, List.setIfInBounds_toArray, List.set_cons_zero, List.set_cons_succ]); (try simp only [Act.eval, Array.getD_eq_getD_getElem?, List.getElem?_toArray, List.getElem?_cons_succ, List.getElem?_cons_zero, Option.getD_some, List.set_cons_succ, List.set_cons_zero, Value.cells, List.toList_toArray] at hS)) | ((with_reducible show WBx ..); (with_reducible apply wpA_box hS); exact rfl; exact rfl; intro _ wx hS; (try simp only [Act.put, List.setIfInBounds_toArray, List.set_cons_zero, List.set_cons_succ]); (try simp only [Act.eval, Array.getD_eq_getD_getElem?, List.getElem?_toArray, List.getElem?_cons_succ, List.getElem?_cons_zero, Option.getD_some, List.set_cons_succ, List.set_cons_zero, Value.cells, List.toList_toArray] at hS)))
        have hL := HF.out _ [] hS
        clear hS HF
        go_roundw
        case rel => exact ⟨i + 1, σ, by omega, by omega, by go_num, Lib.hid HI.out.mono, hL⟩
        case measure => simp [intOf]; omega
      | true =>
        have HPB := Lib.hid hpb
        have hg2 := HI.out.do_ (by omega) ⟨dk, dn, dq, ⟨r1, r2, r3, r4, r5⟩⟩ (of_decide_eq_true hpb) HRO.out
        obtain ⟨σ2, h2⟩ : ∃ σ2, doG σ ⟨dk, dn, dq, ⟨r1, r2, r3, r4, r5⟩⟩ = σ2 := ⟨_, rfl⟩
        rw [h2] at hg2
        obtain ⟨L, hLL⟩ : ∃ L, allS σ2 = L := ⟨_, rfl⟩
        obtain ⟨n, hn⟩ : ∃ n, (allS σ2).length = n := ⟨_, rfl⟩
        obtain ⟨bs, hbs⟩ : ∃ bs, encS σ2 = bs := ⟨_, rfl⟩
        obtain ⟨⟨c1, c2, c3⟩, hcl⟩ : ∃ q, clientS σ2 dn = q := ⟨_, rfl⟩
        have hnl : L.length = n := by rw [← hLL, hn]
        have hn2 : n ≤ 1000000000 := by have := hg2.i.a; omega
        have hs1 : σ.l.length ≤ 1000000 := by have := HI.out.len; omega
        have hs2 : σ2.l.length ≤ 1000000 := by have := hg2.len; omega
        have hi3 : i + 1 ≤ 1000 := by omega
        have H2 := Lib.hid (And.intro h2 (And.intro hLL (And.intro hn (And.intro hbs (And.intro hcl hnl)))))
        have HG2 := Lib.hid hg2
        clear hpb h2 hLL hn hbs hcl hg2 hnl
        go_upto_region 8 with (first | ((with_reducible show WGd ..); (with_reducible apply wpA_guard); exact rfl; skip) | ((with_reducible show WLd ..); (with_reducible apply wpA_loadN (t := 40)); exact rfl; exact (HRA.out _ _ hS); kernel_rfl; kernel_rfl; (try simp only [Act.put, List.setIfInBounds_toArray, List.set_cons_zero, List.set_cons_succ])) | (go_at_call 13; with_reducible refine (plain_b hS HPB.out).mono ?_; rintro _ _ ⟨rfl, hS⟩) | ((with_reducible show WLd ..); (with_reducible apply wpA_loadN (t := 40)); exact rfl; ((with_reducible apply Hp.rangeI hS (n := 8)); (focus repeat constructor)); kernel_rfl; kernel_rfl; (try simp only [Act.put, List.setIfInBounds_toArray, List.set_cons_zero, List.set_cons_succ])) | ((with_reducible show WLd ..); (with_reducible apply wpA_load); exact rfl; (first | ((with_reducible apply St.cellI hS); (focus repeat constructor); exact rfl) | assumption); kernel_rfl) | ((with_reducible show WSt ..); (with_reducible apply wpA_store1I hS); exact rfl; (focus repeat constructor); exact rfl; exact rfl; exact rfl; exact rfl; kernel_rfl; intro wx hS; (try simp only [Act.put, List.setIfInBounds_toArray, List.set_cons_zero, List.set_cons_succ]); (try simp only [Act.eval, Array.getD_eq_getD_getElem?, List.getElem?_toArray, List.getElem?_cons_succ, List.getElem?_cons_zero, Option.getD_some, List.set_cons_succ, List.set_cons_zero, Value.cells, List.toList_toArray] at hS)) | ((with_reducible show WBx ..); (with_reducible apply wpA_box hS); exact rfl; exact rfl; intro _ wx hS; (try simp only [Act.put, List.setIfInBounds_toArray, List.set_cons_zero, List.set_cons_succ]); (try simp only [Act.eval, Array.getD_eq_getD_getElem?, List.getElem?_toArray, List.getElem?_cons_succ, List.getElem?_cons_zero, Option.getD_some, List.set_cons_succ, List.set_cons_zero, Value.cells, List.toList_toArray] at hS)))
        go_upto_region 10 with (first | ((with_reducible show WGd ..); (with_reducible apply wpA_guard); exact rfl; skip) | ((with_reducible show WLd ..); (with_reducible apply wpA_loadN (t := 40)); exact rfl; exact (HRA.out _ _ hS); kernel_rfl; kernel_rfl; (try simp only [Act.put, List.setIfInBounds_toArray, List.set_cons_zero, List.set_cons_succ])) | (go_at_call 14; skip; have hL := HF.out _ [] hS; clear hS HF; (with_reducible refine (do_p hL hs1 H2.out.1).mono ?_); rintro _ _ ⟨rfl, hL⟩; (obtain ⟨D_, hS, hfin⟩ := TwoG.opn (A := []) hL); have HF := Lib.hid hfin; clear hfin hL; (try simp only [List.cons_append, List.nil_append] at hS); skip) | (go_at_call 18; skip; have hL := HF.out _ [] hS; clear hS HF; (with_reducible refine (g_all hL hs2 H2.out.2.2.1 H2.out.2.1).mono ?_); rintro _ _ ⟨ap, cp, rfl, hL⟩; (obtain ⟨D_, hS, hfin⟩ := TwoG.opn (A := [_]) hL); have HF := Lib.hid hfin; clear hfin hL; (try simp only [List.cons_append, List.nil_append] at hS); skip) | (go_at_call 19; skip; have hL := HF.out _ [_] hS; clear hS HF; (with_reducible refine (g_rall hL hs2 H2.out.2.2.1 H2.out.2.1).mono ?_); rintro _ _ ⟨ax, cx, rfl, hL⟩; (obtain ⟨D_, hS, hfin⟩ := TwoG.opn (A := [_, _]) hL); have HF := Lib.hid hfin; clear hfin hL; (try simp only [List.cons_append, List.nil_append] at hS); skip) | (go_at_call 17; with_reducible refine (ints_s hS 1 0 ap ax n cp cx L rfl rfl H2.out.2.2.2.2.2 hn2).mono ?_; rintro _ _ ⟨rfl, hS⟩) | (go_at_call 16; skip; have hL := HF.out _ [_, _] hS; clear hS HF; (with_reducible refine (g_enc hL HG2.out hi3 H2.out.2.2.2.1).mono ?_); rintro _ _ ⟨rfl, hL⟩; (obtain ⟨D_, hS, hfin⟩ := TwoG.opn (A := [_, _]) hL); have HF := Lib.hid hfin; clear hfin hL; (try simp only [List.cons_append, List.nil_append] at hS); skip) | (go_at_call 20; skip; have hL := HF.out _ [_, _] hS; clear hS HF; (with_reducible refine (g_renc hL HG2.out hi3 H2.out.2.2.2.1).mono ?_); rintro _ _ ⟨rfl, hL⟩; (obtain ⟨D_, hS, hfin⟩ := TwoG.opn (A := [_, _]) hL); have HF := Lib.hid hfin; clear hfin hL; (try simp only [List.cons_append, List.nil_append] at hS); skip) | ((with_reducible show WLd ..); (with_reducible apply wpA_load); exact rfl; (first | ((with_reducible apply St.cellI hS); (focus repeat constructor); exact rfl) | assumption); kernel_rfl) | ((with_reducible show WSt ..); (with_reducible apply wpA_store1I hS); exact rfl; (focus repeat constructor); exact rfl; exact rfl; exact rfl; exact rfl; kernel_rfl; intro wx hS; (try simp only [Act.put, List.setIfInBounds_toArray, List.set_cons_zero, List.set_cons_succ]); (try simp only [Act.eval, Array.getD_eq_getD_getElem?, List.getElem?_toArray, List.getElem?_cons_succ, List.getElem?_cons_zero, Option.getD_some, List.set_cons_succ, List.set_cons_zero, Value.cells, List.toList_toArray] at hS)) | ((with_reducible show WBx ..); (with_reducible apply wpA_box hS); exact rfl; exact rfl; intro _ wx hS; (try simp only [Act.put, List.setIfInBounds_toArray, List.set_cons_zero, List.set_cons_succ]); (try simp only [Act.eval, Array.getD_eq_getD_getElem?, List.getElem?_toArray, List.getElem?_cons_succ, List.getElem?_cons_zero, Option.getD_some, List.set_cons_succ, List.set_cons_zero, Value.cells, List.toList_toArray] at hS)))
        go_wp2_with (first | ((with_reducible show WGd ..); (with_reducible apply wpA_guard); exact rfl; skip) | ((with_reducible show WLd ..); (with_reducible apply wpA_load (t := 3)); exact rfl; exact (HRA.out _ _ hS) 1 _ rfl; kernel_rfl) | (go_at_call 21; skip; have hL := HF.out _ [_, _] hS; clear hS HF; (with_reducible refine (g_client hL H2.out.2.2.2.2.1).mono ?_); rintro _ _ ⟨rfl, hL⟩; (obtain ⟨D_, hS, hfin⟩ := TwoG.opn (A := [_, _]) hL); have HF := Lib.hid hfin; clear hfin hL; (try simp only [List.cons_append, List.nil_append] at hS); skip) | (go_at_call 22; skip; have hL := HF.out _ [_, _] hS; clear hS HF; (with_reducible refine (g_rclient hL hs2 H2.out.2.2.2.2.1).mono ?_); rintro _ _ ⟨rfl, hL⟩; (obtain ⟨D_, hS, hfin⟩ := TwoG.opn (A := [_, _]) hL); have HF := Lib.hid hfin; clear hfin hL; (try simp only [List.cons_append, List.nil_append] at hS); skip) | ((with_reducible show WLd ..); (with_reducible apply wpA_load); exact rfl; (first | ((with_reducible apply St.cellI hS); (focus repeat constructor); exact rfl) | assumption); kernel_rfl) | ((with_reducible show WSt ..); (with_reducible apply wpA_store1I hS); exact rfl; (focus repeat constructor); exact rfl; exact rfl; exact rfl; exact rfl; kernel_rfl; intro wx hS; (try simp only [Act.put, List.setIfInBounds_toArray, List.set_cons_zero, List.set_cons_succ]); (try simp only [Act.eval, Array.getD_eq_getD_getElem?, List.getElem?_toArray, List.getElem?_cons_succ, List.getElem?_cons_zero, Option.getD_some, List.set_cons_succ, List.set_cons_zero, Value.cells, List.toList_toArray] at hS)) | ((with_reducible show WBx ..); (with_reducible apply wpA_box hS); exact rfl; exact rfl; intro _ wx hS; (try simp only [Act.put, List.setIfInBounds_toArray, List.set_cons_zero, List.set_cons_succ]); (try simp only [Act.eval, Array.getD_eq_getD_getElem?, List.getElem?_toArray, List.getElem?_cons_succ, List.getElem?_cons_zero, Option.getD_some, List.set_cons_succ, List.set_cons_zero, Value.cells, List.toList_toArray] at hS)))
        have hL := (HF.out _ [_, _] hS).sub (.cons _ (.cons _ (List.Sublist.refl _)))
        clear hS HF
        go_roundw
        case rel => exact ⟨i + 1, σ2, by omega, by omega, by go_num, HG2, hL⟩
        case measure => simp [intOf]; omega
  case rest =>
    clear hL
    have hS := hcut
    go_wp2_with (first | ((with_reducible show WGd ..); (with_reducible apply wpA_guard); exact rfl; skip) | (go_at_call 12; with_reducible refine (awake_c w0 _ _ hS).mono ?_; rintro _ _ ⟨rfl, hS⟩) | ((with_reducible show WLd ..); (with_reducible apply wpA_load); exact rfl; (first | ((with_reducible apply St.cellI hS); (focus repeat constructor); exact rfl) | assumption); kernel_rfl) | ((with_reducible show WSt ..); (with_reducible apply wpA_store1I hS); exact rfl; (focus repeat constructor); exact rfl; exact rfl; exact rfl; exact rfl; kernel_rfl; intro wx hS; (try simp only [Act.put, List.setIfInBounds_toArray, List.set_cons_zero, List.set_cons_succ]); (try simp only [Act.eval, Array.getD_eq_getD_getElem?, List.getElem?_toArray, List.getElem?_cons_succ, List.getElem?_cons_zero, Option.getD_some, List.set_cons_succ, List.set_cons_zero, Value.cells, List.toList_toArray] at hS)) | ((with_reducible show WBx ..); (with_reducible apply wpA_box hS); exact rfl; exact rfl; intro _ wx hS; (try simp only [Act.put, List.setIfInBounds_toArray, List.set_cons_zero, List.set_cons_succ]); (try simp only [Act.eval, Array.getD_eq_getD_getElem?, List.getElem?_toArray, List.getElem?_cons_succ, List.getElem?_cons_zero, Option.getD_some, List.set_cons_succ, List.set_cons_zero, Value.cells, List.toList_toArray] at hS)))
    go_ret
    exact ⟨rfl, hS⟩

theorem splays_law (w : World) (v0 : Value) (h0 : RdV Try.prog w 37 v0) : Calls Try.prog 6 #[v0] w fun e w' => e = .returned (.bool true) ∧ St w w' [] := by
  obtain ⟨ao, cap, l, rfl, ho, bo, hq, hr⟩ := h0.sliceIn (f := DeedG.cells) (Q := fun d => d.r.ok) Try.underlying37 (k := 8) (by kernel_rfl) (by decide) (fun cs h => DeedG_in h)
  have e : reachBytes = 140737488351232 := rfl
  have hb : Try.prog.bytesOf 40 = 64 := by kernel_rfl
  rw [hb] at bo
  exact splays_v w l ao cap (by omega) hr hq
end Go.Proofs.Ytodojllclghoiaa
