/-
  SessionGoesOn, walked.
-/
import Derived.Test.YtodojllclghoiaaSesGo3
namespace Go.Proofs.Ytodojllclghoiaa
set_option linter.unusedVariables false
set_option linter.unusedSimpArgs false
open Go.RowKit

set_option maxRecDepth 100000 in
set_option maxHeartbeats 8000000 in
theorem goes_v (w0 : World) (l more : List DeedG) (ao ao2 : Option Addr) (cap cap2 : Nat) (hl : l.length ≤ 1000000000000000) (hl2 : more.length ≤ 1000000000000000) (hr : ElsAt w0 ao 8 DeedG.cells l) (hr2 : ElsAt w0 ao2 8 DeedG.cells more) (hq : ∀ d : DeedG, (d ∈ l ∨ d ∈ more) → d.r.ok) :
    Calls Try.prog 5 #[.slice ao l.length cap, .slice ao2 more.length cap2] w0 fun e w' => e = .returned (.bool true) ∧ St w0 w' [] := by
  have hS := St.init w0
  have HR := Lib.hid hr
  have HR2 := Lib.hid hr2
  have HQ := Lib.hid hq
  clear hr hr2 hq
  go_enter Try.func5, Try.ntmps5
  go_upto_region 4 with (first | ((with_reducible show WGd ..); (with_reducible apply wpA_guard); exact rfl; skip) | (go_at_call 8; with_reducible refine (snew_c w0 _ _ hS).mono ?_; rintro _ _ ⟨gp, rfl, hL⟩; (obtain ⟨D_, hS, hfin⟩ := SesSt.opn (A := []) hL; have HF := Lib.hid hfin; clear hfin hL; simp only [List.nil_append] at hS)) | ((with_reducible show WLd ..); (with_reducible apply wpA_loadN (t := 40)); exact rfl; ((with_reducible apply Hp.rangeI hS (n := 8)); (focus repeat constructor)); kernel_rfl; kernel_rfl; (try simp only [Act.put, List.setIfInBounds_toArray, List.set_cons_zero, List.set_cons_succ])) | ((with_reducible show WLd ..); (with_reducible apply wpA_load); exact rfl; (first | ((with_reducible apply St.cellI hS); (focus repeat constructor); exact rfl) | assumption); kernel_rfl) | ((with_reducible show WSt ..); (with_reducible apply wpA_store1I hS); exact rfl; (focus repeat constructor); exact rfl; exact rfl; exact rfl; exact rfl; kernel_rfl; intro wx hS; (try simp only [Act.put, List.setIfInBounds_toArray, List.set_cons_zero, List.set_cons_succ]); (try simp only [Act.eval, Array.getD_eq_getD_getElem?, List.getElem?_toArray, List.getElem?_cons_succ, List.getElem?_cons_zero, Option.getD_some, List.set_cons_succ, List.set_cons_zero, Value.cells, List.toList_toArray] at hS)) | ((with_reducible show WBx ..); (with_reducible apply wpA_box hS); exact rfl; exact rfl; intro _ wx hS; (try simp only [Act.put, List.setIfInBounds_toArray, List.set_cons_zero, List.set_cons_succ]); (try simp only [Act.eval, Array.getD_eq_getD_getElem?, List.getElem?_toArray, List.getElem?_cons_succ, List.getElem?_cons_zero, Option.getD_some, List.set_cons_succ, List.set_cons_zero, Value.cells, List.toList_toArray] at hS)))
  go_upto_block 0 with (first | ((with_reducible show WGd ..); (with_reducible apply wpA_guard); exact rfl; skip) | ((with_reducible show WLd ..); (with_reducible apply wpA_load); exact rfl; (first | ((with_reducible apply St.cellI hS); (focus repeat constructor); exact rfl) | assumption); kernel_rfl) | ((with_reducible show WSt ..); (with_reducible apply wpA_store1I hS); exact rfl; (focus repeat constructor); exact rfl; exact rfl; exact rfl; exact rfl; kernel_rfl; intro wx hS; (try simp only [Act.put, List.setIfInBounds_toArray, List.set_cons_zero, List.set_cons_succ]); (try simp only [Act.eval, Array.getD_eq_getD_getElem?, List.getElem?_toArray, List.getElem?_cons_succ, List.getElem?_cons_zero, Option.getD_some, List.set_cons_succ, List.set_cons_zero, Value.cells, List.toList_toArray] at hS)) | ((with_reducible show WBx ..); (with_reducible apply wpA_box hS); exact rfl; exact rfl; intro _ wx hS; (try simp only [Act.put, List.setIfInBounds_toArray, List.set_cons_zero, List.set_cons_succ]); (try simp only [Act.eval, Array.getD_eq_getD_getElem?, List.getElem?_toArray, List.getElem?_cons_succ, List.getElem?_cons_zero, Option.getD_some, List.set_cons_succ, List.set_cons_zero, Value.cells, List.toList_toArray] at hS)))
  have hL := HF.out _ [] hS
  clear hS HF
  go_cut [] (fun wr => ∃ σ : SesS, Hid (SG 200 σ) ∧ SesSt w0 wr gp σ [])
  case first =>
    go_wp2_with (first | ((with_reducible show WGd ..); (with_reducible apply wpA_guard); exact rfl; skip) | ((with_reducible show WLd ..); (with_reducible apply wpA_load); exact rfl; (first | ((with_reducible apply St.cellI hS); (focus repeat constructor); exact rfl) | assumption); kernel_rfl) | ((with_reducible show WSt ..); (with_reducible apply wpA_store1I hS); exact rfl; (focus repeat constructor); exact rfl; exact rfl; exact rfl; exact rfl; kernel_rfl; intro wx hS; (try simp only [Act.put, List.setIfInBounds_toArray, List.set_cons_zero, List.set_cons_succ]); (try simp only [Act.eval, Array.getD_eq_getD_getElem?, List.getElem?_toArray, List.getElem?_cons_succ, List.getElem?_cons_zero, Option.getD_some, List.set_cons_succ, List.set_cons_zero, Value.cells, List.toList_toArray] at hS)) | ((with_reducible show WBx ..); (with_reducible apply wpA_box hS); exact rfl; exact rfl; intro _ wx hS; (try simp only [Act.put, List.setIfInBounds_toArray, List.set_cons_zero, List.set_cons_succ]); (try simp only [Act.eval, Array.getD_eq_getD_getElem?, List.getElem?_toArray, List.getElem?_cons_succ, List.getElem?_cons_zero, Option.getD_some, List.set_cons_succ, List.set_cons_zero, Value.cells, List.toList_toArray] at hS)))
    go_loopw [6] (fun v6 wr => ∃ (i : Nat) (σ : SesS), i ≤ l.length ∧ i ≤ 200 ∧ v6 = .int .i64 i ∧ Hid (SG i σ) ∧ SesSt w0 wr gp σ []) (fun v6 _ => l.length - (intOf v6).toNat)
    case atStart => exact ⟨0, _, Nat.zero_le _, Nat.zero_le _, rfl, Lib.hid SG.new, hL⟩
    case round =>
      clear hL
      obtain ⟨i, σ, hi, hi2, rfl, HI, hL⟩ := hrel
      by_cases k1 : i < l.length
      case neg =>
        have hcd : decide ((i : Int) < (l.length : Int)) = false := by simpa using k1
        go_wp2_with (first | ((with_reducible show WGd ..); (with_reducible apply wpA_guard); exact rfl; skip) | ((with_reducible show WLd ..); (with_reducible apply wpA_load); exact rfl; (first | ((with_reducible apply St.cellI hS); (focus repeat constructor); exact rfl) | assumption); kernel_rfl) | ((with_reducible show WSt ..); (with_reducible apply wpA_store1I hS); exact rfl; (focus repeat constructor); exact rfl; exact rfl; exact rfl; exact rfl; kernel_rfl; intro wx hS; (try simp only [Act.put, List.setIfInBounds_toArray, List.set_cons_zero, List.set_cons_succ]); (try simp only [Act.eval, Array.getD_eq_getD_getElem?, List.getElem?_toArray, List.getElem?_cons_succ, List.getElem?_cons_zero, Option.getD_some, List.set_cons_succ, List.set_cons_zero, Value.cells, List.toList_toArray] at hS)) | ((with_reducible show WBx ..); (with_reducible apply wpA_box hS); exact rfl; exact rfl; intro _ wx hS; (try simp only [Act.put, List.setIfInBounds_toArray, List.set_cons_zero, List.set_cons_succ]); (try simp only [Act.eval, Array.getD_eq_getD_getElem?, List.getElem?_toArray, List.getElem?_cons_succ, List.getElem?_cons_zero, Option.getD_some, List.set_cons_succ, List.set_cons_zero, Value.cells, List.toList_toArray] at hS)))
        go_meet
        exact ⟨σ, Lib.hid (HI.out.up hi2), hL⟩
      have hcd : decide ((i : Int) < (l.length : Int)) = true := by simpa using k1
      by_cases k2 : i < 200
      case neg =>
        have hcd2 : decide ((i : Int) < 200) = false := by simp; omega
        go_wp2_with (first | ((with_reducible show WGd ..); (with_reducible apply wpA_guard); exact rfl; skip) | ((with_reducible show WLd ..); (with_reducible apply wpA_load); exact rfl; (first | ((with_reducible apply St.cellI hS); (focus repeat constructor); exact rfl) | assumption); kernel_rfl) | ((with_reducible show WSt ..); (with_reducible apply wpA_store1I hS); exact rfl; (focus repeat constructor); exact rfl; exact rfl; exact rfl; exact rfl; kernel_rfl; intro wx hS; (try simp only [Act.put, List.setIfInBounds_toArray, List.set_cons_zero, List.set_cons_succ]); (try simp only [Act.eval, Array.getD_eq_getD_getElem?, List.getElem?_toArray, List.getElem?_cons_succ, List.getElem?_cons_zero, Option.getD_some, List.set_cons_succ, List.set_cons_zero, Value.cells, List.toList_toArray] at hS)) | ((with_reducible show WBx ..); (with_reducible apply wpA_box hS); exact rfl; exact rfl; intro _ wx hS; (try simp only [Act.put, List.setIfInBounds_toArray, List.set_cons_zero, List.set_cons_succ]); (try simp only [Act.eval, Array.getD_eq_getD_getElem?, List.getElem?_toArray, List.getElem?_cons_succ, List.getElem?_cons_zero, Option.getD_some, List.set_cons_succ, List.set_cons_zero, Value.cells, List.toList_toArray] at hS)))
        go_meet
        exact ⟨σ, Lib.hid (HI.out.up hi2), hL⟩
      have hcd2 : decide ((i : Int) < 200) = true := by simp; omega
      obtain ⟨d, hd⟩ : ∃ d, l[i]? = some d := ⟨_, List.getElem?_eq_getElem k1⟩
      obtain ⟨b0, off, rfl, hcl⟩ := HR.out i d hd
      have hrok := HQ.out d (by first | exact .inl (List.mem_of_getElem? hd) | exact .inr (List.mem_of_getElem? hd))
      have hra : ∀ w H, St w0 w H → w.rangeAt b0 (off + i * 8) d.cells := fun w H h q v hv => h.oldCell (hcl q v hv)
      have HRA := Lib.hid hra
      have HRO := Lib.hid hrok
      clear hra hcl hd hrok
      obtain ⟨dk, dn, dq, ⟨r1, r2, r3, r4, r5⟩⟩ := d
      simp only [DeedG.cells] at HRA
      simp only at HRO
      obtain ⟨D_, hS, hfin⟩ := SesSt.opn (A := []) hL
      simp only [List.nil_append] at hS
      have HF := Lib.hid hfin
      clear hfin hL
      cases hpb : decide (plainD ⟨dk, dn, dq, ⟨r1, r2, r3, r4, r5⟩⟩) with
      | false =>
        have HPB := Lib.hid hpb
        clear hpb
        go_wp2_with (first | ((with_reducible show WGd ..); (with_reducible apply wpA_guard); exact rfl; skip) | ((with_reducible show WLd ..); (with_reducible apply wpA_loadN (t := 40)); exact rfl; exact (HRA.out _ _ hS); kernel_rfl; kernel_rfl; (try simp only [Act.put, List.setIfInBounds_toArray, List.set_cons_zero, List.set_cons_succ])) | (go_at_call 13; with_reducible refine (plain_b hS HPB.out).mono ?_; rintro _ _ ⟨rfl, hS⟩) | ((with_reducible show WLd ..); (with_reducible apply wpA_load); exact rfl; (first | ((with_reducible apply St.cellI hS); (focus repeat constructor); exact rfl) | assumption); kernel_rfl) | ((with_reducible show WSt ..); (with_reducible apply wpA_store1I hS); exact rfl; (focus repeat constructor); exact rfl; exact rfl; exact rfl; exact rfl; kernel_rfl; intro wx hS; (try simp only [Act.put, List.setIfInBounds_toArray, List.set_cons_zero, List.set_cons_succ]); (try simp only [Act.eval, Array.getD_eq_getD_getElem?, List.getElem?_toArray, List.getElem?_cons_succ, List.getElem?_cons_zero, Option.getD_some, List.set_cons_succ, List.set_cons_zero, Value.cells, List.toList_toArray] at hS)) | ((with_reducible show WBx ..); (with_reducible apply wpA_box hS); exact rfl; exact rfl; intro _ wx hS; (try simp only [Act.put, List.setIfInBounds_toArray, List.set_cons_zero, List.set_cons_succ]); (try simp only [Act.eval, Array.getD_eq_getD_getElem?, List.getElem?_toArray, List.getElem?_cons_succ, List.getElem?_cons_zero, Option.getD_some, List.set_cons_succ, List.set_cons_zero, Value.cells, List.toList_toArray] at hS)))
        have hL := HF.out _ [] hS
        clear hS HF
        go_roundw
        case rel => exact ⟨i + 1, σ, by omega, by omega, by go_num, Lib.hid HI.out.mono, hL⟩
        case measure => simp [intOf]; omega
      | true =>
        have HPB := Lib.hid hpb
        clear hpb
        go_wp2_with (first | ((with_reducible show WGd ..); (with_reducible apply wpA_guard); exact rfl; skip) | ((with_reducible show WLd ..); (with_reducible apply wpA_loadN (t := 40)); exact rfl; exact (HRA.out _ _ hS); kernel_rfl; kernel_rfl; (try simp only [Act.put, List.setIfInBounds_toArray, List.set_cons_zero, List.set_cons_succ])) | (go_at_call 13; with_reducible refine (plain_b hS HPB.out).mono ?_; rintro _ _ ⟨rfl, hS⟩) | ((first | ((with_reducible show WBx ..); (with_reducible apply wpA_box hS); exact rfl; exact rfl; intro gx wx hS) | ((with_reducible show WBx ..); (with_reducible apply wpA_box hS); exact rfl; exact rfl; intro _ wx hS)); (try simp only [Act.put, List.setIfInBounds_toArray, List.set_cons_zero, List.set_cons_succ]); (try simp only [Act.eval, Array.getD_eq_getD_getElem?, List.getElem?_toArray, List.getElem?_cons_succ, List.getElem?_cons_zero, Option.getD_some, List.set_cons_succ, List.set_cons_zero, Value.cells, List.toList_toArray] at hS)) | (go_at_call 14; skip; have hL := HF.out _ [_] hS; clear hS HF; (with_reducible refine (k_do hL HI.out (by omega)).mono ?_); rintro _ _ ⟨⟨_, rfl⟩, hL⟩; (obtain ⟨D_, hS, hfin⟩ := SesSt.opn (A := []) hL); have HF := Lib.hid hfin; clear hfin hL; (try simp only [List.cons_append, List.nil_append] at hS); skip) | ((with_reducible show WLd ..); (with_reducible apply wpA_load); exact rfl; (first | ((with_reducible apply St.cellI hS); (focus repeat constructor); exact rfl) | assumption); kernel_rfl) | ((with_reducible show WSt ..); (with_reducible apply wpA_store1I hS); exact rfl; (focus repeat constructor); exact rfl; exact rfl; exact rfl; exact rfl; kernel_rfl; intro wx hS; (try simp only [Act.put, List.setIfInBounds_toArray, List.set_cons_zero, List.set_cons_succ]); (try simp only [Act.eval, Array.getD_eq_getD_getElem?, List.getElem?_toArray, List.getElem?_cons_succ, List.getElem?_cons_zero, Option.getD_some, List.set_cons_succ, List.set_cons_zero, Value.cells, List.toList_toArray] at hS)))
        have hL := HF.out _ [] hS
        clear hS HF
        go_roundw
        case rel => exact ⟨i + 1, _, by omega, by omega, by go_num, Lib.hid (HI.out.do_ (by omega) ⟨dk, dn, dq, ⟨r1, r2, r3, r4, r5⟩⟩ (of_decide_eq_true HPB.out) HRO.out), hL⟩
        case measure => simp [intOf]; omega
  case rest =>
    clear hL
    obtain ⟨σ, HI, hL⟩ := hcut
    obtain ⟨bs, hbs⟩ : ∃ bs, encS σ = bs := ⟨_, rfl⟩
    have hdec := HI.out.dec (by omega)
    have hbl := encS_len HI.out (by omega)
    rw [hbs] at hdec hbl
    obtain ⟨τ, hτ⟩ : ∃ τ : SesS, ⟨σ.l.map Go.Proofs.Ytodojllclghoiaa.forget, σ.c⟩ = τ := ⟨_, rfl⟩
    have hgt := HI.out.forget
    have hal := Alike.forgotten σ
    rw [hτ] at hdec hgt hal
    have HB := Lib.hid hbs
    have HD := Lib.hid hdec
    have HA := Lib.hid (And.intro HI.out (And.intro hgt hal))
    obtain ⟨D_, hS, hfin⟩ := SesSt.opn (A := []) hL
    simp only [List.nil_append] at hS
    have HF := Lib.hid hfin
    clear hfin hL hbs hdec hgt hal hτ
    go_upto_region 10 with (first | ((with_reducible show WGd ..); (with_reducible apply wpA_guard); exact rfl; skip) | (go_at_call 16; skip; have hL := HF.out _ [] hS; clear hS HF; (with_reducible refine (k_enc hL (HI.out.ok (by omega)) HB.out).mono ?_); rintro _ _ ⟨rfl, hL⟩; (obtain ⟨D_, hS, hfin⟩ := SesSt.opn (A := []) hL); have HF := Lib.hid hfin; clear hfin hL; (try simp only [List.cons_append, List.nil_append] at hS); skip) | (go_at_call 15; (with_reducible refine (k_dec hS hbl HD.out).mono ?_); rintro _ _ ⟨gq, rfl, hL2⟩; have hL := TwoS.mk_ hL2 HF.out; clear hS HF hL2; (obtain ⟨D_, hS, hfin⟩ := TwoS.opn (A := []) hL); have HF := Lib.hid hfin; clear hfin hL; (try simp only [List.nil_append] at hS)) | ((with_reducible show WLd ..); (with_reducible apply wpA_load); exact rfl; (first | ((with_reducible apply St.cellI hS); (focus repeat constructor); exact rfl) | assumption); kernel_rfl) | ((with_reducible show WSt ..); (with_reducible apply wpA_store1I hS); exact rfl; (focus repeat constructor); exact rfl; exact rfl; exact rfl; exact rfl; kernel_rfl; intro wx hS; (try simp only [Act.put, List.setIfInBounds_toArray, List.set_cons_zero, List.set_cons_succ]); (try simp only [Act.eval, Array.getD_eq_getD_getElem?, List.getElem?_toArray, List.getElem?_cons_succ, List.getElem?_cons_zero, Option.getD_some, List.set_cons_succ, List.set_cons_zero, Value.cells, List.toList_toArray] at hS)) | ((with_reducible show WBx ..); (with_reducible apply wpA_box hS); exact rfl; exact rfl; intro _ wx hS; (try simp only [Act.put, List.setIfInBounds_toArray, List.set_cons_zero, List.set_cons_succ]); (try simp only [Act.eval, Array.getD_eq_getD_getElem?, List.getElem?_toArray, List.getElem?_cons_succ, List.getElem?_cons_zero, Option.getD_some, List.set_cons_succ, List.set_cons_zero, Value.cells, List.toList_toArray] at hS)))
    go_upto_block 2 with (first | ((with_reducible show WGd ..); (with_reducible apply wpA_guard); exact rfl; skip) | ((with_reducible show WLd ..); (with_reducible apply wpA_load); exact rfl; (first | ((with_reducible apply St.cellI hS); (focus repeat constructor); exact rfl) | assumption); kernel_rfl) | ((with_reducible show WSt ..); (with_reducible apply wpA_store1I hS); exact rfl; (focus repeat constructor); exact rfl; exact rfl; exact rfl; exact rfl; kernel_rfl; intro wx hS; (try simp only [Act.put, List.setIfInBounds_toArray, List.set_cons_zero, List.set_cons_succ]); (try simp only [Act.eval, Array.getD_eq_getD_getElem?, List.getElem?_toArray, List.getElem?_cons_succ, List.getElem?_cons_zero, Option.getD_some, List.set_cons_succ, List.set_cons_zero, Value.cells, List.toList_toArray] at hS)) | ((with_reducible show WBx ..); (with_reducible apply wpA_box hS); exact rfl; exact rfl; intro _ wx hS; (try simp only [Act.put, List.setIfInBounds_toArray, List.set_cons_zero, List.set_cons_succ]); (try simp only [Act.eval, Array.getD_eq_getD_getElem?, List.getElem?_toArray, List.getElem?_cons_succ, List.getElem?_cons_zero, Option.getD_some, List.set_cons_succ, List.set_cons_zero, Value.cells, List.toList_toArray] at hS)))
    have hL := HF.out _ [] hS
    clear hS HF HB HD
    go_cut [] (fun wr => St w0 wr [])
    case first =>
      go_wp2_with (first | ((with_reducible show WGd ..); (with_reducible apply wpA_guard); exact rfl; skip) | ((with_reducible show WLd ..); (with_reducible apply wpA_load); exact rfl; (first | ((with_reducible apply St.cellI hS); (focus repeat constructor); exact rfl) | assumption); kernel_rfl) | ((with_reducible show WSt ..); (with_reducible apply wpA_store1I hS); exact rfl; (focus repeat constructor); exact rfl; exact rfl; exact rfl; exact rfl; kernel_rfl; intro wx hS; (try simp only [Act.put, List.setIfInBounds_toArray, List.set_cons_zero, List.set_cons_succ]); (try simp only [Act.eval, Array.getD_eq_getD_getElem?, List.getElem?_toArray, List.getElem?_cons_succ, List.getElem?_cons_zero, Option.getD_some, List.set_cons_succ, List.set_cons_zero, Value.cells, List.toList_toArray] at hS)) | ((with_reducible show WBx ..); (with_reducible apply wpA_box hS); exact rfl; exact rfl; intro _ wx hS; (try simp only [Act.put, List.setIfInBounds_toArray, List.set_cons_zero, List.set_cons_succ]); (try simp only [Act.eval, Array.getD_eq_getD_getElem?, List.getElem?_toArray, List.getElem?_cons_succ, List.getElem?_cons_zero, Option.getD_some, List.set_cons_succ, List.set_cons_zero, Value.cells, List.toList_toArray] at hS)))
      go_loopw [9] (fun v9 wr => ∃ (i : Nat) (σ τ : SesS), i ≤ more.length ∧ i ≤ 200 ∧ v9 = .int .i64 i ∧ Hid (SG (200 + i) σ ∧ SG (200 + i) τ ∧ Alike σ τ) ∧ TwoS w0 wr gp σ gq τ []) (fun v9 _ => more.length - (intOf v9).toNat)
      case atStart => exact ⟨0, σ, τ, Nat.zero_le _, Nat.zero_le _, rfl, HA, hL⟩
      case round =>
        clear hL HA HI
        obtain ⟨i, σ, τ, hi, hi2, rfl, HI, hL⟩ := hrel
        by_cases k1 : i < more.length
        case neg =>
          have hcd : decide ((i : Int) < (more.length : Int)) = false := by simpa using k1
          go_wp2_with (first | ((with_reducible show WGd ..); (with_reducible apply wpA_guard); exact rfl; skip) | ((with_reducible show WLd ..); (with_reducible apply wpA_load); exact rfl; (first | ((with_reducible apply St.cellI hS); (focus repeat constructor); exact rfl) | assumption); kernel_rfl) | ((with_reducible show WSt ..); (with_reducible apply wpA_store1I hS); exact rfl; (focus repeat constructor); exact rfl; exact rfl; exact rfl; exact rfl; kernel_rfl; intro wx hS; (try simp only [Act.put, List.setIfInBounds_toArray, List.set_cons_zero, List.set_cons_succ]); (try simp only [Act.eval, Array.getD_eq_getD_getElem?, List.getElem?_toArray, List.getElem?_cons_succ, List.getElem?_cons_zero, Option.getD_some, List.set_cons_succ, List.set_cons_zero, Value.cells, List.toList_toArray] at hS)) | ((with_reducible show WBx ..); (with_reducible apply wpA_box hS); exact rfl; exact rfl; intro _ wx hS; (try simp only [Act.put, List.setIfInBounds_toArray, List.set_cons_zero, List.set_cons_succ]); (try simp only [Act.eval, Array.getD_eq_getD_getElem?, List.getElem?_toArray, List.getElem?_cons_succ, List.getElem?_cons_zero, Option.getD_some, List.set_cons_succ, List.set_cons_zero, Value.cells, List.toList_toArray] at hS)))
          go_meet
          exact hL.rest
        have hcd : decide ((i : Int) < (more.length : Int)) = true := by simpa using k1
        by_cases k2 : i < 200
        case neg =>
          have hcd2 : decide ((i : Int) < 200) = false := by simp; omega
          go_wp2_with (first | ((with_reducible show WGd ..); (with_reducible apply wpA_guard); exact rfl; skip) | ((with_reducible show WLd ..); (with_reducible apply wpA_load); exact rfl; (first | ((with_reducible apply St.cellI hS); (focus repeat constructor); exact rfl) | assumption); kernel_rfl) | ((with_reducible show WSt ..); (with_reducible apply wpA_store1I hS); exact rfl; (focus repeat constructor); exact rfl; exact rfl; exact rfl; exact rfl; kernel_rfl; intro wx hS; (try simp only [Act.put, List.setIfInBounds_toArray, List.set_cons_zero, List.set_cons_succ]); (try simp only [Act.eval, Array.getD_eq_getD_getElem?, List.getElem?_toArray, List.getElem?_cons_succ, List.getElem?_cons_zero, Option.getD_some, List.set_cons_succ, List.set_cons_zero, Value.cells, List.toList_toArray] at hS)) | ((with_reducible show WBx ..); (with_reducible apply wpA_box hS); exact rfl; exact rfl; intro _ wx hS; (try simp only [Act.put, List.setIfInBounds_toArray, List.set_cons_zero, List.set_cons_succ]); (try simp only [Act.eval, Array.getD_eq_getD_getElem?, List.getElem?_toArray, List.getElem?_cons_succ, List.getElem?_cons_zero, Option.getD_some, List.set_cons_succ, List.set_cons_zero, Value.cells, List.toList_toArray] at hS)))
          go_meet
          exact hL.rest
        have hcd2 : decide ((i : Int) < 200) = true := by simp; omega
        obtain ⟨d, hd⟩ : ∃ d, more[i]? = some d := ⟨_, List.getElem?_eq_getElem k1⟩
        obtain ⟨b0, off, rfl, hcl⟩ := HR2.out i d hd
        have hrok := HQ.out d (by first | exact .inl (List.mem_of_getElem? hd) | exact .inr (List.mem_of_getElem? hd))
        have hra : ∀ w H, St w0 w H → w.rangeAt b0 (off + i * 8) d.cells := fun w H h q v hv => h.oldCell (hcl q v hv)
        have HRA := Lib.hid hra
        have HRO := Lib.hid hrok
        clear hra hcl hd hrok
        obtain ⟨dk, dn, dq, ⟨r1, r2, r3, r4, r5⟩⟩ := d
        simp only [DeedG.cells] at HRA
        simp only at HRO
        obtain ⟨D_, hS, hfin⟩ := TwoS.opn (A := []) hL
        simp only [List.nil_append] at hS
        have HF := Lib.hid hfin
        clear hfin hL
        cases hpb : decide (plainD ⟨dk, dn, dq, ⟨r1, r2, r3, r4, r5⟩⟩) with
        | false =>
          have HPB := Lib.hid hpb
          clear hpb
          obtain ⟨bs, hbs⟩ : ∃ bs, encS σ = bs := ⟨_, rfl⟩
          have hb2 := HI.out.2.2.enc
          rw [hbs] at hb2
          have HB := Lib.hid (And.intro hbs hb2.symm)
          clear hbs hb2
          go_wp2_with (first | ((with_reducible show WGd ..); (with_reducible apply wpA_guard); exact rfl; skip) | ((with_reducible show WLd ..); (with_reducible apply wpA_loadN (t := 40)); exact rfl; exact (HRA.out _ _ hS); kernel_rfl; kernel_rfl; (try simp only [Act.put, List.setIfInBounds_toArray, List.set_cons_zero, List.set_cons_succ])) | (go_at_call 13; with_reducible refine (plain_b hS HPB.out).mono ?_; rintro _ _ ⟨rfl, hS⟩) | (go_at_call 16; skip; have hL := HF.out _ [] hS; clear hS HF; (with_reducible refine (t_enc1 hL (HI.out.1.ok (by omega)) HB.out.1).mono ?_); rintro _ _ ⟨rfl, hL⟩; (obtain ⟨D_, hS, hfin⟩ := TwoS.opn (A := []) hL); have HF := Lib.hid hfin; clear hfin hL; (try simp only [List.cons_append, List.nil_append] at hS); skip) | (go_at_call 16; skip; have hL := HF.out _ [] hS; clear hS HF; (with_reducible refine (t_enc2 hL (HI.out.2.1.ok (by omega)) HB.out.2).mono ?_); rintro _ _ ⟨rfl, hL⟩; (obtain ⟨D_, hS, hfin⟩ := TwoS.opn (A := []) hL); have HF := Lib.hid hfin; clear hfin hL; (try simp only [List.cons_append, List.nil_append] at hS); skip) | ((with_reducible show WLd ..); (with_reducible apply wpA_load); exact rfl; (first | ((with_reducible apply St.cellI hS); (focus repeat constructor); exact rfl) | assumption); kernel_rfl) | ((with_reducible show WSt ..); (with_reducible apply wpA_store1I hS); exact rfl; (focus repeat constructor); exact rfl; exact rfl; exact rfl; exact rfl; kernel_rfl; intro wx hS; (try simp only [Act.put, List.setIfInBounds_toArray, List.set_cons_zero, List.set_cons_succ]); (try simp only [Act.eval, Array.getD_eq_getD_getElem?, List.getElem?_toArray, List.getElem?_cons_succ, List.getElem?_cons_zero, Option.getD_some, List.set_cons_succ, List.set_cons_zero, Value.cells, List.toList_toArray] at hS)) | ((with_reducible show WBx ..); (with_reducible apply wpA_box hS); exact rfl; exact rfl; intro _ wx hS; (try simp only [Act.put, List.setIfInBounds_toArray, List.set_cons_zero, List.set_cons_succ]); (try simp only [Act.eval, Array.getD_eq_getD_getElem?, List.getElem?_toArray, List.getElem?_cons_succ, List.getElem?_cons_zero, Option.getD_some, List.set_cons_succ, List.set_cons_zero, Value.cells, List.toList_toArray] at hS)))
          have hL := HF.out _ [] hS
          clear hS HF
          go_roundw
          case rel => exact ⟨i + 1, σ, τ, by omega, by omega, by go_num, Lib.hid ⟨HI.out.1.mono, HI.out.2.1.mono, HI.out.2.2⟩, hL⟩
          case measure => simp [intOf]; omega
        | true =>
          have HPB := Lib.hid hpb
          clear hpb
          obtain ⟨σ', hσ'⟩ : ∃ σ', doG σ ⟨dk, dn, dq, ⟨r1, r2, r3, r4, r5⟩⟩ = σ' := ⟨_, rfl⟩
          obtain ⟨τ', hτ'⟩ : ∃ τ', doG τ ⟨dk, dn, dq, ⟨r1, r2, r3, r4, r5⟩⟩ = τ' := ⟨_, rfl⟩
          have g1 := HI.out.1.do_ (by omega) ⟨dk, dn, dq, ⟨r1, r2, r3, r4, r5⟩⟩ (of_decide_eq_true HPB.out) HRO.out
          have g2 := HI.out.2.1.do_ (by omega) ⟨dk, dn, dq, ⟨r1, r2, r3, r4, r5⟩⟩ (of_decide_eq_true HPB.out) HRO.out
          have g3 := alike_do HI.out.2.2 ⟨dk, dn, dq, ⟨r1, r2, r3, r4, r5⟩⟩
          rw [hσ'] at g1 g3
          rw [hτ'] at g2 g3
          have HI2 := Lib.hid (And.intro g1 (And.intro g2 g3))
          obtain ⟨bs, hbs⟩ : ∃ bs, encS σ' = bs := ⟨_, rfl⟩
          have hb2 := g3.enc
          rw [hbs] at hb2
          have HB := Lib.hid (And.intro hbs hb2.symm)
          have HE := Lib.hid (And.intro hσ' hτ')
          clear hbs hb2 g1 g2 g3 hσ' hτ'
          go_wp2_with (first | ((with_reducible show WGd ..); (with_reducible apply wpA_guard); exact rfl; skip) | ((with_reducible show WLd ..); (with_reducible apply wpA_loadN (t := 40)); exact rfl; exact (HRA.out _ _ hS); kernel_rfl; kernel_rfl; (try simp only [Act.put, List.setIfInBounds_toArray, List.set_cons_zero, List.set_cons_succ])) | (go_at_call 13; with_reducible refine (plain_b hS HPB.out).mono ?_; rintro _ _ ⟨rfl, hS⟩) | ((first | ((with_reducible show WBx ..); (with_reducible apply wpA_box hS); exact rfl; exact rfl; intro gx wx hS) | ((with_reducible show WBx ..); (with_reducible apply wpA_box hS); exact rfl; exact rfl; intro _ wx hS)); (try simp only [Act.put, List.setIfInBounds_toArray, List.set_cons_zero, List.set_cons_succ]); (try simp only [Act.eval, Array.getD_eq_getD_getElem?, List.getElem?_toArray, List.getElem?_cons_succ, List.getElem?_cons_zero, Option.getD_some, List.set_cons_succ, List.set_cons_zero, Value.cells, List.toList_toArray] at hS)) | (go_at_call 14; skip; have hL := HF.out _ [_] hS; clear hS HF; (with_reducible refine (t_do1e hL HI.out.1 (by omega) HE.out.1).mono ?_); rintro _ _ ⟨⟨_, rfl⟩, hL⟩; (obtain ⟨D_, hS, hfin⟩ := TwoS.opn (A := []) hL); have HF := Lib.hid hfin; clear hfin hL; (try simp only [List.cons_append, List.nil_append] at hS); skip) | (go_at_call 14; skip; have hL := HF.out _ [_] hS; clear hS HF; (with_reducible refine (t_do2e hL HI.out.2.1 (by omega) HE.out.2).mono ?_); rintro _ _ ⟨⟨_, rfl⟩, hL⟩; (obtain ⟨D_, hS, hfin⟩ := TwoS.opn (A := []) hL); have HF := Lib.hid hfin; clear hfin hL; (try simp only [List.cons_append, List.nil_append] at hS); skip) | (go_at_call 16; skip; have hL := HF.out _ [] hS; clear hS HF; (with_reducible refine (t_enc1 hL (HI2.out.1.ok (by omega)) HB.out.1).mono ?_); rintro _ _ ⟨rfl, hL⟩; (obtain ⟨D_, hS, hfin⟩ := TwoS.opn (A := []) hL); have HF := Lib.hid hfin; clear hfin hL; (try simp only [List.cons_append, List.nil_append] at hS); skip) | (go_at_call 16; skip; have hL := HF.out _ [] hS; clear hS HF; (with_reducible refine (t_enc2 hL (HI2.out.2.1.ok (by omega)) HB.out.2).mono ?_); rintro _ _ ⟨rfl, hL⟩; (obtain ⟨D_, hS, hfin⟩ := TwoS.opn (A := []) hL); have HF := Lib.hid hfin; clear hfin hL; (try simp only [List.cons_append, List.nil_append] at hS); skip) | ((with_reducible show WLd ..); (with_reducible apply wpA_load); exact rfl; (first | ((with_reducible apply St.cellI hS); (focus repeat constructor); exact rfl) | assumption); kernel_rfl) | ((with_reducible show WSt ..); (with_reducible apply wpA_store1I hS); exact rfl; (focus repeat constructor); exact rfl; exact rfl; exact rfl; exact rfl; kernel_rfl; intro wx hS; (try simp only [Act.put, List.setIfInBounds_toArray, List.set_cons_zero, List.set_cons_succ]); (try simp only [Act.eval, Array.getD_eq_getD_getElem?, List.getElem?_toArray, List.getElem?_cons_succ, List.getElem?_cons_zero, Option.getD_some, List.set_cons_succ, List.set_cons_zero, Value.cells, List.toList_toArray] at hS)))
          have hL := HF.out _ [] hS
          clear hS HF
          go_roundw
          case rel => exact ⟨i + 1, σ', τ', by omega, by omega, by go_num, HI2, hL⟩
          case measure => simp [intOf]; omega
    case rest =>
      clear hL
      have hS := hcut
      go_wp2_with (first | ((with_reducible show WGd ..); (with_reducible apply wpA_guard); exact rfl; skip) | (go_at_call 12; with_reducible refine (awake_c w0 _ _ hS).mono ?_; rintro _ _ ⟨rfl, hS⟩) | ((with_reducible show WLd ..); (with_reducible apply wpA_load); exact rfl; (first | ((with_reducible apply St.cellI hS); (focus repeat constructor); exact rfl) | assumption); kernel_rfl) | ((with_reducible show WSt ..); (with_reducible apply wpA_store1I hS); exact rfl; (focus repeat constructor); exact rfl; exact rfl; exact rfl; exact rfl; kernel_rfl; intro wx hS; (try simp only [Act.put, List.setIfInBounds_toArray, List.set_cons_zero, List.set_cons_succ]); (try simp only [Act.eval, Array.getD_eq_getD_getElem?, List.getElem?_toArray, List.getElem?_cons_succ, List.getElem?_cons_zero, Option.getD_some, List.set_cons_succ, List.set_cons_zero, Value.cells, List.toList_toArray] at hS)) | ((with_reducible show WBx ..); (with_reducible apply wpA_box hS); exact rfl; exact rfl; intro _ wx hS; (try simp only [Act.put, List.setIfInBounds_toArray, List.set_cons_zero, List.set_cons_succ]); (try simp only [Act.eval, Array.getD_eq_getD_getElem?, List.getElem?_toArray, List.getElem?_cons_succ, List.getElem?_cons_zero, Option.getD_some, List.set_cons_succ, List.set_cons_zero, Value.cells, List.toList_toArray] at hS)))
      go_ret
      exact ⟨rfl, hS⟩

theorem goes_law (w : World) (v0 v1 : Value) (h0 : RdV Try.prog w 37 v0) (h1 : RdV Try.prog w 37 v1) : Calls Try.prog 5 #[v0, v1] w fun e w' => e = .returned (.bool true) ∧ St w w' [] := by
  obtain ⟨ao, cap, l, rfl, ho, bo, hq, hr⟩ := h0.sliceIn (f := DeedG.cells) (Q := fun d => d.r.ok) Try.underlying37 (k := 8) (by kernel_rfl) (by decide) (fun cs h => DeedG_in h)
  obtain ⟨ao2, cap2, more, rfl, ho2, bo2, hq2, hr2⟩ := h1.sliceIn (f := DeedG.cells) (Q := fun d => d.r.ok) Try.underlying37 (k := 8) (by kernel_rfl) (by decide) (fun cs h => DeedG_in h)
  have e : reachBytes = 140737488351232 := rfl
  have hb : Try.prog.bytesOf 40 = 64 := by kernel_rfl
  rw [hb] at bo bo2
  exact goes_v w l more ao ao2 cap cap2 (by omega) (by omega) hr hr2 (fun d hd => hd.elim (hq d) (hq2 d))
end Go.Proofs.Ytodojllclghoiaa
