/-
  DiskPlays, walked.
-/
import Derived.Test.YtbigkonbdnbnpaaDpL
import Derived.Test.YtbigkonbdnbnpaaSlIn
namespace Go.Proofs.Ytbigkonbdnbnpaa
set_option linter.unusedVariables false
set_option linter.unusedSimpArgs false
open Go.RowKit

structure DeedD where
  kind : Int
  n : Int
  file : ByteArray
  to_ : ByteArray
  s : ByteArray
def DeedD.cells (d : DeedD) : List Value := [.int .i64 d.kind, .int .i64 d.n, .string d.file, .string d.to_, .string d.s]
theorem DeedD.cells_length (d : DeedD) : d.cells.length = 5 := rfl
structure DeedD.fit (d : DeedD) : Prop where
  n : -9223372036854775808 ≤ d.n ∧ d.n ≤ 9223372036854775807
  file : d.file.size ≤ 1000000000000000
  to_ : d.to_.size ≤ 1000000000000000
  s : d.s.size ≤ 1000000000000000

theorem deed_in {w : World} {cs : List Value} (h : Rd Try.prog w 41 cs) : ∃ d : DeedD, cs = d.cells ∧ d.fit := by
  obtain ⟨hl, hf⟩ := h.fields Try.underlying41
  have hc : Try.prog.cellsOf 41 = 5 := by kernel_rfl
  rw [hc] at hl
  obtain ⟨c0, r0, rfl, l0⟩ := cons_of_len hl
  obtain ⟨c1, r1, rfl, l1⟩ := cons_of_len l0
  obtain ⟨c2, r2, rfl, l2⟩ := cons_of_len l1
  obtain ⟨c3, r3, rfl, l3⟩ := cons_of_len l2
  obtain ⟨c4, r4, rfl, l4⟩ := cons_of_len l3
  obtain rfl := List.length_eq_zero_iff.1 l4
  have ki : Try.prog.cellsOf 3 = 1 := by kernel_rfl
  have ks : Try.prog.cellsOf 9 = 1 := by kernel_rfl
  have f0 : Rd Try.prog w 3 [c0] := by simpa [ki] using hf 0 _ rfl
  have f1 : Rd Try.prog w 3 [c1] := by simpa [ki] using hf 1 _ rfl
  have f2 : Rd Try.prog w 9 [c2] := by simpa [ks] using hf 2 _ rfl
  have f3 : Rd Try.prog w 9 [c3] := by simpa [ks] using hf 3 _ rfl
  have f4 : Rd Try.prog w 9 [c4] := by simpa [ks] using hf 4 _ rfl
  obtain ⟨x0, e0, _⟩ := f0.int Try.underlying3
  obtain ⟨x1, e1, p1⟩ := f1.int Try.underlying3
  obtain ⟨x2, e2, p2⟩ := f2.string Try.underlying9
  obtain ⟨x3, e3, p3⟩ := f3.string Try.underlying9
  obtain ⟨x4, e4, p4⟩ := f4.string Try.underlying9
  simp only [List.cons.injEq, and_true] at e0 e1 e2 e3 e4
  subst e0 e1 e2 e3 e4
  have e : reachBytes = 140737488351232 := rfl
  refine ⟨⟨x0, x1, x2, x3, x4⟩, rfl, ⟨?_, by simp only; omega, by simp only; omega, by simp only; omega⟩⟩
  have := p1
  simp [Lit.wf, IntKind.min, IntKind.max, IntKind.bits, IntKind.signed] at this
  exact this

theorem st_mk {w0 w : World} {D : List Hp} {g : Nat} (h : St w0 w (.cells g [.slice none 0 0, .int .i64 0] 39 :: (D ++ []))) : St w0 w (D ++ ([rdc g none 0 0 0, frow none 0 []] ++ [])) := by
  refine (h.nilRow 76 2).perm ?_
  refine List.Perm.trans (List.Perm.swap _ _ _) ?_
  rw [List.append_nil, List.append_nil]
  exact List.perm_append_comm (l₁ := [_, _]) (l₂ := D)
theorem pi_new : PI 0 ⟨[], 0⟩ := ⟨good_new, List.nodup_nil, fun x hx => absurd hx (List.not_mem_nil), Int.le_refl 0, Nat.le_refl 0⟩
set_option maxRecDepth 100000 in
set_option maxHeartbeats 8000000 in
theorem plays_v (w0 : World) (l : List DeedD) (ao : Option Addr) (cap : Nat) (hl : l.length ≤ 1000000000000000) (hr : ElsAt w0 ao 5 DeedD.cells l) (hq : ∀ d ∈ l, d.fit) :
    Calls Try.prog 5 #[.slice ao l.length cap] w0 fun e w' => e = .returned (.bool true) ∧ St w0 w' [] := by
  have hS := St.init w0
  have HR := Lib.hid hr
  have HQ := Lib.hid hq
  clear hr hq
  go_enter Try.func5, Try.ntmps5
  go_upto_region 2 with (first | ((with_reducible show WGd ..); (with_reducible apply wpA_guard); exact rfl; skip) | (go_at_call 9; with_reducible refine (new_c w0 _ _ hS).mono ?_; rintro _ _ ⟨gp, rfl, hD⟩; (obtain ⟨DD, hS, hDD⟩ := hD.use; have HDD := Lib.hid hDD; clear hDD hD)) | ((first | ((with_reducible show WBx ..); (with_reducible apply wpA_box hS); exact rfl; exact rfl; intro gx wx hS) | ((with_reducible show WBx ..); (with_reducible apply wpA_box hS); exact rfl; exact rfl; intro _ wx hS)); (try simp only [Act.put, List.setIfInBounds_toArray, List.set_cons_zero, List.set_cons_succ]); (try simp only [Act.eval, Array.getD_eq_getD_getElem?, List.getElem?_toArray, List.getElem?_cons_succ, List.getElem?_cons_zero, Option.getD_some, List.set_cons_succ, List.set_cons_zero, Value.cells, List.toList_toArray] at hS)) | ((with_reducible show WLd ..); (with_reducible apply wpA_loadN (t := 41)); exact rfl; ((with_reducible apply Hp.rangeI hS (n := 5)); (focus repeat constructor)); kernel_rfl; kernel_rfl; (try simp only [Act.put, List.setIfInBounds_toArray, List.set_cons_zero, List.set_cons_succ])) | ((with_reducible show WLd ..); (with_reducible apply wpA_load); exact rfl; (first | ((with_reducible apply St.cellI hS); (focus repeat constructor); exact rfl) | assumption); kernel_rfl) | ((with_reducible show WSt ..); (with_reducible apply wpA_store1I hS); exact rfl; (focus repeat constructor); exact rfl; exact rfl; exact rfl; exact rfl; kernel_rfl; intro wx hS; (try simp only [Act.put, List.setIfInBounds_toArray, List.set_cons_zero, List.set_cons_succ]); (try simp only [Act.eval, Array.getD_eq_getD_getElem?, List.getElem?_toArray, List.getElem?_cons_succ, List.getElem?_cons_zero, Option.getD_some, List.set_cons_succ, List.set_cons_zero, Value.cells, List.toList_toArray] at hS)))
  have hL : TwoD w0 _ gp ⟨[], 0⟩ gx ⟨[], 0⟩ [] := ⟨DD, [rdc gx none 0 0 0, frow none 0 []], st_mk hS, HDD.out, fun w' R' h' => ⟨none, 0, [], rfl, h'⟩⟩
  clear hS
  go_upto_block 0 with (first | ((with_reducible show WGd ..); (with_reducible apply wpA_guard); exact rfl; skip) | ((with_reducible show WLd ..); (with_reducible apply wpA_load); exact rfl; (first | ((with_reducible apply St.cellI hS); (focus repeat constructor); exact rfl) | assumption); kernel_rfl) | ((with_reducible show WSt ..); (with_reducible apply wpA_store1I hS); exact rfl; (focus repeat constructor); exact rfl; exact rfl; exact rfl; exact rfl; kernel_rfl; intro wx hS; (try simp only [Act.put, List.setIfInBounds_toArray, List.set_cons_zero, List.set_cons_succ]); (try simp only [Act.eval, Array.getD_eq_getD_getElem?, List.getElem?_toArray, List.getElem?_cons_succ, List.getElem?_cons_zero, Option.getD_some, List.set_cons_succ, List.set_cons_zero, Value.cells, List.toList_toArray] at hS)) | ((with_reducible show WBx ..); (with_reducible apply wpA_box hS); exact rfl; exact rfl; intro _ wx hS; (try simp only [Act.put, List.setIfInBounds_toArray, List.set_cons_zero, List.set_cons_succ]); (try simp only [Act.eval, Array.getD_eq_getD_getElem?, List.getElem?_toArray, List.getElem?_cons_succ, List.getElem?_cons_zero, Option.getD_some, List.set_cons_succ, List.set_cons_zero, Value.cells, List.toList_toArray] at hS)))
  go_cut [] (fun wr => St w0 wr [])
  case first =>
    go_wp2_with (first | ((with_reducible show WGd ..); (with_reducible apply wpA_guard); exact rfl; skip) | ((with_reducible show WLd ..); (with_reducible apply wpA_load); exact rfl; (first | ((with_reducible apply St.cellI hS); (focus repeat constructor); exact rfl) | assumption); kernel_rfl) | ((with_reducible show WSt ..); (with_reducible apply wpA_store1I hS); exact rfl; (focus repeat constructor); exact rfl; exact rfl; exact rfl; exact rfl; kernel_rfl; intro wx hS; (try simp only [Act.put, List.setIfInBounds_toArray, List.set_cons_zero, List.set_cons_succ]); (try simp only [Act.eval, Array.getD_eq_getD_getElem?, List.getElem?_toArray, List.getElem?_cons_succ, List.getElem?_cons_zero, Option.getD_some, List.set_cons_succ, List.set_cons_zero, Value.cells, List.toList_toArray] at hS)) | ((with_reducible show WBx ..); (with_reducible apply wpA_box hS); exact rfl; exact rfl; intro _ wx hS; (try simp only [Act.put, List.setIfInBounds_toArray, List.set_cons_zero, List.set_cons_succ]); (try simp only [Act.eval, Array.getD_eq_getD_getElem?, List.getElem?_toArray, List.getElem?_cons_succ, List.getElem?_cons_zero, Option.getD_some, List.set_cons_succ, List.set_cons_zero, Value.cells, List.toList_toArray] at hS)))
    go_loopw [5] (fun v5 wr => ∃ (i : Nat) (σ : DiskS) (ρ : RefD), i ≤ l.length ∧ i ≤ 100 ∧ v5 = .int .i64 i ∧ Hid (Rel σ ρ ∧ PI i σ) ∧ TwoD w0 wr gp σ gx ρ []) (fun v5 _ => l.length - (intOf v5).toNat)
    case atStart => exact ⟨0, _, _, Nat.zero_le _, Nat.zero_le _, rfl, Lib.hid ⟨rel_new, pi_new⟩, hL⟩
    case round =>
      clear hL
      obtain ⟨i, σ, ρ, hi, hi2, rfl, HI, hL⟩ := hrel
      by_cases k1 : i < l.length
      case neg =>
        have hcd : decide ((i : Int) < (l.length : Int)) = false := by simpa using k1
        go_wp2_with (first | ((with_reducible show WGd ..); (with_reducible apply wpA_guard); exact rfl; skip) | ((with_reducible show WLd ..); (with_reducible apply wpA_load); exact rfl; (first | ((with_reducible apply St.cellI hS); (focus repeat constructor); exact rfl) | assumption); kernel_rfl) | ((with_reducible show WSt ..); (with_reducible apply wpA_store1I hS); exact rfl; (focus repeat constructor); exact rfl; exact rfl; exact rfl; exact rfl; kernel_rfl; intro wx hS; (try simp only [Act.put, List.setIfInBounds_toArray, List.set_cons_zero, List.set_cons_succ]); (try simp only [Act.eval, Array.getD_eq_getD_getElem?, List.getElem?_toArray, List.getElem?_cons_succ, List.getElem?_cons_zero, Option.getD_some, List.set_cons_succ, List.set_cons_zero, Value.cells, List.toList_toArray] at hS)) | ((with_reducible show WBx ..); (with_reducible apply wpA_box hS); exact rfl; exact rfl; intro _ wx hS; (try simp only [Act.put, List.setIfInBounds_toArray, List.set_cons_zero, List.set_cons_succ]); (try simp only [Act.eval, Array.getD_eq_getD_getElem?, List.getElem?_toArray, List.getElem?_cons_succ, List.getElem?_cons_zero, Option.getD_some, List.set_cons_succ, List.set_cons_zero, Value.cells, List.toList_toArray] at hS)))
        go_meet
        exact hL.rest
      have hcd : decide ((i : Int) < (l.length : Int)) = true := by simpa using k1
      by_cases k2 : i < 100
      case neg =>
        have hcd2 : decide ((i : Int) < 100) = false := by simp; omega
        go_wp2_with (first | ((with_reducible show WGd ..); (with_reducible apply wpA_guard); exact rfl; skip) | ((with_reducible show WLd ..); (with_reducible apply wpA_load); exact rfl; (first | ((with_reducible apply St.cellI hS); (focus repeat constructor); exact rfl) | assumption); kernel_rfl) | ((with_reducible show WSt ..); (with_reducible apply wpA_store1I hS); exact rfl; (focus repeat constructor); exact rfl; exact rfl; exact rfl; exact rfl; kernel_rfl; intro wx hS; (try simp only [Act.put, List.setIfInBounds_toArray, List.set_cons_zero, List.set_cons_succ]); (try simp only [Act.eval, Array.getD_eq_getD_getElem?, List.getElem?_toArray, List.getElem?_cons_succ, List.getElem?_cons_zero, Option.getD_some, List.set_cons_succ, List.set_cons_zero, Value.cells, List.toList_toArray] at hS)) | ((with_reducible show WBx ..); (with_reducible apply wpA_box hS); exact rfl; exact rfl; intro _ wx hS; (try simp only [Act.put, List.setIfInBounds_toArray, List.set_cons_zero, List.set_cons_succ]); (try simp only [Act.eval, Array.getD_eq_getD_getElem?, List.getElem?_toArray, List.getElem?_cons_succ, List.getElem?_cons_zero, Option.getD_some, List.set_cons_succ, List.set_cons_zero, Value.cells, List.toList_toArray] at hS)))
        go_meet
        exact hL.rest
      have hcd2 : decide ((i : Int) < 100) = true := by simp; omega
      obtain ⟨d, hd⟩ : ∃ d, l[i]? = some d := ⟨_, List.getElem?_eq_getElem k1⟩
      obtain ⟨b0, off, rfl, hcl⟩ := HR.out i d hd
      have hfit := HQ.out d (List.mem_of_getElem? hd)
      have hra : ∀ w H, St w0 w H → w.rangeAt b0 (off + i * 5) d.cells := fun w H h q v hv => h.oldCell (hcl q v hv)
      have HRA := Lib.hid hra
      have HFIT := Lib.hid hfit
      clear hra hcl hfit hd
      obtain ⟨dk, dn, df, dt, ds⟩ := d
      simp only [DeedD.cells] at HRA HFIT
      have hsz := HFIT.out.s
      simp only at hsz
      obtain ⟨D_, hS, hfin⟩ := TwoD.opn (A := []) hL
      simp only [List.nil_append] at hS
      have HF := Lib.hid hfin
      clear hfin hL
      by_cases k3 : ds.size ≤ 1000
      case neg =>
        have hcd3 : decide ((1000 : Int) < (ds.size : Int)) = true := by simp; omega
        go_wp2_with (first | ((with_reducible show WGd ..); (with_reducible apply wpA_guard); exact rfl; skip) | ((with_reducible show WLd ..); (with_reducible apply wpA_load (t := 9)); exact rfl; exact (HRA.out _ _ hS) 4 _ rfl; kernel_rfl) | ((with_reducible show WLd ..); (with_reducible apply wpA_load); exact rfl; (first | ((with_reducible apply St.cellI hS); (focus repeat constructor); exact rfl) | assumption); kernel_rfl) | ((with_reducible show WSt ..); (with_reducible apply wpA_store1I hS); exact rfl; (focus repeat constructor); exact rfl; exact rfl; exact rfl; exact rfl; kernel_rfl; intro wx hS; (try simp only [Act.put, List.setIfInBounds_toArray, List.set_cons_zero, List.set_cons_succ]); (try simp only [Act.eval, Array.getD_eq_getD_getElem?, List.getElem?_toArray, List.getElem?_cons_succ, List.getElem?_cons_zero, Option.getD_some, List.set_cons_succ, List.set_cons_zero, Value.cells, List.toList_toArray] at hS)) | ((with_reducible show WBx ..); (with_reducible apply wpA_box hS); exact rfl; exact rfl; intro _ wx hS; (try simp only [Act.put, List.setIfInBounds_toArray, List.set_cons_zero, List.set_cons_succ]); (try simp only [Act.eval, Array.getD_eq_getD_getElem?, List.getElem?_toArray, List.getElem?_cons_succ, List.getElem?_cons_zero, Option.getD_some, List.set_cons_succ, List.set_cons_zero, Value.cells, List.toList_toArray] at hS)))
        have hL := HF.out _ [] hS
        clear hS HF
        go_roundw
        case rel => exact ⟨i + 1, σ, ρ, by omega, by omega, by go_num, Lib.hid ⟨HI.out.1, HI.out.2.mono⟩, hL⟩
        case measure => simp [intOf]; omega
      have hcd3 : decide ((1000 : Int) < (ds.size : Int)) = false := by simp; omega
      go_wp2_with (first | ((with_reducible show WGd ..); (with_reducible apply wpA_guard); exact rfl; skip) | ((with_reducible show WLd ..); (with_reducible apply wpA_load (t := 9)); exact rfl; exact (HRA.out _ _ hS) 4 _ rfl; kernel_rfl) | ((with_reducible show WLd ..); (with_reducible apply wpA_loadN (t := 41)); exact rfl; exact (HRA.out _ _ hS); kernel_rfl; kernel_rfl; (try simp only [Act.put, List.setIfInBounds_toArray, List.set_cons_zero, List.set_cons_succ])) | (go_at_call 15; skip; have hL := HF.out _ [] hS; clear hS HF; (with_reducible refine (do_c hL HI.out.1 HI.out.2 (by omega) dk dn df dt ds k3 HFIT.out.file HFIT.out.to_ HFIT.out.n).mono ?_); rintro _ _ ⟨rfl, σ2, ρ2, hr2, hp2, hL⟩; (obtain ⟨D_, hS, hfin⟩ := TwoD.opn (A := []) hL); have HF := Lib.hid hfin; clear hfin hL; (try simp only [List.cons_append, List.nil_append] at hS); (have HI2 := Lib.hid (And.intro hr2 hp2); clear hr2 hp2)) | (go_at_call 16; skip; have hL := HF.out _ [] hS; clear hS HF; (with_reducible refine (same_c hL HI2.out.1 HI2.out.2 (by omega)).mono ?_); rintro _ _ ⟨rfl, hL⟩; (obtain ⟨D_, hS, hfin⟩ := TwoD.opn (A := []) hL); have HF := Lib.hid hfin; clear hfin hL; (try simp only [List.cons_append, List.nil_append] at hS); skip) | ((with_reducible show WLd ..); (with_reducible apply wpA_load); exact rfl; (first | ((with_reducible apply St.cellI hS); (focus repeat constructor); exact rfl) | assumption); kernel_rfl) | ((with_reducible show WSt ..); (with_reducible apply wpA_store1I hS); exact rfl; (focus repeat constructor); exact rfl; exact rfl; exact rfl; exact rfl; kernel_rfl; intro wx hS; (try simp only [Act.put, List.setIfInBounds_toArray, List.set_cons_zero, List.set_cons_succ]); (try simp only [Act.eval, Array.getD_eq_getD_getElem?, List.getElem?_toArray, List.getElem?_cons_succ, List.getElem?_cons_zero, Option.getD_some, List.set_cons_succ, List.set_cons_zero, Value.cells, List.toList_toArray] at hS)) | ((with_reducible show WBx ..); (with_reducible apply wpA_box hS); exact rfl; exact rfl; intro _ wx hS; (try simp only [Act.put, List.setIfInBounds_toArray, List.set_cons_zero, List.set_cons_succ]); (try simp only [Act.eval, Array.getD_eq_getD_getElem?, List.getElem?_toArray, List.getElem?_cons_succ, List.getElem?_cons_zero, Option.getD_some, List.set_cons_succ, List.set_cons_zero, Value.cells, List.toList_toArray] at hS)))
      have hL := HF.out _ [] hS
      clear hS HF
      go_roundw
      case rel => exact ⟨i + 1, σ2, ρ2, by omega, by omega, by go_num, HI2, hL⟩
      case measure => simp [intOf]; omega
  case rest =>
    clear hL
    have hS := hcut
    go_wp2_with (first | ((with_reducible show WGd ..); (with_reducible apply wpA_guard); exact rfl; skip) | (go_at_call 8; with_reducible refine (awake_c w0 _ _ hS).mono ?_; rintro _ _ ⟨rfl, hS⟩) | ((with_reducible show WLd ..); (with_reducible apply wpA_load); exact rfl; (first | ((with_reducible apply St.cellI hS); (focus repeat constructor); exact rfl) | assumption); kernel_rfl) | ((with_reducible show WSt ..); (with_reducible apply wpA_store1I hS); exact rfl; (focus repeat constructor); exact rfl; exact rfl; exact rfl; exact rfl; kernel_rfl; intro wx hS; (try simp only [Act.put, List.setIfInBounds_toArray, List.set_cons_zero, List.set_cons_succ]); (try simp only [Act.eval, Array.getD_eq_getD_getElem?, List.getElem?_toArray, List.getElem?_cons_succ, List.getElem?_cons_zero, Option.getD_some, List.set_cons_succ, List.set_cons_zero, Value.cells, List.toList_toArray] at hS)) | ((with_reducible show WBx ..); (with_reducible apply wpA_box hS); exact rfl; exact rfl; intro _ wx hS; (try simp only [Act.put, List.setIfInBounds_toArray, List.set_cons_zero, List.set_cons_succ]); (try simp only [Act.eval, Array.getD_eq_getD_getElem?, List.getElem?_toArray, List.getElem?_cons_succ, List.getElem?_cons_zero, Option.getD_some, List.set_cons_succ, List.set_cons_zero, Value.cells, List.toList_toArray] at hS)))
    go_ret
    exact ⟨rfl, hS⟩

theorem plays_law (w : World) (v0 : Value) (h0 : RdV Try.prog w 35 v0) : Calls Try.prog 5 #[v0] w fun e w' => e = .returned (.bool true) ∧ St w w' [] := by
  obtain ⟨ao, cap, l, rfl, ho, bo, hq, hr⟩ := h0.sliceIn (f := DeedD.cells) (Q := fun d => d.fit) Try.underlying35 (k := 5) (by kernel_rfl) (by decide) (fun cs h => deed_in h)
  have e : reachBytes = 140737488351232 := rfl
  have hb : Try.prog.bytesOf 41 = 64 := by kernel_rfl
  rw [hb] at bo
  exact plays_v w l ao cap (by omega) hr hq
end Go.Proofs.Ytbigkonbdnbnpaa
