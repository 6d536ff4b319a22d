/-
  The reference's Crash, walked.
-/
import Derived.Test.YtbigkonbdnbnpaaDpC
namespace Go.Proofs.Ytbigkonbdnbnpaa
set_option linter.unusedVariables false
set_option linter.unusedSimpArgs false
open Go.RowKit

abbrev fhpT (t : Int) (z : FileR) : List Hp := [.row 79 2 z.a z.l.length z.c ((thrB t z.l).flatMap bcells)]
theorem BR.el {w : World} {g k : Nat} {y : BR} (h : w.rangeAt g k (bcells y)) : w.rangeAt g k [.int .u8 y.1.toNat, .int .i64 y.2] := h
theorem erase_same {L : List FileR} {t w : Int} {fi ai : Nat} (h0 : 0 ≤ t) (htw : t < w) (hn : (ws L).Nodup) (hat : At L fi ai w) (hmin : ∀ i k v, At L i k v → t < v → w ≤ v) : (L.eraseIdx fi).flatMap (fhpT t) = (L.eraseIdx fi).flatMap (fhpT w) := by
  rw [List.flatMap_def, List.flatMap_def]
  congr 1
  apply List.map_congr_left
  intro z hz
  obtain ⟨i, hi, hz⟩ := List.mem_eraseIdx_iff_getElem?.1 hz
  have : thrB t z.l = thrB w z.l := thr_same htw (fun y hy hlt => by
    obtain ⟨k, hk⟩ := List.getElem?_of_mem hy
    have hat2 : At L i k y.2 := ⟨z, y, hz, hk, rfl⟩
    have h1 := hmin i k y.2 hat2 hlt
    by_cases e : y.2 = w
    · rw [e] at hat2
      exact absurd (ws_inj hn (by omega) hat2 hat).1 hi
    · omega)
  unfold fhpT
  rw [this]
theorem row_same {L : List FileR} {t w : Int} {fi ai : Nat} {z : FileR} {y : BR} (h0 : 0 ≤ t) (htw : t < w) (hn : (ws L).Nodup) (hz : L[fi]? = some z) (hy : z.l[ai]? = some y) (he : y.2 = w) (hmin : ∀ i k v, At L i k v → t < v → w ≤ v) : (thrB t z.l).set ai (y.1, 0) = thrB w z.l := by
  refine thr_set htw hy he (fun j u hu hj hlt => ?_)
  have hat2 : At L fi j u.2 := ⟨z, u, hz, hu, rfl⟩
  have h1 := hmin fi j u.2 hat2 hlt
  by_cases e : u.2 = w
  · rw [e] at hat2
    exact absurd (ws_inj hn (by omega) hat2 ⟨z, y, hz, hy, he⟩).2 hj
  · omega
theorem Scan.min {L : List FileR} {t f a w : Int} {fi : Nat} (hs : Scan L t L.length 0 f a w) (hf : f = fi) : ∀ i k v, At L i k v → t < v → w ≤ v := by
  rcases hs with ⟨h1, _⟩ | ⟨fi', ai', h1, h2, h3, h4, h5⟩
  · omega
  · exact fun i k v hat hlt => h5 i k v hat (.inl hat.lt) hlt

section
variable {w0 w : World} {x : Nat} {R : List Hp} {ρ : RefD}
set_option maxRecDepth 100000 in
set_option maxHeartbeats 8000000 in
theorem rcrash_c (h : RefDSt w0 w x ρ R) (ok : ρ.ok) (hn : (whens ρ).Nodup) (hp : ∀ y ∈ ρ.l, ∀ u ∈ y.2, 0 ≤ u.2) (keep : Int) (hk1 : -9223372036854775808 ≤ keep) (hk2 : keep ≤ 9223372036854775807) :
    Calls Try.prog 29 #[.pointer (some ⟨x, 0, none⟩), .int .i64 keep] w fun e w' => (∃ v, e = .returned v) ∧ ∃ t, TQ keep (whens ρ) t ∧ RefDSt w0 w' x (crashR t ρ) R := by
  obtain ⟨a, c, L, hL, hS⟩ := h
  have hl : L.length ≤ 1000000 := by rw [len_of hL]; exact ok.len
  rw [← ws_eq hL] at hn ⊢
  have hmem : ∀ z ∈ L, z.l.length ≤ 4194304 ∧ ∀ u ∈ z.l, 0 ≤ u.2 := fun z hz => by
    have : z.d ∈ ρ.l := by rw [← hL]; exact List.mem_map.2 ⟨z, hz, rfl⟩
    exact ⟨ok.bytes _ this, hp _ this⟩
  have hst : L.flatMap fhp = L.flatMap (fhpT 0) := by
    rw [List.flatMap_def, List.flatMap_def]
    congr 1
    apply List.map_congr_left
    intro z hz
    unfold fhpT
    rw [thr_zero (hmem z hz).2]
  rw [hst] at hS
  obtain ⟨l, clk⟩ := ρ
  simp only at hS hL ⊢
  have HN := Lib.hid hn
  have HL := Lib.hid hL
  have HM := Lib.hid hmem
  clear hn hL hmem hst ok hp
  go_enter Try.func29, Try.ntmps29
  go_wp2_with (first | ((with_reducible show WGd ..); (with_reducible apply wpA_guard); exact rfl; skip) | ((with_reducible show WLd ..); (with_reducible apply wpA_load); exact rfl; (first | ((with_reducible apply St.cellI hS); (focus repeat constructor); exact rfl) | assumption); kernel_rfl) | ((with_reducible show WSt ..); (with_reducible apply wpA_store1I hS); exact rfl; (focus repeat constructor); exact rfl; exact rfl; exact rfl; exact rfl; kernel_rfl; intro wx hS; (try simp only [Act.put, List.setIfInBounds_toArray, List.set_cons_zero, List.set_cons_succ]); (try simp only [Act.eval, Array.getD_eq_getD_getElem?, List.getElem?_toArray, List.getElem?_cons_succ, List.getElem?_cons_zero, Option.getD_some, List.set_cons_succ, List.set_cons_zero, Value.cells, List.toList_toArray] at hS)) | ((with_reducible show WBx ..); (with_reducible apply wpA_box hS); exact rfl; exact rfl; intro _ wx hS; (try simp only [Act.put, List.setIfInBounds_toArray, List.set_cons_zero, List.set_cons_succ]); (try simp only [Act.eval, Array.getD_eq_getD_getElem?, List.getElem?_toArray, List.getElem?_cons_succ, List.getElem?_cons_zero, Option.getD_some, List.set_cons_succ, List.set_cons_zero, Value.cells, List.toList_toArray] at hS)))
  go_loopw [1] (fun v1 wr => ∃ (tt : Int) (n : Nat), v1 = .int .i64 (keep - n) ∧ Hid (CI keep L tt n) ∧ St w0 wr (rdc x a L.length c clk :: frow a c L :: (L.flatMap (fhpT tt) ++ R))) (fun v1 _ => (intOf v1).toNat)
  case atStart => exact ⟨0, 0, by simp, Lib.hid (CI.init keep L), hS⟩
  case round =>
    clear hS
    obtain ⟨tt, n, rfl, HI, hS⟩ := hrel
    have htt := HI.out.pos
    go_upto_block 2 with (first | ((with_reducible show WGd ..); (with_reducible apply wpA_guard); exact rfl; skip) | ((with_reducible show WLd ..); (with_reducible apply wpA_load); exact rfl; (first | ((with_reducible apply St.cellI hS); (focus repeat constructor); exact rfl) | assumption); kernel_rfl) | ((with_reducible show WSt ..); (with_reducible apply wpA_store1I hS); exact rfl; (focus repeat constructor); exact rfl; exact rfl; exact rfl; exact rfl; kernel_rfl; intro wx hS; (try simp only [Act.put, List.setIfInBounds_toArray, List.set_cons_zero, List.set_cons_succ]); (try simp only [Act.eval, Array.getD_eq_getD_getElem?, List.getElem?_toArray, List.getElem?_cons_succ, List.getElem?_cons_zero, Option.getD_some, List.set_cons_succ, List.set_cons_zero, Value.cells, List.toList_toArray] at hS)) | ((with_reducible show WBx ..); (with_reducible apply wpA_box hS); exact rfl; exact rfl; intro _ wx hS; (try simp only [Act.put, List.setIfInBounds_toArray, List.set_cons_zero, List.set_cons_succ]); (try simp only [Act.eval, Array.getD_eq_getD_getElem?, List.getElem?_toArray, List.getElem?_cons_succ, List.getElem?_cons_zero, Option.getD_some, List.set_cons_succ, List.set_cons_zero, Value.cells, List.toList_toArray] at hS)))
    go_cut [4, 5, 6] (fun v4 v5 v6 wr => ∃ (f aa ww : Int), v4 = .int .i64 f ∧ v5 = .int .i64 aa ∧ v6 = .int .i64 ww ∧ Hid (Scan L tt L.length 0 f aa ww) ∧ St w0 wr (rdc x a L.length c clk :: frow a c L :: (L.flatMap (fhpT tt) ++ R)))
    case first =>
      go_wp2_with (first | ((with_reducible show WGd ..); (with_reducible apply wpA_guard); exact rfl; skip) | ((with_reducible show WLd ..); (with_reducible apply wpA_load); exact rfl; (first | ((with_reducible apply St.cellI hS); (focus repeat constructor); exact rfl) | assumption); kernel_rfl) | ((with_reducible show WSt ..); (with_reducible apply wpA_store1I hS); exact rfl; (focus repeat constructor); exact rfl; exact rfl; exact rfl; exact rfl; kernel_rfl; intro wx hS; (try simp only [Act.put, List.setIfInBounds_toArray, List.set_cons_zero, List.set_cons_succ]); (try simp only [Act.eval, Array.getD_eq_getD_getElem?, List.getElem?_toArray, List.getElem?_cons_succ, List.getElem?_cons_zero, Option.getD_some, List.set_cons_succ, List.set_cons_zero, Value.cells, List.toList_toArray] at hS)) | ((with_reducible show WBx ..); (with_reducible apply wpA_box hS); exact rfl; exact rfl; intro _ wx hS; (try simp only [Act.put, List.setIfInBounds_toArray, List.set_cons_zero, List.set_cons_succ]); (try simp only [Act.eval, Array.getD_eq_getD_getElem?, List.getElem?_toArray, List.getElem?_cons_succ, List.getElem?_cons_zero, Option.getD_some, List.set_cons_succ, List.set_cons_zero, Value.cells, List.toList_toArray] at hS)))
      go_loopw [4, 5, 6, 7] (fun v4 v5 v6 v7 wr => ∃ (i : Nat) (f aa ww : Int), i ≤ L.length ∧ v7 = .int .i64 i ∧ v4 = .int .i64 f ∧ v5 = .int .i64 aa ∧ v6 = .int .i64 ww ∧ Hid (Scan L tt i 0 f aa ww) ∧ St w0 wr (rdc x a L.length c clk :: frow a c L :: (L.flatMap (fhpT tt) ++ R))) (fun _ _ _ v7 _ => L.length - (intOf v7).toNat)
      case atStart => exact ⟨0, _, _, _, Nat.zero_le _, rfl, rfl, rfl, rfl, Lib.hid (Scan.init L tt _ _), hS⟩
      case round =>
        clear hS
        obtain ⟨i, f, aa, ww, hi, rfl, rfl, rfl, rfl, HS, hS⟩ := hrel
        by_cases hlt : i < L.length
        · obtain ⟨z, hz⟩ : ∃ z, L[i]? = some z := ⟨_, List.getElem?_eq_getElem hlt⟩
          rcases row_head (hS.at_ 1 rfl) with ⟨_, hh, _⟩ | ⟨⟨gF, rfl⟩, _⟩
          · omega
          have hzl := (HM.out z (List.mem_of_getElem? hz)).1
          have hrow : ∀ v : Int × Int × Int, Scan L tt i z.l.length v.1 v.2.1 v.2.2 → Scan L tt (i + 1) 0 v.1 v.2.1 v.2.2 := fun v h => h.row hz
          have HROW := Lib.hid hrow
          obtain ⟨idx, hidx⟩ : ∃ idx, (rdc x (some ⟨gF, 0, none⟩) L.length c clk :: frow (some ⟨gF, 0, none⟩) c L :: (L.flatMap (fhpT tt) ++ R))[idx]? = some (Hp.row 79 2 z.a z.l.length z.c ((thrB tt z.l).flatMap bcells)) := List.getElem?_of_mem (by
            refine List.mem_cons_of_mem _ (List.mem_cons_of_mem _ (List.mem_append_left _ ?_))
            exact List.mem_flatMap.2 ⟨_, List.mem_of_getElem? hz, by simp [fhpT]⟩)
          have hat : ∀ k y, z.l[k]? = some y → At L i k y.2 := fun k y h => ⟨z, y, hz, h, rfl⟩
          have HAT := Lib.hid hat
          obtain ⟨nm, za, zc, zl⟩ := z
          have HIX := Lib.hid hidx
          have HZ := Lib.hid hz
          simp only at hzl HIX HAT HROW
          clear hidx hz hat hrow
          go_wp2_with (first | ((with_reducible show WGd ..); (with_reducible apply wpA_guard); exact rfl; skip) | ((with_reducible show WLd ..); (with_reducible apply wpA_load); exact rfl; exact (row_elem FileR.cells_length (hS.at_ 1 rfl) HZ.out) 1 _ rfl; kernel_rfl) | ((with_reducible show WLd ..); (with_reducible apply wpA_load); exact rfl; (first | ((with_reducible apply St.cellI hS); (focus repeat constructor); exact rfl) | assumption); kernel_rfl) | ((with_reducible show WSt ..); (with_reducible apply wpA_store1I hS); exact rfl; (focus repeat constructor); exact rfl; exact rfl; exact rfl; exact rfl; kernel_rfl; intro wx hS; (try simp only [Act.put, List.setIfInBounds_toArray, List.set_cons_zero, List.set_cons_succ]); (try simp only [Act.eval, Array.getD_eq_getD_getElem?, List.getElem?_toArray, List.getElem?_cons_succ, List.getElem?_cons_zero, Option.getD_some, List.set_cons_succ, List.set_cons_zero, Value.cells, List.toList_toArray] at hS)) | ((with_reducible show WBx ..); (with_reducible apply wpA_box hS); exact rfl; exact rfl; intro _ wx hS; (try simp only [Act.put, List.setIfInBounds_toArray, List.set_cons_zero, List.set_cons_succ]); (try simp only [Act.eval, Array.getD_eq_getD_getElem?, List.getElem?_toArray, List.getElem?_cons_succ, List.getElem?_cons_zero, Option.getD_some, List.set_cons_succ, List.set_cons_zero, Value.cells, List.toList_toArray] at hS)))
          go_loopw [4, 5, 6, 8] (fun v4 v5 v6 v8 wr => ∃ (k : Nat) (f aa ww : Int), k ≤ zl.length ∧ v8 = .int .i64 k ∧ v4 = .int .i64 f ∧ v5 = .int .i64 aa ∧ v6 = .int .i64 ww ∧ Hid (Scan L tt i k f aa ww) ∧ St w0 wr (rdc x (some ⟨gF, 0, none⟩) L.length c clk :: frow (some ⟨gF, 0, none⟩) c L :: (L.flatMap (fhpT tt) ++ R))) (fun _ _ _ v8 _ => zl.length - (intOf v8).toNat)
          case atStart => exact ⟨0, _, _, _, Nat.zero_le _, rfl, rfl, rfl, rfl, HS, hS⟩
          case round =>
            clear hS HS
            obtain ⟨k, f, aa, ww, hk, rfl, rfl, rfl, rfl, HS, hS⟩ := hrel
            by_cases hkl : k < zl.length
            · obtain ⟨y, hy⟩ : ∃ y, zl[k]? = some y := ⟨_, List.getElem?_eq_getElem hkl⟩
              rcases row_head (hS.at_ idx HIX.out) with ⟨_, hh, _⟩ | ⟨⟨gB, rfl⟩, _⟩
              · omega
              have ha := HAT.out k y hy
              by_cases hle : y.2 ≤ tt
              · have HY : Hid ((thrB tt zl)[k]? = some (y.1, 0)) := Lib.hid (by unfold thrB; rw [List.getElem?_map, hy, Option.map_some, if_pos hle])
                have HS2 := Lib.hid (HS.out.le ha hle)
                clear hy ha hle HS
                go_wp2_with (first | ((with_reducible show WGd ..); (with_reducible apply wpA_guard); exact rfl; skip) | ((with_reducible show WLd ..); (with_reducible apply wpA_load); exact rfl; exact (row_elem FileR.cells_length (hS.at_ 1 rfl) HZ.out) 1 _ rfl; kernel_rfl) | ((with_reducible show WLd ..); (with_reducible apply wpA_load); exact rfl; exact (row_elem bcells_length (hS.at_ idx HIX.out) HY.out) 1 _ rfl; kernel_rfl) | ((with_reducible show WLd ..); (with_reducible apply wpA_load); exact rfl; (first | ((with_reducible apply St.cellI hS); (focus repeat constructor); exact rfl) | assumption); kernel_rfl) | ((with_reducible show WSt ..); (with_reducible apply wpA_store1I hS); exact rfl; (focus repeat constructor); exact rfl; exact rfl; exact rfl; exact rfl; kernel_rfl; intro wx hS; (try simp only [Act.put, List.setIfInBounds_toArray, List.set_cons_zero, List.set_cons_succ]); (try simp only [Act.eval, Array.getD_eq_getD_getElem?, List.getElem?_toArray, List.getElem?_cons_succ, List.getElem?_cons_zero, Option.getD_some, List.set_cons_succ, List.set_cons_zero, Value.cells, List.toList_toArray] at hS)) | ((with_reducible show WBx ..); (with_reducible apply wpA_box hS); exact rfl; exact rfl; intro _ wx hS; (try simp only [Act.put, List.setIfInBounds_toArray, List.set_cons_zero, List.set_cons_succ]); (try simp only [Act.eval, Array.getD_eq_getD_getElem?, List.getElem?_toArray, List.getElem?_cons_succ, List.getElem?_cons_zero, Option.getD_some, List.set_cons_succ, List.set_cons_zero, Value.cells, List.toList_toArray] at hS)))
                go_roundw
                (case rel => exact ⟨k + 1, _, _, _, by omega, by go_num, rfl, rfl, rfl, HS2, hS⟩)
                (case measure => simp [intOf]; omega)
              · have HY : Hid ((thrB tt zl)[k]? = some (y.1, y.2)) := Lib.hid (by unfold thrB; rw [List.getElem?_map, hy, Option.map_some, if_neg hle])
                have hlt2 : tt < y.2 := by omega
                have hd1 : decide (0 < y.2) = true := by simp; omega
                rcases HS.out.cases with rfl | ⟨fi, ai, rfl, rfl, h3, h4⟩
                · have HS2 := Lib.hid (HS.out.first ha hlt2)
                  obtain ⟨y1, y2⟩ := y
                  simp only at HY hd1 HS2
                  clear hy ha hle HS hlt2
                  go_wp2_with (first | ((with_reducible show WGd ..); (with_reducible apply wpA_guard); exact rfl; skip) | ((with_reducible show WLd ..); (with_reducible apply wpA_load); exact rfl; exact (row_elem FileR.cells_length (hS.at_ 1 rfl) HZ.out) 1 _ rfl; kernel_rfl) | ((with_reducible show WLd ..); (with_reducible apply wpA_load); exact rfl; exact (row_elem bcells_length (hS.at_ idx HIX.out) HY.out) 1 _ rfl; kernel_rfl) | ((with_reducible show WLd ..); (with_reducible apply wpA_load); exact rfl; (first | ((with_reducible apply St.cellI hS); (focus repeat constructor); exact rfl) | assumption); kernel_rfl) | ((with_reducible show WSt ..); (with_reducible apply wpA_store1I hS); exact rfl; (focus repeat constructor); exact rfl; exact rfl; exact rfl; exact rfl; kernel_rfl; intro wx hS; (try simp only [Act.put, List.setIfInBounds_toArray, List.set_cons_zero, List.set_cons_succ]); (try simp only [Act.eval, Array.getD_eq_getD_getElem?, List.getElem?_toArray, List.getElem?_cons_succ, List.getElem?_cons_zero, Option.getD_some, List.set_cons_succ, List.set_cons_zero, Value.cells, List.toList_toArray] at hS)) | ((with_reducible show WBx ..); (with_reducible apply wpA_box hS); exact rfl; exact rfl; intro _ wx hS; (try simp only [Act.put, List.setIfInBounds_toArray, List.set_cons_zero, List.set_cons_succ]); (try simp only [Act.eval, Array.getD_eq_getD_getElem?, List.getElem?_toArray, List.getElem?_cons_succ, List.getElem?_cons_zero, Option.getD_some, List.set_cons_succ, List.set_cons_zero, Value.cells, List.toList_toArray] at hS)))
                  go_roundw
                  (case rel => exact ⟨k + 1, _, _, _, by omega, by go_num, rfl, rfl, rfl, HS2, hS⟩)
                  (case measure => simp [intOf]; omega)
                · have hdf : decide ((fi : Int) < 0) = false := by simp
                  by_cases hyw : y.2 < ww
                  · have HS2 := Lib.hid (HS.out.less ha hlt2 hyw)
                    have hdw : decide (y.2 < ww) = true := by simpa using hyw
                    obtain ⟨y1, y2⟩ := y
                    simp only at HY hd1 HS2 hdw
                    clear hy ha hle HS hlt2 h3 h4 hyw
                    go_wp2_with (first | ((with_reducible show WGd ..); (with_reducible apply wpA_guard); exact rfl; skip) | ((with_reducible show WLd ..); (with_reducible apply wpA_load); exact rfl; exact (row_elem FileR.cells_length (hS.at_ 1 rfl) HZ.out) 1 _ rfl; kernel_rfl) | ((with_reducible show WLd ..); (with_reducible apply wpA_load); exact rfl; exact (row_elem bcells_length (hS.at_ idx HIX.out) HY.out) 1 _ rfl; kernel_rfl) | ((with_reducible show WLd ..); (with_reducible apply wpA_load); exact rfl; (first | ((with_reducible apply St.cellI hS); (focus repeat constructor); exact rfl) | assumption); kernel_rfl) | ((with_reducible show WSt ..); (with_reducible apply wpA_store1I hS); exact rfl; (focus repeat constructor); exact rfl; exact rfl; exact rfl; exact rfl; kernel_rfl; intro wx hS; (try simp only [Act.put, List.setIfInBounds_toArray, List.set_cons_zero, List.set_cons_succ]); (try simp only [Act.eval, Array.getD_eq_getD_getElem?, List.getElem?_toArray, List.getElem?_cons_succ, List.getElem?_cons_zero, Option.getD_some, List.set_cons_succ, List.set_cons_zero, Value.cells, List.toList_toArray] at hS)) | ((with_reducible show WBx ..); (with_reducible apply wpA_box hS); exact rfl; exact rfl; intro _ wx hS; (try simp only [Act.put, List.setIfInBounds_toArray, List.set_cons_zero, List.set_cons_succ]); (try simp only [Act.eval, Array.getD_eq_getD_getElem?, List.getElem?_toArray, List.getElem?_cons_succ, List.getElem?_cons_zero, Option.getD_some, List.set_cons_succ, List.set_cons_zero, Value.cells, List.toList_toArray] at hS)))
                    go_roundw
                    (case rel => exact ⟨k + 1, _, _, _, by omega, by go_num, rfl, rfl, rfl, HS2, hS⟩)
                    (case measure => simp [intOf]; omega)
                  · have HS2 := Lib.hid (HS.out.more ha hyw)
                    have hdw : decide (y.2 < ww) = false := by simpa using hyw
                    obtain ⟨y1, y2⟩ := y
                    simp only at HY hd1 HS2 hdw
                    clear hy ha hle HS hlt2 h3 h4 hyw
                    go_wp2_with (first | ((with_reducible show WGd ..); (with_reducible apply wpA_guard); exact rfl; skip) | ((with_reducible show WLd ..); (with_reducible apply wpA_load); exact rfl; exact (row_elem FileR.cells_length (hS.at_ 1 rfl) HZ.out) 1 _ rfl; kernel_rfl) | ((with_reducible show WLd ..); (with_reducible apply wpA_load); exact rfl; exact (row_elem bcells_length (hS.at_ idx HIX.out) HY.out) 1 _ rfl; kernel_rfl) | ((with_reducible show WLd ..); (with_reducible apply wpA_load); exact rfl; (first | ((with_reducible apply St.cellI hS); (focus repeat constructor); exact rfl) | assumption); kernel_rfl) | ((with_reducible show WSt ..); (with_reducible apply wpA_store1I hS); exact rfl; (focus repeat constructor); exact rfl; exact rfl; exact rfl; exact rfl; kernel_rfl; intro wx hS; (try simp only [Act.put, List.setIfInBounds_toArray, List.set_cons_zero, List.set_cons_succ]); (try simp only [Act.eval, Array.getD_eq_getD_getElem?, List.getElem?_toArray, List.getElem?_cons_succ, List.getElem?_cons_zero, Option.getD_some, List.set_cons_succ, List.set_cons_zero, Value.cells, List.toList_toArray] at hS)) | ((with_reducible show WBx ..); (with_reducible apply wpA_box hS); exact rfl; exact rfl; intro _ wx hS; (try simp only [Act.put, List.setIfInBounds_toArray, List.set_cons_zero, List.set_cons_succ]); (try simp only [Act.eval, Array.getD_eq_getD_getElem?, List.getElem?_toArray, List.getElem?_cons_succ, List.getElem?_cons_zero, Option.getD_some, List.set_cons_succ, List.set_cons_zero, Value.cells, List.toList_toArray] at hS)))
                    go_roundw
                    (case rel => exact ⟨k + 1, _, _, _, by omega, by go_num, rfl, rfl, rfl, HS2, hS⟩)
                    (case measure => simp [intOf]; omega)
            · obtain rfl : k = zl.length := by omega
              have HS2 : Hid (Scan L tt (i + 1) 0 f aa ww) := Lib.hid (HROW.out (f, aa, ww) HS.out)
              go_wp2_with (first | ((with_reducible show WGd ..); (with_reducible apply wpA_guard); exact rfl; skip) | ((with_reducible show WLd ..); (with_reducible apply wpA_load); exact rfl; exact (row_elem FileR.cells_length (hS.at_ 1 rfl) HZ.out) 1 _ rfl; kernel_rfl) | ((with_reducible show WLd ..); (with_reducible apply wpA_load); exact rfl; (first | ((with_reducible apply St.cellI hS); (focus repeat constructor); exact rfl) | assumption); kernel_rfl) | ((with_reducible show WSt ..); (with_reducible apply wpA_store1I hS); exact rfl; (focus repeat constructor); exact rfl; exact rfl; exact rfl; exact rfl; kernel_rfl; intro wx hS; (try simp only [Act.put, List.setIfInBounds_toArray, List.set_cons_zero, List.set_cons_succ]); (try simp only [Act.eval, Array.getD_eq_getD_getElem?, List.getElem?_toArray, List.getElem?_cons_succ, List.getElem?_cons_zero, Option.getD_some, List.set_cons_succ, List.set_cons_zero, Value.cells, List.toList_toArray] at hS)) | ((with_reducible show WBx ..); (with_reducible apply wpA_box hS); exact rfl; exact rfl; intro _ wx hS; (try simp only [Act.put, List.setIfInBounds_toArray, List.set_cons_zero, List.set_cons_succ]); (try simp only [Act.eval, Array.getD_eq_getD_getElem?, List.getElem?_toArray, List.getElem?_cons_succ, List.getElem?_cons_zero, Option.getD_some, List.set_cons_succ, List.set_cons_zero, Value.cells, List.toList_toArray] at hS)))
              go_roundw
              case rel => exact ⟨i + 1, _, _, _, by omega, by go_num, rfl, rfl, rfl, HS2, hS⟩
              case measure => simp [intOf]; omega
        · obtain rfl : i = L.length := by omega
          go_wp2_with (first | ((with_reducible show WGd ..); (with_reducible apply wpA_guard); exact rfl; skip) | ((with_reducible show WLd ..); (with_reducible apply wpA_load); exact rfl; (first | ((with_reducible apply St.cellI hS); (focus repeat constructor); exact rfl) | assumption); kernel_rfl) | ((with_reducible show WSt ..); (with_reducible apply wpA_store1I hS); exact rfl; (focus repeat constructor); exact rfl; exact rfl; exact rfl; exact rfl; kernel_rfl; intro wx hS; (try simp only [Act.put, List.setIfInBounds_toArray, List.set_cons_zero, List.set_cons_succ]); (try simp only [Act.eval, Array.getD_eq_getD_getElem?, List.getElem?_toArray, List.getElem?_cons_succ, List.getElem?_cons_zero, Option.getD_some, List.set_cons_succ, List.set_cons_zero, Value.cells, List.toList_toArray] at hS)) | ((with_reducible show WBx ..); (with_reducible apply wpA_box hS); exact rfl; exact rfl; intro _ wx hS; (try simp only [Act.put, List.setIfInBounds_toArray, List.set_cons_zero, List.set_cons_succ]); (try simp only [Act.eval, Array.getD_eq_getD_getElem?, List.getElem?_toArray, List.getElem?_cons_succ, List.getElem?_cons_zero, Option.getD_some, List.set_cons_succ, List.set_cons_zero, Value.cells, List.toList_toArray] at hS)))
          go_meet
          exact ⟨_, _, _, rfl, rfl, rfl, HS, hS⟩
    case rest =>
      clear hS
      obtain ⟨f, aa, ww, rfl, rfl, rfl, HS, hS⟩ := hcut
      rcases HS.out.cases with rfl | ⟨fi, ai, rfl, rfl, hat, hlt⟩
      · have HQ := Lib.hid (HI.out.done HS.out)
        go_wp2_with (first | ((with_reducible show WGd ..); (with_reducible apply wpA_guard); exact rfl; skip) | ((with_reducible show WLd ..); (with_reducible apply wpA_load); exact rfl; (first | ((with_reducible apply St.cellI hS); (focus repeat constructor); exact rfl) | assumption); kernel_rfl) | ((with_reducible show WSt ..); (with_reducible apply wpA_store1I hS); exact rfl; (focus repeat constructor); exact rfl; exact rfl; exact rfl; exact rfl; kernel_rfl; intro wx hS; (try simp only [Act.put, List.setIfInBounds_toArray, List.set_cons_zero, List.set_cons_succ]); (try simp only [Act.eval, Array.getD_eq_getD_getElem?, List.getElem?_toArray, List.getElem?_cons_succ, List.getElem?_cons_zero, Option.getD_some, List.set_cons_succ, List.set_cons_zero, Value.cells, List.toList_toArray] at hS)) | ((with_reducible show WBx ..); (with_reducible apply wpA_box hS); exact rfl; exact rfl; intro _ wx hS; (try simp only [Act.put, List.setIfInBounds_toArray, List.set_cons_zero, List.set_cons_succ]); (try simp only [Act.eval, Array.getD_eq_getD_getElem?, List.getElem?_toArray, List.getElem?_cons_succ, List.getElem?_cons_zero, Option.getD_some, List.set_cons_succ, List.set_cons_zero, Value.cells, List.toList_toArray] at hS)))
        (first | go_end0 | (refine bodyPost_ret (results_none rfl _ _ _) rfl ?_))
        refine ⟨⟨_, rfl⟩, tt, HQ.out, a, c, L.map (fun z => ⟨z.nm, z.a, z.c, thrB tt z.l⟩), ?_, ?_⟩
        · have hall : ∀ z ∈ L, ∀ y ∈ z.l, y.2 ≤ tt := by
            intro z hz y hy
            obtain ⟨i, hi⟩ := List.getElem?_of_mem hz
            obtain ⟨k, hk⟩ := List.getElem?_of_mem hy
            rcases HS.out with ⟨_, h2⟩ | ⟨fi, _, h1, _⟩
            · exact h2 i k y.2 ⟨z, y, hi, hk, rfl⟩ (.inl (List.getElem?_eq_some_iff.1 hi).1)
            · omega
          show _ = l.map _
          rw [← HL.out, List.map_map, List.map_map]
          apply List.map_congr_left
          intro z hz
          show (z.nm, thrB tt z.l) = (z.nm, cutR tt z.l)
          rw [thr_all (hall z hz)]
        · have e1 : (L.map (fun z => (⟨z.nm, z.a, z.c, thrB tt z.l⟩ : FileR))).flatMap FileR.cells = L.flatMap FileR.cells := by
            rw [List.flatMap_map]
            congr 1
            funext z
            simp [FileR.cells, thrB_length]
          have e2 : (L.map (fun z => (⟨z.nm, z.a, z.c, thrB tt z.l⟩ : FileR))).flatMap fhp = L.flatMap (fhpT tt) := by
            rw [List.flatMap_map]
            congr 1
            funext z
            simp [fhp, fhpT, thrB_length]
          show St w0 _ (rdc x a (L.map _).length c clk :: .row 76 2 a (L.map _).length c ((L.map _).flatMap FileR.cells) :: ((L.map _).flatMap fhp ++ R))
          rw [e1, e2, List.length_map]
          exact hS
      · have hfi : fi < L.length := hat.lt
        have hdf : decide ((fi : Int) < 0) = false := by simp
        rcases row_head (hS.at_ 1 rfl) with ⟨_, hh, _⟩ | ⟨⟨gF, rfl⟩, hLc⟩
        · omega
        by_cases hnk : (n : Int) < keep
        · have hdk : decide (0 < keep - (n : Int)) = true := by simp; omega
          have hwk : IntKind.i64.wrap (keep - (n : Int) - 1) = keep - (n : Int) - 1 := by rw [IntKind.wrap_i64]; omega
          have HI2 := Lib.hid (HI.out.next HN.out HS.out rfl hnk)
          have hmin := HS.out.min rfl
          have hes := erase_same htt hlt HN.out hat hmin
          obtain ⟨z, y, hz, hy, hyw⟩ := hat
          have hrs := row_same htt hlt HN.out hz hy hyw hmin
          have hzl := (HM.out z (List.mem_of_getElem? hz)).1
          have hai : ai < z.l.length := (List.getElem?_eq_some_iff.1 hy).1
          have hS2 := St.takeOut (f := fhpT tt) (A := [_, _]) (R := R) hz hS
          simp only [List.cons_append, List.nil_append, fhpT] at hS2
          rw [hes] at hS2
          obtain ⟨D, hD⟩ : ∃ D, (L.eraseIdx fi).flatMap (fhpT ww) ++ R = D := ⟨_, rfl⟩
          rw [hD] at hS2
          have hty : (thrB tt z.l)[ai]? = some (y.1, if y.2 ≤ tt then 0 else y.2) := by unfold thrB; rw [List.getElem?_map, hy]; rfl
          have HZ := Lib.hid hz
          have HE := Lib.hid (And.intro hes (And.intro hrs (And.intro hty hD)))
          obtain ⟨nm, za, zc, zl⟩ := z
          simp only at hzl hai HE hS2
          rcases row_head (hS2.at_ 2 rfl) with ⟨_, hh, _⟩ | ⟨⟨gB, rfl⟩, _⟩
          · omega
          obtain ⟨cur, q1, q2, q3, q4, hS3⟩ := hS2.rowCells 2 rfl
          simp only [List.set_cons_succ, List.set_cons_zero] at hS3
          have hcl : zl.length * 2 ≤ cur.length := by rw [q1]; exact Nat.mul_le_mul_right _ q3
          have hfit : (cur[ai * 2 + 1]?).isSome = true := by rw [List.getElem?_eq_getElem (by omega)]; rfl
          have HQ := Lib.hid (And.intro q1 (And.intro q2 (And.intro q3 (And.intro q4 hcl))))
          clear hS hS2 hmin hes hrs hty hD hz hy hyw q1 q2 q3 q4 hcl HS hlt
          have hS := hS3
          clear hS3
          go_wp2_with (first | ((with_reducible show WGd ..); (with_reducible apply wpA_guard); exact rfl; skip) | ((with_reducible show WLd ..); (with_reducible apply wpA_load); exact rfl; exact (row_elem FileR.cells_length (hS.at_ 1 rfl) HZ.out) 1 _ rfl; kernel_rfl) | ((with_reducible show WSt ..); (with_reducible apply wpA_store1 hS 2); exact rfl; exact rfl; exact rfl; exact rfl; exact rfl; exact hfit; kernel_rfl; intro wx hS; (try simp only [Act.put, List.setIfInBounds_toArray, List.set_cons_zero, List.set_cons_succ]); (try simp only [Act.eval, Array.getD_eq_getD_getElem?, List.getElem?_toArray, List.getElem?_cons_succ, List.getElem?_cons_zero, Option.getD_some, List.set_cons_succ, List.set_cons_zero, Value.cells, List.toList_toArray] at hS)) | ((with_reducible show WLd ..); (with_reducible apply wpA_load); exact rfl; (first | ((with_reducible apply St.cellI hS); (focus repeat constructor); exact rfl) | assumption); kernel_rfl) | ((with_reducible show WSt ..); (with_reducible apply wpA_store1I hS); exact rfl; (focus repeat constructor); exact rfl; exact rfl; exact rfl; exact rfl; kernel_rfl; intro wx hS; (try simp only [Act.put, List.setIfInBounds_toArray, List.set_cons_zero, List.set_cons_succ]); (try simp only [Act.eval, Array.getD_eq_getD_getElem?, List.getElem?_toArray, List.getElem?_cons_succ, List.getElem?_cons_zero, Option.getD_some, List.set_cons_succ, List.set_cons_zero, Value.cells, List.toList_toArray] at hS)) | ((with_reducible show WBx ..); (with_reducible apply wpA_box hS); exact rfl; exact rfl; intro _ wx hS; (try simp only [Act.put, List.setIfInBounds_toArray, List.set_cons_zero, List.set_cons_succ]); (try simp only [Act.eval, Array.getD_eq_getD_getElem?, List.getElem?_toArray, List.getElem?_cons_succ, List.getElem?_cons_zero, Option.getD_some, List.set_cons_succ, List.set_cons_zero, Value.cells, List.toList_toArray] at hS)))
          obtain ⟨q1, q2, q3, q4, hcl⟩ := HQ.out
          obtain ⟨hes, hrs, hty, hD⟩ := HE.out
          have hrow := row_set1 (f := bcells) bcells_length (l := thrB tt zl) (v := .int .i64 0) (q := 1) (y := (y.1, 0)) hty (by rw [thrB_length]; exact q2) (by rw [thrB_length]; exact hcl) (by decide) rfl
          rw [thrB_length, hrs] at hrow
          have hS2 := St.cellsRow hS 2 rfl (n := zl.length) (cap := zc) (by rw [List.length_set]; exact q1) hrow q3 q4
          simp only [List.set_cons_succ, List.set_cons_zero] at hS2
          rw [← hD] at hS2
          have hS4 := St.putIn (w0 := w0) (f := fhpT ww) (A := [rdc x (some ⟨gF, 0, none⟩) L.length c clk, frow (some ⟨gF, 0, none⟩) c L]) (R := R) (z' := ⟨nm, some ⟨gB, 0, none⟩, zc, zl⟩) HZ.out hS2
          rw [set_getElem HZ.out] at hS4
          clear hS hS2
          have hS := hS4
          clear hS4
          go_roundw
          case rel => exact ⟨ww, n + 1, by rw [show keep - ((n + 1 : Nat) : Int) = keep - (n : Int) - 1 by omega], HI2, hS⟩
          case measure => simp [intOf]; omega
        · have hdk : decide (0 < keep - (n : Int)) = false := by simp; omega
          have hdk2 : decide ((n : Int) < keep) = false := by simpa using hnk
          have HTQ := Lib.hid (HI.out.stop HS.out rfl hnk)
          clear HS hat hlt hfi hnk
          go_upto_block 6 with (first | ((with_reducible show WGd ..); (with_reducible apply wpA_guard); exact rfl; skip) | ((with_reducible show WLd ..); (with_reducible apply wpA_load); exact rfl; (first | ((with_reducible apply St.cellI hS); (focus repeat constructor); exact rfl) | assumption); kernel_rfl) | ((with_reducible show WSt ..); (with_reducible apply wpA_store1I hS); exact rfl; (focus repeat constructor); exact rfl; exact rfl; exact rfl; exact rfl; kernel_rfl; intro wx hS; (try simp only [Act.put, List.setIfInBounds_toArray, List.set_cons_zero, List.set_cons_succ]); (try simp only [Act.eval, Array.getD_eq_getD_getElem?, List.getElem?_toArray, List.getElem?_cons_succ, List.getElem?_cons_zero, Option.getD_some, List.set_cons_succ, List.set_cons_zero, Value.cells, List.toList_toArray] at hS)) | ((with_reducible show WBx ..); (with_reducible apply wpA_box hS); exact rfl; exact rfl; intro _ wx hS; (try simp only [Act.put, List.setIfInBounds_toArray, List.set_cons_zero, List.set_cons_succ]); (try simp only [Act.eval, Array.getD_eq_getD_getElem?, List.getElem?_toArray, List.getElem?_cons_succ, List.getElem?_cons_zero, Option.getD_some, List.set_cons_succ, List.set_cons_zero, Value.cells, List.toList_toArray] at hS)))
          go_cut [] (fun wr => ∃ P : List FileR, Hid (P.map FileR.d = L.map (fun z => (z.nm, cutR tt z.l))) ∧ P.length = L.length ∧ St w0 wr (rdc x (some ⟨gF, 0, none⟩) L.length c clk :: .row 76 2 (some ⟨gF, 0, none⟩) L.length c (P.flatMap FileR.cells) :: (P.flatMap fhp ++ R)))
          case first =>
            go_wp2_with (first | ((with_reducible show WGd ..); (with_reducible apply wpA_guard); exact rfl; skip) | ((with_reducible show WLd ..); (with_reducible apply wpA_load); exact rfl; (first | ((with_reducible apply St.cellI hS); (focus repeat constructor); exact rfl) | assumption); kernel_rfl) | ((with_reducible show WSt ..); (with_reducible apply wpA_store1I hS); exact rfl; (focus repeat constructor); exact rfl; exact rfl; exact rfl; exact rfl; kernel_rfl; intro wx hS; (try simp only [Act.put, List.setIfInBounds_toArray, List.set_cons_zero, List.set_cons_succ]); (try simp only [Act.eval, Array.getD_eq_getD_getElem?, List.getElem?_toArray, List.getElem?_cons_succ, List.getElem?_cons_zero, Option.getD_some, List.set_cons_succ, List.set_cons_zero, Value.cells, List.toList_toArray] at hS)) | ((with_reducible show WBx ..); (with_reducible apply wpA_box hS); exact rfl; exact rfl; intro _ wx hS; (try simp only [Act.put, List.setIfInBounds_toArray, List.set_cons_zero, List.set_cons_succ]); (try simp only [Act.eval, Array.getD_eq_getD_getElem?, List.getElem?_toArray, List.getElem?_cons_succ, List.getElem?_cons_zero, Option.getD_some, List.set_cons_succ, List.set_cons_zero, Value.cells, List.toList_toArray] at hS)))
            go_loopw [10] (fun v10 wr => ∃ (i : Nat) (P : List FileR), i ≤ L.length ∧ v10 = .int .i64 i ∧ P.length = i ∧ Hid (P.map FileR.d = (L.take i).map (fun z => (z.nm, cutR tt z.l))) ∧ St w0 wr (rdc x (some ⟨gF, 0, none⟩) L.length c clk :: .row 76 2 (some ⟨gF, 0, none⟩) L.length c ((P ++ L.drop i).flatMap FileR.cells) :: (P.flatMap fhp ++ ((L.drop i).flatMap (fhpT tt) ++ R)))) (fun v10 _ => L.length - (intOf v10).toNat)
            case atStart => exact ⟨0, [], Nat.zero_le _, rfl, rfl, Lib.hid rfl, hS⟩
            case round =>
              clear hS
              obtain ⟨i, P, hi, rfl, hPl, HP, hS⟩ := hrel
              by_cases hlt : i < L.length
              · obtain ⟨z, hz⟩ : ∃ z, L[i]? = some z := ⟨_, List.getElem?_eq_getElem hlt⟩
                have hdr : L.drop i = z :: L.drop (i + 1) := by rw [List.drop_eq_getElem_cons hlt, (List.getElem?_eq_some_iff.1 hz).2]
                have hzl := (HM.out z (List.mem_of_getElem? hz)).1
                have HP2 : Hid (∀ ao cap, (P ++ [(⟨z.nm, ao, cap, cutR tt z.l⟩ : FileR)]).map FileR.d = (L.take (i + 1)).map (fun z => (z.nm, cutR tt z.l))) := Lib.hid (fun ao cap => by rw [List.map_append, HP.out, List.take_add_one, hz, List.map_append]; rfl)
                rw [hdr] at hS
                obtain ⟨Qs, hQs⟩ : ∃ Qs, L.drop (i + 1) = Qs := ⟨_, rfl⟩
                rw [hQs] at hS
                have hQl : Qs.length = L.length - (i + 1) := by rw [← hQs, List.length_drop]
                have hget : (P ++ z :: Qs)[i]? = some z := by rw [List.getElem?_append_right (by omega), hPl, Nat.sub_self]; rfl
                obtain ⟨nm, za, zc, zl⟩ := z
                have hS2 := hS.perm (H' := rdc x (some ⟨gF, 0, none⟩) L.length c clk :: .row 76 2 (some ⟨gF, 0, none⟩) L.length c ((P ++ ⟨nm, za, zc, zl⟩ :: Qs).flatMap FileR.cells) :: .row 79 2 za zl.length zc ((thrB tt zl).flatMap bcells) :: (P.flatMap fhp ++ (Qs.flatMap (fhpT tt) ++ R))) (List.Perm.cons _ (List.Perm.cons _ List.perm_middle))
                obtain ⟨D, hD⟩ : ∃ D, P.flatMap fhp ++ (Qs.flatMap (fhpT tt) ++ R) = D := ⟨_, rfl⟩
                obtain ⟨FL, hFL⟩ : ∃ FL, P ++ (⟨nm, za, zc, zl⟩ : FileR) :: Qs = FL := ⟨_, rfl⟩
                rw [hD, hFL] at hS2
                rw [hFL] at hget
                have hFLl : FL.length = L.length := by rw [← hFL, List.length_append, List.length_cons]; omega
                have HZ := Lib.hid hget
                have HD := Lib.hid (And.intro hD (And.intro hFL (And.intro hQs hFLl)))
                simp only at hzl HP2
                clear hS hD hFL hz hdr hget hQs hFLl hQl
                have hS := hS2
                clear hS2
                go_upto_block 8 with (first | ((with_reducible show WGd ..); (with_reducible apply wpA_guard); exact rfl; skip) | ((with_reducible show WLd ..); (with_reducible apply wpA_load); exact rfl; (first | ((with_reducible apply St.cellI hS); (focus repeat constructor); exact rfl) | assumption); kernel_rfl) | ((with_reducible show WSt ..); (with_reducible apply wpA_store1I hS); exact rfl; (focus repeat constructor); exact rfl; exact rfl; exact rfl; exact rfl; kernel_rfl; intro wx hS; (try simp only [Act.put, List.setIfInBounds_toArray, List.set_cons_zero, List.set_cons_succ]); (try simp only [Act.eval, Array.getD_eq_getD_getElem?, List.getElem?_toArray, List.getElem?_cons_succ, List.getElem?_cons_zero, Option.getD_some, List.set_cons_succ, List.set_cons_zero, Value.cells, List.toList_toArray] at hS)) | ((with_reducible show WBx ..); (with_reducible apply wpA_box hS); exact rfl; exact rfl; intro _ wx hS; (try simp only [Act.put, List.setIfInBounds_toArray, List.set_cons_zero, List.set_cons_succ]); (try simp only [Act.eval, Array.getD_eq_getD_getElem?, List.getElem?_toArray, List.getElem?_cons_succ, List.getElem?_cons_zero, Option.getD_some, List.set_cons_succ, List.set_cons_zero, Value.cells, List.toList_toArray] at hS)))
                go_cut [11] (fun v11 wr => ∃ (ao : Option Addr) (cap : Nat), v11 = .slice ao (cutR tt zl).length cap ∧ St w0 wr (brow ao cap (cutR tt zl) :: rdc x (some ⟨gF, 0, none⟩) L.length c clk :: .row 76 2 (some ⟨gF, 0, none⟩) L.length c (FL.flatMap FileR.cells) :: .row 79 2 za zl.length zc ((thrB tt zl).flatMap bcells) :: D))
                case first =>
                  go_wp2_with (first | ((with_reducible show WGd ..); (with_reducible apply wpA_guard); exact rfl; skip) | ((with_reducible show WLd ..); (with_reducible apply wpA_load); exact rfl; (first | ((with_reducible apply St.cellI hS); (focus repeat constructor); exact rfl) | assumption); kernel_rfl) | ((with_reducible show WSt ..); (with_reducible apply wpA_store1I hS); exact rfl; (focus repeat constructor); exact rfl; exact rfl; exact rfl; exact rfl; kernel_rfl; intro wx hS; (try simp only [Act.put, List.setIfInBounds_toArray, List.set_cons_zero, List.set_cons_succ]); (try simp only [Act.eval, Array.getD_eq_getD_getElem?, List.getElem?_toArray, List.getElem?_cons_succ, List.getElem?_cons_zero, Option.getD_some, List.set_cons_succ, List.set_cons_zero, Value.cells, List.toList_toArray] at hS)) | ((with_reducible show WBx ..); (with_reducible apply wpA_box hS); exact rfl; exact rfl; intro _ wx hS; (try simp only [Act.put, List.setIfInBounds_toArray, List.set_cons_zero, List.set_cons_succ]); (try simp only [Act.eval, Array.getD_eq_getD_getElem?, List.getElem?_toArray, List.getElem?_cons_succ, List.getElem?_cons_zero, Option.getD_some, List.set_cons_succ, List.set_cons_zero, Value.cells, List.toList_toArray] at hS)))
                  go_loopw [11, 12] (fun v11 v12 wr => ∃ (k : Nat) (ao : Option Addr) (cap : Nat), k ≤ zl.length ∧ v12 = .int .i64 k ∧ v11 = .slice ao (((thrB tt zl).take k).filter fun y => decide (y.2 = 0)).length cap ∧ St w0 wr (brow ao cap (((thrB tt zl).take k).filter fun y => decide (y.2 = 0)) :: rdc x (some ⟨gF, 0, none⟩) L.length c clk :: .row 76 2 (some ⟨gF, 0, none⟩) L.length c (FL.flatMap FileR.cells) :: .row 79 2 za zl.length zc ((thrB tt zl).flatMap bcells) :: D)) (fun _ v12 _ => zl.length - (intOf v12).toNat)
                  case atStart => exact ⟨0, none, 0, Nat.zero_le _, rfl, rfl, hS.nilRow 79 2⟩
                  case round =>
                    clear hS
                    obtain ⟨k, ao, cap, hk, rfl, rfl, hS⟩ := hrel
                    by_cases hkl : k < zl.length
                    · obtain ⟨y, hy⟩ : ∃ y, (thrB tt zl)[k]? = some y := ⟨_, List.getElem?_eq_getElem (by rw [thrB_length]; exact hkl)⟩
                      rcases row_head (hS.at_ 3 rfl) with ⟨_, hh, _⟩ | ⟨⟨gB, rfl⟩, _⟩
                      · omega
                      have hml : (((thrB tt zl).take k).filter fun y => decide (y.2 = 0)).length ≤ k := Nat.le_trans (List.length_filter_le _ _) (by rw [List.length_take]; omega)
                      have HY := Lib.hid hy
                      by_cases hyz : y.2 = 0
                      · have hb : (y.2 == 0) = true := by simpa using hyz
                        have HT : Hid (((thrB tt zl).take (k + 1)).filter (fun y => decide (y.2 = 0)) = (((thrB tt zl).take k).filter fun y => decide (y.2 = 0)) ++ [y]) := Lib.hid (by rw [List.take_add_one, hy, List.filter_append]; simp [hyz])
                        generalize hKS : (((thrB tt zl).take k).filter fun y => decide (y.2 = 0)) = K0 at hS HT hml ⊢
                        obtain ⟨y1, y2⟩ := y
                        simp only at hb
                        clear hy hyz
                        go_wp2_with (first | ((with_reducible show WGd ..); (with_reducible apply wpA_guard); exact rfl; skip) | ((with_reducible show WLd ..); (with_reducible apply wpA_loadN (t := 79)); exact rfl; exact (BR.el (row_elem bcells_length (hS.at_ 3 rfl) HY.out)); kernel_rfl; kernel_rfl; (try simp only [Act.put, List.setIfInBounds_toArray, List.set_cons_zero, List.set_cons_succ])) | ((with_reducible show WLd ..); (with_reducible apply wpA_load); exact rfl; exact (row_elem FileR.cells_length (hS.at_ 2 rfl) HZ.out) 1 _ rfl; kernel_rfl) | ((with_reducible show WLd ..); (with_reducible apply wpA_load (t := 3)); exact rfl; exact (row_elem bcells_length (hS.at_ 3 rfl) HY.out) 1 _ rfl; kernel_rfl) | ((with_reducible show WLd ..); (with_reducible apply wpA_loadN (t := 79)); exact rfl; ((with_reducible apply Hp.rangeI hS (n := 2)); (focus repeat constructor)); kernel_rfl; kernel_rfl; (try simp only [Act.put, List.setIfInBounds_toArray, List.set_cons_zero, List.set_cons_succ])) | ((first | ((with_reducible show WBs ..); (with_reducible apply wpA_oneN hS (z := .agg #[.int .u8 0, .int .i64 0]) (bytes := 16) (size := 2)); exact Try.underlying74; kernel_rfl; exact rfl; exact rfl; exact rfl; exact (by decide); exact (by decide); intro _ wx hS) | ((with_reducible show WBx ..); (with_reducible apply wpA_box hS); exact rfl; exact rfl; intro _ wx hS)); (try simp only [Act.put, List.setIfInBounds_toArray, List.set_cons_zero, List.set_cons_succ]); (try simp only [Act.eval, Array.getD_eq_getD_getElem?, List.getElem?_toArray, List.getElem?_cons_succ, List.getElem?_cons_zero, Option.getD_some, List.set_cons_succ, List.set_cons_zero, Value.cells, List.toList_toArray] at hS)) | ((with_reducible show WAp ..); (with_reducible apply wpA_appendI hS (e := 79) (z := .agg #[.int .u8 0, .int .i64 0]) (size := 2) (bytes := 16)); exact rfl; exact rfl; exact Try.underlying74; (focus repeat constructor); exact .inr Try.underlying74; kernel_rfl; exact rfl; exact (Src.freshN (m := 1) hS 0 rfl rfl (by rfl)); exact (by unfold maxLen; omega); exact (by omega); intro ao2 cap2 wx hS; (try simp only [Act.put, List.setIfInBounds_toArray, List.set_cons_zero, List.set_cons_succ])) | ((with_reducible show WLd ..); (with_reducible apply wpA_load); exact rfl; (first | ((with_reducible apply St.cellI hS); (focus repeat constructor); exact rfl) | assumption); kernel_rfl) | ((with_reducible show WSt ..); (with_reducible apply wpA_store1I hS); exact rfl; (focus repeat constructor); exact rfl; exact rfl; exact rfl; exact rfl; kernel_rfl; intro wx hS; (try simp only [Act.put, List.setIfInBounds_toArray, List.set_cons_zero, List.set_cons_succ]); (try simp only [Act.eval, Array.getD_eq_getD_getElem?, List.getElem?_toArray, List.getElem?_cons_succ, List.getElem?_cons_zero, Option.getD_some, List.set_cons_succ, List.set_cons_zero, Value.cells, List.toList_toArray] at hS)))
                        (try simp only [Act.put, Act.eval, Array.getD_eq_getD_getElem?, List.setIfInBounds_toArray, List.getElem?_toArray, List.getElem?_cons_succ, List.getElem?_cons_zero, Option.getD_some, List.set_cons_succ, List.set_cons_zero, Value.cells, List.toList_toArray] at hS)
                        replace hS := hS.tail
                        have e1 : K0.flatMap bcells ++ [Value.int .u8 y1.toNat, Value.int .i64 y2] = (K0 ++ [(y1, y2)]).flatMap bcells := by rw [List.flatMap_append]; rfl
                        have e2 : K0.length + 1 = (K0 ++ [(y1, y2)]).length := by rw [List.length_append]; rfl
                        rw [e1, e2, ← HT.out] at hS
                        rw [e2, ← HT.out]
                        go_roundw
                        case rel => exact ⟨k + 1, ao2, cap2, by omega, by go_num, rfl, hS⟩
                        case measure => simp [intOf]; omega
                      · have hb : (y.2 == 0) = false := by simpa using hyz
                        have HT : Hid (((thrB tt zl).take (k + 1)).filter (fun y => decide (y.2 = 0)) = (((thrB tt zl).take k).filter fun y => decide (y.2 = 0))) := Lib.hid (by rw [List.take_add_one, hy, List.filter_append]; simp [hyz])
                        obtain ⟨y1, y2⟩ := y
                        simp only at hb
                        clear hy hyz
                        rw [← HT.out] at hS ⊢
                        go_wp2_with (first | ((with_reducible show WGd ..); (with_reducible apply wpA_guard); exact rfl; skip) | ((with_reducible show WLd ..); (with_reducible apply wpA_load); exact rfl; exact (row_elem FileR.cells_length (hS.at_ 2 rfl) HZ.out) 1 _ rfl; kernel_rfl) | ((with_reducible show WLd ..); (with_reducible apply wpA_load (t := 3)); exact rfl; exact (row_elem bcells_length (hS.at_ 3 rfl) HY.out) 1 _ rfl; kernel_rfl) | ((with_reducible show WLd ..); (with_reducible apply wpA_load); exact rfl; (first | ((with_reducible apply St.cellI hS); (focus repeat constructor); exact rfl) | assumption); kernel_rfl) | ((with_reducible show WSt ..); (with_reducible apply wpA_store1I hS); exact rfl; (focus repeat constructor); exact rfl; exact rfl; exact rfl; exact rfl; kernel_rfl; intro wx hS; (try simp only [Act.put, List.setIfInBounds_toArray, List.set_cons_zero, List.set_cons_succ]); (try simp only [Act.eval, Array.getD_eq_getD_getElem?, List.getElem?_toArray, List.getElem?_cons_succ, List.getElem?_cons_zero, Option.getD_some, List.set_cons_succ, List.set_cons_zero, Value.cells, List.toList_toArray] at hS)) | ((with_reducible show WBx ..); (with_reducible apply wpA_box hS); exact rfl; exact rfl; intro _ wx hS; (try simp only [Act.put, List.setIfInBounds_toArray, List.set_cons_zero, List.set_cons_succ]); (try simp only [Act.eval, Array.getD_eq_getD_getElem?, List.getElem?_toArray, List.getElem?_cons_succ, List.getElem?_cons_zero, Option.getD_some, List.set_cons_succ, List.set_cons_zero, Value.cells, List.toList_toArray] at hS)))
                        go_roundw
                        case rel => exact ⟨k + 1, ao, cap, by omega, by go_num, rfl, hS⟩
                        case measure => simp [intOf]; omega
                    · obtain rfl : k = zl.length := by omega
                      have HT : Hid ((((thrB tt zl).take zl.length).filter fun y => decide (y.2 = 0)) = cutR tt zl) := Lib.hid (by rw [← thrB_length tt zl, List.take_length]; exact thr_cut htt zl)
                      rw [HT.out] at hS ⊢
                      go_wp2_with (first | ((with_reducible show WGd ..); (with_reducible apply wpA_guard); exact rfl; skip) | ((with_reducible show WLd ..); (with_reducible apply wpA_load); exact rfl; exact (row_elem FileR.cells_length (hS.at_ 2 rfl) HZ.out) 1 _ rfl; kernel_rfl) | ((with_reducible show WLd ..); (with_reducible apply wpA_load); exact rfl; (first | ((with_reducible apply St.cellI hS); (focus repeat constructor); exact rfl) | assumption); kernel_rfl) | ((with_reducible show WSt ..); (with_reducible apply wpA_store1I hS); exact rfl; (focus repeat constructor); exact rfl; exact rfl; exact rfl; exact rfl; kernel_rfl; intro wx hS; (try simp only [Act.put, List.setIfInBounds_toArray, List.set_cons_zero, List.set_cons_succ]); (try simp only [Act.eval, Array.getD_eq_getD_getElem?, List.getElem?_toArray, List.getElem?_cons_succ, List.getElem?_cons_zero, Option.getD_some, List.set_cons_succ, List.set_cons_zero, Value.cells, List.toList_toArray] at hS)) | ((with_reducible show WBx ..); (with_reducible apply wpA_box hS); exact rfl; exact rfl; intro _ wx hS; (try simp only [Act.put, List.setIfInBounds_toArray, List.set_cons_zero, List.set_cons_succ]); (try simp only [Act.eval, Array.getD_eq_getD_getElem?, List.getElem?_toArray, List.getElem?_cons_succ, List.getElem?_cons_zero, Option.getD_some, List.set_cons_succ, List.set_cons_zero, Value.cells, List.toList_toArray] at hS)))
                      go_meet
                      exact ⟨_, _, rfl, hS⟩
                case rest =>
                  clear hS
                  obtain ⟨ao, cap, rfl, hS⟩ := hcut
                  obtain ⟨cur, q1, q2, q3, q4, hS3⟩ := hS.rowCells 2 rfl
                  simp only [List.set_cons_succ, List.set_cons_zero] at hS3
                  have hcl : L.length * 2 ≤ cur.length := by rw [q1]; exact Nat.mul_le_mul_right _ q3
                  have hfit : (cur[i * 2 + 1]?).isSome = true := by rw [List.getElem?_eq_getElem (by omega)]; rfl
                  have HQ := Lib.hid (And.intro q1 (And.intro q2 (And.intro q3 (And.intro q4 hcl))))
                  clear hS q1 q2 q3 q4 hcl
                  have hS := hS3
                  clear hS3
                  go_wp2_with (first | ((with_reducible show WGd ..); (with_reducible apply wpA_guard); exact rfl; skip) | ((with_reducible show WSt ..); (with_reducible apply wpA_store1 hS 2); exact rfl; exact rfl; exact rfl; exact rfl; exact rfl; exact hfit; kernel_rfl; intro wx hS; (try simp only [Act.put, List.setIfInBounds_toArray, List.set_cons_zero, List.set_cons_succ]); (try simp only [Act.eval, Array.getD_eq_getD_getElem?, List.getElem?_toArray, List.getElem?_cons_succ, List.getElem?_cons_zero, Option.getD_some, List.set_cons_succ, List.set_cons_zero, Value.cells, List.toList_toArray] at hS)) | ((with_reducible show WLd ..); (with_reducible apply wpA_load); exact rfl; (first | ((with_reducible apply St.cellI hS); (focus repeat constructor); exact rfl) | assumption); kernel_rfl) | ((with_reducible show WSt ..); (with_reducible apply wpA_store1I hS); exact rfl; (focus repeat constructor); exact rfl; exact rfl; exact rfl; exact rfl; kernel_rfl; intro wx hS; (try simp only [Act.put, List.setIfInBounds_toArray, List.set_cons_zero, List.set_cons_succ]); (try simp only [Act.eval, Array.getD_eq_getD_getElem?, List.getElem?_toArray, List.getElem?_cons_succ, List.getElem?_cons_zero, Option.getD_some, List.set_cons_succ, List.set_cons_zero, Value.cells, List.toList_toArray] at hS)) | ((with_reducible show WBx ..); (with_reducible apply wpA_box hS); exact rfl; exact rfl; intro _ wx hS; (try simp only [Act.put, List.setIfInBounds_toArray, List.set_cons_zero, List.set_cons_succ]); (try simp only [Act.eval, Array.getD_eq_getD_getElem?, List.getElem?_toArray, List.getElem?_cons_succ, List.getElem?_cons_zero, Option.getD_some, List.set_cons_succ, List.set_cons_zero, Value.cells, List.toList_toArray] at hS)))
                  obtain ⟨q1, q2, q3, q4, hcl⟩ := HQ.out
                  obtain ⟨hD, hFL, hQs, hFLl⟩ := HD.out
                  have hrow := row_set1 (f := FileR.cells) FileR.cells_length (l := FL) (v := .slice ao (cutR tt zl).length cap) (q := 1) (y := ⟨nm, ao, cap, cutR tt zl⟩) HZ.out (by rw [hFLl]; exact q2) (by rw [hFLl]; exact hcl) (by decide) rfl
                  rw [hFLl] at hrow
                  have hS2 := St.cellsRow hS 2 rfl (n := L.length) (cap := c) (by rw [List.length_set]; exact q1) hrow q3 q4
                  simp only [List.set_cons_succ, List.set_cons_zero] at hS2
                  have hset : FL.set i ⟨nm, ao, cap, cutR tt zl⟩ = (P ++ [(⟨nm, ao, cap, cutR tt zl⟩ : FileR)]) ++ Qs := by
                    rw [← hFL, List.set_append_right _ _ (by omega), hPl, Nat.sub_self, List.set_cons_zero, List.append_assoc]; rfl
                  rw [hset, ← hD, ← hQs] at hS2
                  have hS4 := hS2.sub (H' := brow ao cap (cutR tt zl) :: rdc x (some ⟨gF, 0, none⟩) L.length c clk :: .row 76 2 (some ⟨gF, 0, none⟩) L.length c (((P ++ [(⟨nm, ao, cap, cutR tt zl⟩ : FileR)]) ++ L.drop (i + 1)).flatMap FileR.cells) :: (P.flatMap fhp ++ ((L.drop (i + 1)).flatMap (fhpT tt) ++ R))) (.cons_cons _ (.cons_cons _ (.cons_cons _ (List.sublist_cons_self _ _))))
                  have hS5 := hS4.perm (H' := rdc x (some ⟨gF, 0, none⟩) L.length c clk :: .row 76 2 (some ⟨gF, 0, none⟩) L.length c (((P ++ [(⟨nm, ao, cap, cutR tt zl⟩ : FileR)]) ++ L.drop (i + 1)).flatMap FileR.cells) :: ((P ++ [(⟨nm, ao, cap, cutR tt zl⟩ : FileR)]).flatMap fhp ++ ((L.drop (i + 1)).flatMap (fhpT tt) ++ R))) (by
                    refine (List.Perm.swap _ _ _).trans (List.Perm.cons _ ((List.Perm.swap _ _ _).trans (List.Perm.cons _ ?_)))
                    rw [List.flatMap_append, List.append_assoc]
                    exact List.perm_middle.symm)
                  clear hS hS2 hS4
                  have hS := hS5
                  clear hS5
                  go_roundw
                  case rel => exact ⟨i + 1, P ++ [(⟨nm, ao, cap, cutR tt zl⟩ : FileR)], by omega, by go_num, by rw [List.length_append, hPl]; rfl, Lib.hid (HP2.out ao cap), hS⟩
                  case measure => simp [intOf]; omega
              · obtain rfl : i = L.length := by omega
                rw [List.drop_length, List.append_nil] at hS
                rw [List.take_length] at HP
                go_wp2_with (first | ((with_reducible show WGd ..); (with_reducible apply wpA_guard); exact rfl; skip) | ((with_reducible show WLd ..); (with_reducible apply wpA_load); exact rfl; (first | ((with_reducible apply St.cellI hS); (focus repeat constructor); exact rfl) | assumption); kernel_rfl) | ((with_reducible show WSt ..); (with_reducible apply wpA_store1I hS); exact rfl; (focus repeat constructor); exact rfl; exact rfl; exact rfl; exact rfl; kernel_rfl; intro wx hS; (try simp only [Act.put, List.setIfInBounds_toArray, List.set_cons_zero, List.set_cons_succ]); (try simp only [Act.eval, Array.getD_eq_getD_getElem?, List.getElem?_toArray, List.getElem?_cons_succ, List.getElem?_cons_zero, Option.getD_some, List.set_cons_succ, List.set_cons_zero, Value.cells, List.toList_toArray] at hS)) | ((with_reducible show WBx ..); (with_reducible apply wpA_box hS); exact rfl; exact rfl; intro _ wx hS; (try simp only [Act.put, List.setIfInBounds_toArray, List.set_cons_zero, List.set_cons_succ]); (try simp only [Act.eval, Array.getD_eq_getD_getElem?, List.getElem?_toArray, List.getElem?_cons_succ, List.getElem?_cons_zero, Option.getD_some, List.set_cons_succ, List.set_cons_zero, Value.cells, List.toList_toArray] at hS)))
                go_meet
                exact ⟨P, HP, hPl, hS⟩
          case rest =>
            clear hS
            obtain ⟨P, HP, hPl, hS⟩ := hcut
            go_wp2_with (first | ((with_reducible show WGd ..); (with_reducible apply wpA_guard); exact rfl; skip) | ((with_reducible show WLd ..); (with_reducible apply wpA_load); exact rfl; (first | ((with_reducible apply St.cellI hS); (focus repeat constructor); exact rfl) | assumption); kernel_rfl) | ((with_reducible show WSt ..); (with_reducible apply wpA_store1I hS); exact rfl; (focus repeat constructor); exact rfl; exact rfl; exact rfl; exact rfl; kernel_rfl; intro wx hS; (try simp only [Act.put, List.setIfInBounds_toArray, List.set_cons_zero, List.set_cons_succ]); (try simp only [Act.eval, Array.getD_eq_getD_getElem?, List.getElem?_toArray, List.getElem?_cons_succ, List.getElem?_cons_zero, Option.getD_some, List.set_cons_succ, List.set_cons_zero, Value.cells, List.toList_toArray] at hS)) | ((with_reducible show WBx ..); (with_reducible apply wpA_box hS); exact rfl; exact rfl; intro _ wx hS; (try simp only [Act.put, List.setIfInBounds_toArray, List.set_cons_zero, List.set_cons_succ]); (try simp only [Act.eval, Array.getD_eq_getD_getElem?, List.getElem?_toArray, List.getElem?_cons_succ, List.getElem?_cons_zero, Option.getD_some, List.set_cons_succ, List.set_cons_zero, Value.cells, List.toList_toArray] at hS)))
            (first | go_end0 | (refine bodyPost_ret (results_none rfl _ _ _) rfl ?_))
            refine ⟨⟨_, rfl⟩, tt, HTQ.out, (some ⟨gF, 0, none⟩), c, P, ?_, ?_⟩
            · rw [HP.out]
              show _ = l.map _
              rw [← HL.out, List.map_map]; rfl
            · show St w0 _ (rdc x _ P.length c clk :: .row _ _ _ P.length _ _ :: _)
              rw [hPl]
              exact hS
end
end Go.Proofs.Ytbigkonbdnbnpaa
