/-
  The reference's sessions: Close, Begin, End, walked.
-/
import Derived.Test.YtodojllclghoiaaSesR
namespace Go.Proofs.Ytodojllclghoiaa
set_option linter.unusedVariables false
set_option linter.unusedSimpArgs false
open Go.RowKit

/-- Cells of one element, one behind the other, are written anew. -/
theorem row_setN {α : Type} {f : α → List Value} {k : Nat} (hf : ∀ x, (f x).length = k) {l : List α} {cur cs : List Value} {j q : Nat} {z y : α} (hz : l[j]? = some z) (hx : cur.take (l.length * k) = l.flatMap f) (hl : l.length * k ≤ cur.length) (hq : q + cs.length ≤ k)
    (hy : f y = (f z).take q ++ cs ++ (f z).drop (q + cs.length)) :
    (cur.take (j * k + q) ++ cs ++ cur.drop (j * k + q + cs.length)).take (l.length * k) = (l.set j y).flatMap f := by
  have hj := (List.getElem?_eq_some_iff.1 hz).1
  have hjk : j * k + k ≤ l.length * k := by rw [← Nat.succ_mul]; exact Nat.mul_le_mul_right _ hj
  rw [← (row_set hf (y := y) hj hx hl).1]
  congr 1
  have hlen : (cur.take (j * k)).length = j * k := by rw [List.length_take]; omega
  have hlen2 : (cur.take (j * k + q)).length = j * k + q := by rw [List.length_take]; omega
  have hlz : (f z).length = k := hf z
  have hcell : ∀ r u, (f z)[r]? = some u → cur[j * k + r]? = some u := by
    intro r u hu
    have h1 := flat_get hf hz r u hu
    rw [← hx, List.getElem?_take] at h1
    split at h1
    · exact h1
    · cases h1
  have hget : ∀ d, d < k → cur[j * k + d]? = (f z)[d]? := by
    intro d hd
    obtain ⟨u, hu⟩ : ∃ u, (f z)[d]? = some u := ⟨_, List.getElem?_eq_getElem (by omega)⟩
    rw [hu]; exact hcell d u hu
  rw [hf]
  apply List.ext_getElem?
  intro r
  rw [List.append_assoc, List.append_assoc]
  by_cases h1 : r < j * k
  · rw [List.getElem?_append_left (by omega), List.getElem?_append_left (by omega), List.getElem?_take, List.getElem?_take, if_pos (by omega), if_pos h1]
  · obtain ⟨d, rfl⟩ : ∃ d, r = j * k + d := ⟨r - j * k, by omega⟩
    by_cases h2 : d < k
    · rw [List.getElem?_append_right (l₁ := cur.take (j * k)) (by omega), hlen, Nat.add_sub_cancel_left, List.getElem?_append_left (l₁ := f y) (by rw [hf]; exact h2), hy, List.append_assoc]
      by_cases h3 : d < q
      · rw [List.getElem?_append_left (by omega), List.getElem?_take, if_pos (by omega), hget d h2, List.getElem?_append_left (by rw [List.length_take]; omega), List.getElem?_take, if_pos h3]
      · have htq : ((f z).take q).length = q := by rw [List.length_take]; omega
        rw [List.getElem?_append_right (l₁ := cur.take (j * k + q)) (by omega), hlen2, List.getElem?_append_right (l₁ := (f z).take q) (by omega), htq, show j * k + d - (j * k + q) = d - q by omega]
        by_cases h4 : d - q < cs.length
        · rw [List.getElem?_append_left h4, List.getElem?_append_left h4]
        · rw [List.getElem?_append_right (by omega), List.getElem?_append_right (by omega), List.getElem?_drop, List.getElem?_drop, ← hget _ (by omega)]
          congr 1; omega
    · rw [List.getElem?_append_right (by omega), hlen2, List.getElem?_append_right (by omega), List.getElem?_drop, List.getElem?_append_right (by omega), hlen, List.getElem?_append_right (by rw [hf]; omega), hf, List.getElem?_drop]
      congr 1; omega

theorem lat_same {σ : SesS} (l : List OneS) (i : Int) : latS ⟨l, σ.c⟩ i = latS σ i := rfl
section
variable {w0 w : World} {x : Nat} {R : List Hp} {σ : SesS}
set_option maxRecDepth 100000 in
set_option maxHeartbeats 4000000 in
theorem rclose_c (h : RefG w0 w x σ R) (hl : σ.l.length ≤ 1000000) (id : Int) : Calls Try.prog 26 #[.pointer (some ⟨x, 0, none⟩), .int .i64 id] w fun e w' => e = .returned (.bool (closeS σ id).1) ∧ RefG w0 w' x (closeS σ id).2 R := by
  obtain ⟨a, c, hS⟩ := h
  unfold closeS
  cases hx : atS σ id with
  | none =>
    have HA := Lib.hid hx
    clear hx
    go_enter Try.func26, Try.ntmps26
    go_wp2_with (first | ((with_reducible show WGd ..); (with_reducible apply wpA_guard); exact rfl; skip) | (go_at_call 44; skip; with_reducible refine (rat_no hS id HA.out hl).mono ?_; rintro _ _ ⟨rfl, hS⟩; skip) | ((with_reducible show WLd ..); (with_reducible apply wpA_load); exact rfl; (first | ((with_reducible apply St.cellI hS); (focus repeat constructor); exact rfl) | assumption); kernel_rfl) | ((with_reducible show WSt ..); (with_reducible apply wpA_store1I hS); exact rfl; (focus repeat constructor); exact rfl; exact rfl; exact rfl; exact rfl; kernel_rfl; intro wx hS; (try simp only [Act.put, List.setIfInBounds_toArray, List.set_cons_zero, List.set_cons_succ]); (try simp only [Act.eval, Array.getD_eq_getD_getElem?, List.getElem?_toArray, List.getElem?_cons_succ, List.getElem?_cons_zero, Option.getD_some, List.set_cons_succ, List.set_cons_zero, Value.cells, List.toList_toArray] at hS)) | ((with_reducible show WBx ..); (with_reducible apply wpA_box hS); exact rfl; exact rfl; intro _ wx hS; (try simp only [Act.put, List.setIfInBounds_toArray, List.set_cons_zero, List.set_cons_succ]); (try simp only [Act.eval, Array.getD_eq_getD_getElem?, List.getElem?_toArray, List.getElem?_cons_succ, List.getElem?_cons_zero, Option.getD_some, List.set_cons_succ, List.set_cons_zero, Value.cells, List.toList_toArray] at hS)))
    go_ret
    exact ⟨rfl, a, c, hS⟩
  | some kx =>
    obtain ⟨k, y⟩ := kx
    have hk := (atS_some hx).1
    have hkl : k < σ.l.length := (List.getElem?_eq_some_iff.1 hk).1
    rcases row_head (hS.at_ 1 rfl) with ⟨_, hh, _⟩ | ⟨⟨g, rfl⟩, _⟩
    · omega
    obtain ⟨y1, y2, yo, ys, yd, ⟨z1, z2, z3, z4, z5⟩⟩ := y
    have HA := Lib.hid hx
    have HX := Lib.hid hk
    clear hx hk
    simp only
    cases yo with
    | false =>
      go_enter Try.func26, Try.ntmps26
      go_wp2_with (first | ((with_reducible show WGd ..); (with_reducible apply wpA_guard); exact rfl; skip) | (go_at_call 44; skip; with_reducible refine (rat_yes hS id HA.out hl).mono ?_; rintro _ _ ⟨rfl, hS⟩; skip) | ((with_reducible show WLd ..); (with_reducible apply wpA_load); exact rfl; exact (row_elem OneS.cells_length (hS.at_ 1 rfl) HX.out) 2 _ rfl; kernel_rfl) | ((with_reducible show WLd ..); (with_reducible apply wpA_load); exact rfl; (first | ((with_reducible apply St.cellI hS); (focus repeat constructor); exact rfl) | assumption); kernel_rfl) | ((with_reducible show WSt ..); (with_reducible apply wpA_store1I hS); exact rfl; (focus repeat constructor); exact rfl; exact rfl; exact rfl; exact rfl; kernel_rfl; intro wx hS; (try simp only [Act.put, List.setIfInBounds_toArray, List.set_cons_zero, List.set_cons_succ]); (try simp only [Act.eval, Array.getD_eq_getD_getElem?, List.getElem?_toArray, List.getElem?_cons_succ, List.getElem?_cons_zero, Option.getD_some, List.set_cons_succ, List.set_cons_zero, Value.cells, List.toList_toArray] at hS)) | ((with_reducible show WBx ..); (with_reducible apply wpA_box hS); exact rfl; exact rfl; intro _ wx hS; (try simp only [Act.put, List.setIfInBounds_toArray, List.set_cons_zero, List.set_cons_succ]); (try simp only [Act.eval, Array.getD_eq_getD_getElem?, List.getElem?_toArray, List.getElem?_cons_succ, List.getElem?_cons_zero, Option.getD_some, List.set_cons_succ, List.set_cons_zero, Value.cells, List.toList_toArray] at hS)))
      go_ret
      exact ⟨rfl, _, c, hS⟩
    | true =>
      go_enter Try.func26, Try.ntmps26
      go_upto_region 4 with (first | ((with_reducible show WGd ..); (with_reducible apply wpA_guard); exact rfl; skip) | (go_at_call 44; skip; with_reducible refine (rat_yes hS id HA.out hl).mono ?_; rintro _ _ ⟨rfl, hS⟩; skip) | ((with_reducible show WLd ..); (with_reducible apply wpA_load); exact rfl; exact (row_elem OneS.cells_length (hS.at_ 1 rfl) HX.out) 2 _ rfl; kernel_rfl) | ((with_reducible show WLd ..); (with_reducible apply wpA_load); exact rfl; (first | ((with_reducible apply St.cellI hS); (focus repeat constructor); exact rfl) | assumption); kernel_rfl) | ((with_reducible show WSt ..); (with_reducible apply wpA_store1I hS); exact rfl; (focus repeat constructor); exact rfl; exact rfl; exact rfl; exact rfl; kernel_rfl; intro wx hS; (try simp only [Act.put, List.setIfInBounds_toArray, List.set_cons_zero, List.set_cons_succ]); (try simp only [Act.eval, Array.getD_eq_getD_getElem?, List.getElem?_toArray, List.getElem?_cons_succ, List.getElem?_cons_zero, Option.getD_some, List.set_cons_succ, List.set_cons_zero, Value.cells, List.toList_toArray] at hS)) | ((with_reducible show WBx ..); (with_reducible apply wpA_box hS); exact rfl; exact rfl; intro _ wx hS; (try simp only [Act.put, List.setIfInBounds_toArray, List.set_cons_zero, List.set_cons_succ]); (try simp only [Act.eval, Array.getD_eq_getD_getElem?, List.getElem?_toArray, List.getElem?_cons_succ, List.getElem?_cons_zero, Option.getD_some, List.set_cons_succ, List.set_cons_zero, Value.cells, List.toList_toArray] at hS)))
      obtain ⟨cur, q1, q2, q3, q4, hS⟩ := hS.rowCells 1 rfl
      simp only [List.set_cons_succ, List.set_cons_zero] at hS
      have hcl : σ.l.length * 10 ≤ cur.length := by rw [q1]; exact Nat.mul_le_mul_right _ q3
      have hk10 : k * 10 + 10 ≤ cur.length := by have : (k + 1) * 10 ≤ σ.l.length * 10 := Nat.mul_le_mul_right _ hkl; omega
      have hfit : ∀ q, q < 10 → (cur[k * 10 + q]?).isSome = true := fun q hq => by rw [List.getElem?_eq_getElem (by omega)]; rfl
      have hcell : ∀ q v, (OneS.cells ⟨y1, y2, true, ys, yd, ⟨z1, z2, z3, z4, z5⟩⟩)[q]? = some v → cur[k * 10 + q]? = some v := by
        intro q v hv
        have h1 := flat_get OneS.cells_length HX.out q v hv
        rw [← q2, List.getElem?_take] at h1
        split at h1
        · exact h1
        · cases h1
      have HC := Lib.hid hcell
      clear hcell
      go_wp2_with (first | ((with_reducible show WGd ..); (with_reducible apply wpA_guard); exact rfl; skip) | ((with_reducible show WSt ..); (with_reducible apply wpA_store1 hS 1); exact rfl; exact rfl; exact rfl; exact rfl; exact rfl; exact hfit _ (by decide); kernel_rfl; intro wx hS; (try simp only [Act.put, List.setIfInBounds_toArray, List.set_cons_zero, List.set_cons_succ]); (try simp only [Act.eval, Array.getD_eq_getD_getElem?, List.getElem?_toArray, List.getElem?_cons_succ, List.getElem?_cons_zero, Option.getD_some, List.set_cons_succ, List.set_cons_zero, Value.cells, List.toList_toArray] at hS)) | ((with_reducible show WLd ..); (with_reducible apply wpA_load); exact rfl; (first | ((with_reducible apply St.cellI hS); (focus repeat constructor); exact rfl) | assumption); kernel_rfl) | ((with_reducible show WSt ..); (with_reducible apply wpA_store1I hS); exact rfl; (focus repeat constructor); exact rfl; exact rfl; exact rfl; exact rfl; kernel_rfl; intro wx hS; (try simp only [Act.put, List.setIfInBounds_toArray, List.set_cons_zero, List.set_cons_succ]); (try simp only [Act.eval, Array.getD_eq_getD_getElem?, List.getElem?_toArray, List.getElem?_cons_succ, List.getElem?_cons_zero, Option.getD_some, List.set_cons_succ, List.set_cons_zero, Value.cells, List.toList_toArray] at hS)) | ((with_reducible show WBx ..); (with_reducible apply wpA_box hS); exact rfl; exact rfl; intro _ wx hS; (try simp only [Act.put, List.setIfInBounds_toArray, List.set_cons_zero, List.set_cons_succ]); (try simp only [Act.eval, Array.getD_eq_getD_getElem?, List.getElem?_toArray, List.getElem?_cons_succ, List.getElem?_cons_zero, Option.getD_some, List.set_cons_succ, List.set_cons_zero, Value.cells, List.toList_toArray] at hS)))
      go_ret
      have hrow := row_set1 (f := OneS.cells) OneS.cells_length (v := .bool false) (q := 2) (y := ⟨y1, y2, false, ys, yd, ⟨z1, z2, z3, z4, z5⟩⟩) HX.out q2 hcl (by decide) rfl
      have hS2 := St.cellsRow hS 1 rfl (n := σ.l.length) (cap := c) (by rw [List.length_set]; exact q1) hrow q3 q4
      simp only [List.set_cons_succ, List.set_cons_zero] at hS2
      refine ⟨rfl, (some ⟨g, 0, none⟩), c, ?_⟩
      show St w0 _ (rxc x _ (σ.l.set k _).length c σ :: .row _ _ _ (σ.l.set k _).length _ _ :: R)
      rw [List.length_set]
      exact hS2
set_option maxRecDepth 100000 in
set_option maxHeartbeats 4000000 in
theorem rend_c (h : RefG w0 w x σ R) (hl : σ.l.length ≤ 1000000) (r1 r2 r3 r4 r5 : Int) : Calls Try.prog 28 #[.pointer (some ⟨x, 0, none⟩), .agg #[.int .i64 r1, .int .i64 r2, .int .i64 r3, .int .u64 r4, .int .i64 r5]] w fun e w' => e = .returned (.bool (endS σ ⟨r1, r2, r3, r4, r5⟩).1) ∧ RefG w0 w' x (endS σ ⟨r1, r2, r3, r4, r5⟩).2 R := by
  obtain ⟨a, c, hS⟩ := h
  unfold endS
  simp only
  cases hx : atS σ r1 with
  | none =>
    have HA := Lib.hid hx
    clear hx
    go_enter Try.func28, Try.ntmps28
    go_upto_region 2 with (first | ((with_reducible show WGd ..); (with_reducible apply wpA_guard); exact rfl; skip) | ((first | ((with_reducible show WBx ..); (with_reducible apply wpA_box hS); exact rfl; exact rfl; intro gb wx hS) | ((with_reducible show WBx ..); (with_reducible apply wpA_box hS); exact rfl; exact rfl; intro _ wx hS)); (try simp only [Act.put, List.setIfInBounds_toArray, List.set_cons_zero, List.set_cons_succ]); (try simp only [Act.eval, Array.getD_eq_getD_getElem?, List.getElem?_toArray, List.getElem?_cons_succ, List.getElem?_cons_zero, Option.getD_some, List.set_cons_succ, List.set_cons_zero, Value.cells, List.toList_toArray] at hS)) | (go_at_call 44; ((try simp only [List.set_cons_succ, List.set_cons_zero] at hS); replace hS := hS.sel [1, 2, 0] 3 (by decide) (by decide) (by simp); simp only [List.filterMap_cons, List.filterMap_nil, List.getElem?_cons_succ, List.getElem?_cons_zero, List.drop_succ_cons, List.drop_zero, List.cons_append, List.nil_append] at hS); with_reducible refine (rat_no hS r1 HA.out hl).mono ?_; rintro _ _ ⟨rfl, hS⟩; ((try simp only [List.set_cons_succ, List.set_cons_zero] at hS); replace hS := hS.sel [2, 0, 1] 3 (by decide) (by decide) (by simp); simp only [List.filterMap_cons, List.filterMap_nil, List.getElem?_cons_succ, List.getElem?_cons_zero, List.drop_succ_cons, List.drop_zero, List.cons_append, List.nil_append] at hS)) | ((with_reducible show WLd ..); (with_reducible apply wpA_load); exact rfl; (first | ((with_reducible apply St.cellI hS); (focus repeat constructor); exact rfl) | assumption); kernel_rfl) | ((with_reducible show WSt ..); (with_reducible apply wpA_store1I hS); exact rfl; (focus repeat constructor); exact rfl; exact rfl; exact rfl; exact rfl; kernel_rfl; intro wx hS; (try simp only [Act.put, List.setIfInBounds_toArray, List.set_cons_zero, List.set_cons_succ]); (try simp only [Act.eval, Array.getD_eq_getD_getElem?, List.getElem?_toArray, List.getElem?_cons_succ, List.getElem?_cons_zero, Option.getD_some, List.set_cons_succ, List.set_cons_zero, Value.cells, List.toList_toArray] at hS)))
    refine wp_region_St hS (by kernel_rfl) (by kernel_rfl) (Bx.out ?_)
    refine bQ_val ?_ rfl ?_ ?_
    rotate_left
    · intro w hS; go_simp; (first | done | (with_reducible rfl) | (refine (if_pos ?_).trans ?_; (focus omega); with_reducible rfl) | skip)
    (simp only [Act.put, List.setIfInBounds_toArray, List.set_cons_zero, List.set_cons_succ])
    refine bQ_val ?_ rfl ?_ ?_
    rotate_left
    · intro w hS; go_simp; (first | done | (with_reducible rfl) | (refine (if_pos ?_).trans ?_; (focus omega); with_reducible rfl) | skip)
    (simp only [Act.put, List.setIfInBounds_toArray, List.set_cons_zero, List.set_cons_succ])
    refine bQ_val ?_ rfl ?_ ?_
    rotate_left
    · intro w hS; go_simp; (first | done | (with_reducible rfl) | (refine (if_pos ?_).trans ?_; (focus omega); with_reducible rfl) | skip)
    (simp only [Act.put, List.setIfInBounds_toArray, List.set_cons_zero, List.set_cons_succ])
    refine bQ_skip (by exact rfl) ?_
    (simp only [Act.put, List.setIfInBounds_toArray, List.set_cons_zero, List.set_cons_succ])
    refine bQ_skip (by exact rfl) ?_
    (simp only [Act.put, List.setIfInBounds_toArray, List.set_cons_zero, List.set_cons_succ])
    refine bQ_skip (by exact rfl) ?_
    (simp only [Act.put, List.setIfInBounds_toArray, List.set_cons_zero, List.set_cons_succ])
    refine bQ_skip (by exact rfl) ?_
    (simp only [Act.put, List.setIfInBounds_toArray, List.set_cons_zero, List.set_cons_succ])
    refine bQ_skip (by exact rfl) ?_
    (simp only [Act.put, List.setIfInBounds_toArray, List.set_cons_zero, List.set_cons_succ])
    refine bQ_val ?_ rfl ?_ ?_
    rotate_left
    · intro w hS; go_simp; (first | done | (with_reducible rfl) | (refine (if_pos ?_).trans ?_; (focus omega); with_reducible rfl) | skip)
    (simp only [Act.put, List.setIfInBounds_toArray, List.set_cons_zero, List.set_cons_succ])
    refine bQ_val ?_ rfl ?_ ?_
    rotate_left
    · intro w hS; go_simp; (first | done | (with_reducible rfl) | (refine (if_pos ?_).trans ?_; (focus omega); with_reducible rfl) | skip)
    (simp only [Act.put, List.setIfInBounds_toArray, List.set_cons_zero, List.set_cons_succ])
    refine bQ_skip (by exact rfl) ?_
    (simp only [Act.put, List.setIfInBounds_toArray, List.set_cons_zero, List.set_cons_succ])
    refine bQ_skip (by exact rfl) ?_
    (simp only [Act.put, List.setIfInBounds_toArray, List.set_cons_zero, List.set_cons_succ])
    refine bQ_skip (by exact rfl) ?_
    (simp only [Act.put, List.setIfInBounds_toArray, List.set_cons_zero, List.set_cons_succ])
    refine bQ_skip (by exact rfl) ?_
    (simp only [Act.put, List.setIfInBounds_toArray, List.set_cons_zero, List.set_cons_succ])
    refine bQ_skip (by exact rfl) ?_
    (simp only [Act.put, List.setIfInBounds_toArray, List.set_cons_zero, List.set_cons_succ])
    refine bQ_skip (by exact rfl) ?_
    (simp only [Act.put, List.setIfInBounds_toArray, List.set_cons_zero, List.set_cons_succ])
    refine bQ_skip (by exact rfl) ?_
    (simp only [Act.put, List.setIfInBounds_toArray, List.set_cons_zero, List.set_cons_succ])
    refine bQ_val ?_ rfl ?_ ?_
    rotate_left
    · intro w hS; go_simp; (first | done | (with_reducible rfl) | (refine (if_pos ?_).trans ?_; (focus omega); with_reducible rfl) | skip)
    (simp only [Act.put, List.setIfInBounds_toArray, List.set_cons_zero, List.set_cons_succ])
    refine bQ_val ?_ rfl ?_ ?_
    rotate_left
    · intro w hS; go_simp; (first | done | (with_reducible rfl) | (refine (if_pos ?_).trans ?_; (focus omega); with_reducible rfl) | skip)
    (simp only [Act.put, List.setIfInBounds_toArray, List.set_cons_zero, List.set_cons_succ])
    refine bQ_skip (by exact rfl) ?_
    (simp only [Act.put, List.setIfInBounds_toArray, List.set_cons_zero, List.set_cons_succ])
    refine bQ_skip (by exact rfl) ?_
    (simp only [Act.put, List.setIfInBounds_toArray, List.set_cons_zero, List.set_cons_succ])
    refine bQ_skip (by exact rfl) ?_
    (simp only [Act.put, List.setIfInBounds_toArray, List.set_cons_zero, List.set_cons_succ])
    refine bQ_skip (by exact rfl) ?_
    (simp only [Act.put, List.setIfInBounds_toArray, List.set_cons_zero, List.set_cons_succ])
    refine bQ_val ?_ rfl ?_ ?_
    rotate_left
    · intro w hS; go_simp; (first | done | (with_reducible rfl) | (refine (if_pos ?_).trans ?_; (focus omega); with_reducible rfl) | skip)
    (simp only [Act.put, List.setIfInBounds_toArray, List.set_cons_zero, List.set_cons_succ])
    refine ⟨wpQuiet_nil ?_⟩
    intro wx hS
    go_wp2_with (first | ((with_reducible show WGd ..); (with_reducible apply wpA_guard); exact rfl; skip) | ((with_reducible show WLd ..); (with_reducible apply wpA_load); exact rfl; (first | ((with_reducible apply St.cellI hS); (focus repeat constructor); exact rfl) | assumption); kernel_rfl) | ((with_reducible show WSt ..); (with_reducible apply wpA_store1I hS); exact rfl; (focus repeat constructor); exact rfl; exact rfl; exact rfl; exact rfl; kernel_rfl; intro wx hS; (try simp only [Act.put, List.setIfInBounds_toArray, List.set_cons_zero, List.set_cons_succ]); (try simp only [Act.eval, Array.getD_eq_getD_getElem?, List.getElem?_toArray, List.getElem?_cons_succ, List.getElem?_cons_zero, Option.getD_some, List.set_cons_succ, List.set_cons_zero, Value.cells, List.toList_toArray] at hS)) | ((with_reducible show WBx ..); (with_reducible apply wpA_box hS); exact rfl; exact rfl; intro _ wx hS; (try simp only [Act.put, List.setIfInBounds_toArray, List.set_cons_zero, List.set_cons_succ]); (try simp only [Act.eval, Array.getD_eq_getD_getElem?, List.getElem?_toArray, List.getElem?_cons_succ, List.getElem?_cons_zero, Option.getD_some, List.set_cons_succ, List.set_cons_zero, Value.cells, List.toList_toArray] at hS)))
    go_ret
    exact ⟨rfl, a, c, hS.tail⟩
  | some kx =>
    obtain ⟨k, y⟩ := kx
    have hk := (atS_some hx).1
    have hkl : k < σ.l.length := (List.getElem?_eq_some_iff.1 hk).1
    rcases row_head (hS.at_ 1 rfl) with ⟨_, hh, _⟩ | ⟨⟨g, rfl⟩, _⟩
    · omega
    obtain ⟨y1, y2, yo, ys, yd, ⟨z1, z2, z3, z4, z5⟩⟩ := y
    have HA := Lib.hid hx
    have HX := Lib.hid hk
    clear hx hk
    simp only
    by_cases c1 : ys < 1
    · rw [if_pos (.inr (.inl c1))]
      have hd1 : decide (ys < 1) = true := by simpa using c1
      go_enter Try.func28, Try.ntmps28
      go_upto_region 2 with (first | ((with_reducible show WGd ..); (with_reducible apply wpA_guard); exact rfl; skip) | ((first | ((with_reducible show WBx ..); (with_reducible apply wpA_box hS); exact rfl; exact rfl; intro gb wx hS) | ((with_reducible show WBx ..); (with_reducible apply wpA_box hS); exact rfl; exact rfl; intro _ wx hS)); (try simp only [Act.put, List.setIfInBounds_toArray, List.set_cons_zero, List.set_cons_succ]); (try simp only [Act.eval, Array.getD_eq_getD_getElem?, List.getElem?_toArray, List.getElem?_cons_succ, List.getElem?_cons_zero, Option.getD_some, List.set_cons_succ, List.set_cons_zero, Value.cells, List.toList_toArray] at hS)) | (go_at_call 44; ((try simp only [List.set_cons_succ, List.set_cons_zero] at hS); replace hS := hS.sel [1, 2, 0] 3 (by decide) (by decide) (by simp); simp only [List.filterMap_cons, List.filterMap_nil, List.getElem?_cons_succ, List.getElem?_cons_zero, List.drop_succ_cons, List.drop_zero, List.cons_append, List.nil_append] at hS); with_reducible refine (rat_yes hS r1 HA.out hl).mono ?_; rintro _ _ ⟨rfl, hS⟩; ((try simp only [List.set_cons_succ, List.set_cons_zero] at hS); replace hS := hS.sel [2, 0, 1] 3 (by decide) (by decide) (by simp); simp only [List.filterMap_cons, List.filterMap_nil, List.getElem?_cons_succ, List.getElem?_cons_zero, List.drop_succ_cons, List.drop_zero, List.cons_append, List.nil_append] at hS)) | ((with_reducible show WLd ..); (with_reducible apply wpA_load); exact rfl; (first | ((with_reducible apply St.cellI hS); (focus repeat constructor); exact rfl) | assumption); kernel_rfl) | ((with_reducible show WSt ..); (with_reducible apply wpA_store1I hS); exact rfl; (focus repeat constructor); exact rfl; exact rfl; exact rfl; exact rfl; kernel_rfl; intro wx hS; (try simp only [Act.put, List.setIfInBounds_toArray, List.set_cons_zero, List.set_cons_succ]); (try simp only [Act.eval, Array.getD_eq_getD_getElem?, List.getElem?_toArray, List.getElem?_cons_succ, List.getElem?_cons_zero, Option.getD_some, List.set_cons_succ, List.set_cons_zero, Value.cells, List.toList_toArray] at hS)))
      refine wp_region_St hS (by kernel_rfl) (by kernel_rfl) (Bx.out ?_)
      refine bQ_val ?_ rfl ?_ ?_
      rotate_left
      · intro w hS; go_simp; (first | done | (with_reducible rfl) | (refine (if_pos ?_).trans ?_; (focus omega); with_reducible rfl) | skip)
      (simp only [Act.put, List.setIfInBounds_toArray, List.set_cons_zero, List.set_cons_succ])
      refine bQ_val ?_ rfl ?_ ?_
      rotate_left
      · intro w hS; go_simp; (first | done | (with_reducible rfl) | (refine (if_pos ?_).trans ?_; (focus omega); with_reducible rfl) | skip)
      (simp only [Act.put, List.setIfInBounds_toArray, List.set_cons_zero, List.set_cons_succ])
      refine bQ_val ?_ rfl ?_ ?_
      rotate_left
      · intro w hS; go_simp; (first | done | (with_reducible rfl) | (refine (if_pos ?_).trans ?_; (focus omega); with_reducible rfl) | skip)
      (simp only [Act.put, List.setIfInBounds_toArray, List.set_cons_zero, List.set_cons_succ])
      refine bQ_guard (by exact rfl) ?_
      refine bQ_val ?_ rfl ?_ ?_
      rotate_left
      · intro w hS; go_simp; (first | done | (with_reducible rfl) | (refine (if_pos ?_).trans ?_; (focus omega); with_reducible rfl) | skip)
      (simp only [Act.put, List.setIfInBounds_toArray, List.set_cons_zero, List.set_cons_succ])
      refine bQ_guard (by exact rfl) ?_
      refine bQ_val ?_ rfl ?_ ?_
      rotate_left
      · intro w hS; go_simp; (first | done | (with_reducible rfl) | (refine (if_pos ?_).trans ?_; (focus omega); with_reducible rfl) | skip)
      (simp only [Act.put, List.setIfInBounds_toArray, List.set_cons_zero, List.set_cons_succ])
      refine bQ_guard (by exact rfl) ?_
      refine bQ_val ?_ rfl ?_ ?_
      rotate_left
      · intro w hS; go_simp; (first | done | (with_reducible rfl) | (refine (if_pos ?_).trans ?_; (focus omega); with_reducible rfl) | skip)
      (simp only [Act.put, List.setIfInBounds_toArray, List.set_cons_zero, List.set_cons_succ])
      refine bQ_guard (by exact rfl) ?_
      refine bQ_load rfl (fun w hS => by exact (row_elem OneS.cells_length (hS.at_ 2 rfl) HX.out) 3 _ rfl) (by kernel_rfl) ?_
      (simp only [Act.put, List.setIfInBounds_toArray, List.set_cons_zero, List.set_cons_succ])
      refine bQ_guard (by exact rfl) ?_
      refine bQ_val (.bool true) rfl (fun w hS => by go_simp; (first | done | omega | simp [*])) ?_
      (simp only [Act.put, List.setIfInBounds_toArray, List.set_cons_zero, List.set_cons_succ])
      refine bQ_val ?_ rfl ?_ ?_
      rotate_left
      · intro w hS; go_simp; (first | done | (with_reducible rfl) | (refine (if_pos ?_).trans ?_; (focus omega); with_reducible rfl) | skip)
      (simp only [Act.put, List.setIfInBounds_toArray, List.set_cons_zero, List.set_cons_succ])
      refine bQ_val ?_ rfl ?_ ?_
      rotate_left
      · intro w hS; go_simp; (first | done | (with_reducible rfl) | (refine (if_pos ?_).trans ?_; (focus omega); with_reducible rfl) | skip)
      (simp only [Act.put, List.setIfInBounds_toArray, List.set_cons_zero, List.set_cons_succ])
      refine bQ_skip (by exact rfl) ?_
      (simp only [Act.put, List.setIfInBounds_toArray, List.set_cons_zero, List.set_cons_succ])
      refine bQ_skip (by exact rfl) ?_
      (simp only [Act.put, List.setIfInBounds_toArray, List.set_cons_zero, List.set_cons_succ])
      refine bQ_skip (by exact rfl) ?_
      (simp only [Act.put, List.setIfInBounds_toArray, List.set_cons_zero, List.set_cons_succ])
      refine bQ_skip (by exact rfl) ?_
      (simp only [Act.put, List.setIfInBounds_toArray, List.set_cons_zero, List.set_cons_succ])
      refine bQ_skip (by exact rfl) ?_
      (simp only [Act.put, List.setIfInBounds_toArray, List.set_cons_zero, List.set_cons_succ])
      refine bQ_skip (by exact rfl) ?_
      (simp only [Act.put, List.setIfInBounds_toArray, List.set_cons_zero, List.set_cons_succ])
      refine bQ_skip (by exact rfl) ?_
      (simp only [Act.put, List.setIfInBounds_toArray, List.set_cons_zero, List.set_cons_succ])
      refine bQ_val ?_ rfl ?_ ?_
      rotate_left
      · intro w hS; go_simp; (first | done | (with_reducible rfl) | (refine (if_pos ?_).trans ?_; (focus omega); with_reducible rfl) | skip)
      (simp only [Act.put, List.setIfInBounds_toArray, List.set_cons_zero, List.set_cons_succ])
      refine bQ_val ?_ rfl ?_ ?_
      rotate_left
      · intro w hS; go_simp; (first | done | (with_reducible rfl) | (refine (if_pos ?_).trans ?_; (focus omega); with_reducible rfl) | skip)
      (simp only [Act.put, List.setIfInBounds_toArray, List.set_cons_zero, List.set_cons_succ])
      refine bQ_skip (by exact rfl) ?_
      (simp only [Act.put, List.setIfInBounds_toArray, List.set_cons_zero, List.set_cons_succ])
      refine bQ_skip (by exact rfl) ?_
      (simp only [Act.put, List.setIfInBounds_toArray, List.set_cons_zero, List.set_cons_succ])
      refine bQ_skip (by exact rfl) ?_
      (simp only [Act.put, List.setIfInBounds_toArray, List.set_cons_zero, List.set_cons_succ])
      refine bQ_skip (by exact rfl) ?_
      (simp only [Act.put, List.setIfInBounds_toArray, List.set_cons_zero, List.set_cons_succ])
      refine bQ_val ?_ rfl ?_ ?_
      rotate_left
      · intro w hS; go_simp; (first | done | (with_reducible rfl) | (refine (if_pos ?_).trans ?_; (focus omega); with_reducible rfl) | skip)
      (simp only [Act.put, List.setIfInBounds_toArray, List.set_cons_zero, List.set_cons_succ])
      refine ⟨wpQuiet_nil ?_⟩
      intro wx hS
      go_wp2_with (first | ((with_reducible show WGd ..); (with_reducible apply wpA_guard); exact rfl; skip) | ((with_reducible show WLd ..); (with_reducible apply wpA_load); exact rfl; (first | ((with_reducible apply St.cellI hS); (focus repeat constructor); exact rfl) | assumption); kernel_rfl) | ((with_reducible show WSt ..); (with_reducible apply wpA_store1I hS); exact rfl; (focus repeat constructor); exact rfl; exact rfl; exact rfl; exact rfl; kernel_rfl; intro wx hS; (try simp only [Act.put, List.setIfInBounds_toArray, List.set_cons_zero, List.set_cons_succ]); (try simp only [Act.eval, Array.getD_eq_getD_getElem?, List.getElem?_toArray, List.getElem?_cons_succ, List.getElem?_cons_zero, Option.getD_some, List.set_cons_succ, List.set_cons_zero, Value.cells, List.toList_toArray] at hS)) | ((with_reducible show WBx ..); (with_reducible apply wpA_box hS); exact rfl; exact rfl; intro _ wx hS; (try simp only [Act.put, List.setIfInBounds_toArray, List.set_cons_zero, List.set_cons_succ]); (try simp only [Act.eval, Array.getD_eq_getD_getElem?, List.getElem?_toArray, List.getElem?_cons_succ, List.getElem?_cons_zero, Option.getD_some, List.set_cons_succ, List.set_cons_zero, Value.cells, List.toList_toArray] at hS)))
      go_ret
      exact ⟨rfl, _, c, hS.tail⟩
    have hd1 : decide (ys < 1) = false := by simpa using c1
    by_cases c2 : ys = r2
    case neg =>
      rw [if_pos (.inr (.inr c2))]
      have hd2 : (ys != r2) = true := by simpa using c2
      go_enter Try.func28, Try.ntmps28
      go_upto_region 2 with (first | ((with_reducible show WGd ..); (with_reducible apply wpA_guard); exact rfl; skip) | ((first | ((with_reducible show WBx ..); (with_reducible apply wpA_box hS); exact rfl; exact rfl; intro gb wx hS) | ((with_reducible show WBx ..); (with_reducible apply wpA_box hS); exact rfl; exact rfl; intro _ wx hS)); (try simp only [Act.put, List.setIfInBounds_toArray, List.set_cons_zero, List.set_cons_succ]); (try simp only [Act.eval, Array.getD_eq_getD_getElem?, List.getElem?_toArray, List.getElem?_cons_succ, List.getElem?_cons_zero, Option.getD_some, List.set_cons_succ, List.set_cons_zero, Value.cells, List.toList_toArray] at hS)) | (go_at_call 44; ((try simp only [List.set_cons_succ, List.set_cons_zero] at hS); replace hS := hS.sel [1, 2, 0] 3 (by decide) (by decide) (by simp); simp only [List.filterMap_cons, List.filterMap_nil, List.getElem?_cons_succ, List.getElem?_cons_zero, List.drop_succ_cons, List.drop_zero, List.cons_append, List.nil_append] at hS); with_reducible refine (rat_yes hS r1 HA.out hl).mono ?_; rintro _ _ ⟨rfl, hS⟩; ((try simp only [List.set_cons_succ, List.set_cons_zero] at hS); replace hS := hS.sel [2, 0, 1] 3 (by decide) (by decide) (by simp); simp only [List.filterMap_cons, List.filterMap_nil, List.getElem?_cons_succ, List.getElem?_cons_zero, List.drop_succ_cons, List.drop_zero, List.cons_append, List.nil_append] at hS)) | ((with_reducible show WLd ..); (with_reducible apply wpA_load); exact rfl; (first | ((with_reducible apply St.cellI hS); (focus repeat constructor); exact rfl) | assumption); kernel_rfl) | ((with_reducible show WSt ..); (with_reducible apply wpA_store1I hS); exact rfl; (focus repeat constructor); exact rfl; exact rfl; exact rfl; exact rfl; kernel_rfl; intro wx hS; (try simp only [Act.put, List.setIfInBounds_toArray, List.set_cons_zero, List.set_cons_succ]); (try simp only [Act.eval, Array.getD_eq_getD_getElem?, List.getElem?_toArray, List.getElem?_cons_succ, List.getElem?_cons_zero, Option.getD_some, List.set_cons_succ, List.set_cons_zero, Value.cells, List.toList_toArray] at hS)))
      refine wp_region_St hS (by kernel_rfl) (by kernel_rfl) (Bx.out ?_)
      refine bQ_val ?_ rfl ?_ ?_
      rotate_left
      · intro w hS; go_simp; (first | done | (with_reducible rfl) | (refine (if_pos ?_).trans ?_; (focus omega); with_reducible rfl) | skip)
      (simp only [Act.put, List.setIfInBounds_toArray, List.set_cons_zero, List.set_cons_succ])
      refine bQ_val ?_ rfl ?_ ?_
      rotate_left
      · intro w hS; go_simp; (first | done | (with_reducible rfl) | (refine (if_pos ?_).trans ?_; (focus omega); with_reducible rfl) | skip)
      (simp only [Act.put, List.setIfInBounds_toArray, List.set_cons_zero, List.set_cons_succ])
      refine bQ_val ?_ rfl ?_ ?_
      rotate_left
      · intro w hS; go_simp; (first | done | (with_reducible rfl) | (refine (if_pos ?_).trans ?_; (focus omega); with_reducible rfl) | skip)
      (simp only [Act.put, List.setIfInBounds_toArray, List.set_cons_zero, List.set_cons_succ])
      refine bQ_guard (by exact rfl) ?_
      refine bQ_val ?_ rfl ?_ ?_
      rotate_left
      · intro w hS; go_simp; (first | done | (with_reducible rfl) | (refine (if_pos ?_).trans ?_; (focus omega); with_reducible rfl) | skip)
      (simp only [Act.put, List.setIfInBounds_toArray, List.set_cons_zero, List.set_cons_succ])
      refine bQ_guard (by exact rfl) ?_
      refine bQ_val ?_ rfl ?_ ?_
      rotate_left
      · intro w hS; go_simp; (first | done | (with_reducible rfl) | (refine (if_pos ?_).trans ?_; (focus omega); with_reducible rfl) | skip)
      (simp only [Act.put, List.setIfInBounds_toArray, List.set_cons_zero, List.set_cons_succ])
      refine bQ_guard (by exact rfl) ?_
      refine bQ_val ?_ rfl ?_ ?_
      rotate_left
      · intro w hS; go_simp; (first | done | (with_reducible rfl) | (refine (if_pos ?_).trans ?_; (focus omega); with_reducible rfl) | skip)
      (simp only [Act.put, List.setIfInBounds_toArray, List.set_cons_zero, List.set_cons_succ])
      refine bQ_guard (by exact rfl) ?_
      refine bQ_load rfl (fun w hS => by exact (row_elem OneS.cells_length (hS.at_ 2 rfl) HX.out) 3 _ rfl) (by kernel_rfl) ?_
      (simp only [Act.put, List.setIfInBounds_toArray, List.set_cons_zero, List.set_cons_succ])
      refine bQ_guard (by exact rfl) ?_
      refine bQ_val (.bool false) rfl (fun w hS => by go_simp; (first | done | omega | simp [*])) ?_
      (simp only [Act.put, List.setIfInBounds_toArray, List.set_cons_zero, List.set_cons_succ])
      refine bQ_val ?_ rfl ?_ ?_
      rotate_left
      · intro w hS; go_simp; (first | done | (with_reducible rfl) | (refine (if_pos ?_).trans ?_; (focus omega); with_reducible rfl) | skip)
      (simp only [Act.put, List.setIfInBounds_toArray, List.set_cons_zero, List.set_cons_succ])
      refine bQ_val ?_ rfl ?_ ?_
      rotate_left
      · intro w hS; go_simp; (first | done | (with_reducible rfl) | (refine (if_pos ?_).trans ?_; (focus omega); with_reducible rfl) | skip)
      (simp only [Act.put, List.setIfInBounds_toArray, List.set_cons_zero, List.set_cons_succ])
      refine bQ_guard (by exact rfl) ?_
      refine bQ_val ?_ rfl ?_ ?_
      rotate_left
      · intro w hS; go_simp; (first | done | (with_reducible rfl) | (refine (if_pos ?_).trans ?_; (focus omega); with_reducible rfl) | skip)
      (simp only [Act.put, List.setIfInBounds_toArray, List.set_cons_zero, List.set_cons_succ])
      refine bQ_guard (by exact rfl) ?_
      refine bQ_val ?_ rfl ?_ ?_
      rotate_left
      · intro w hS; go_simp; (first | done | (with_reducible rfl) | (refine (if_pos ?_).trans ?_; (focus omega); with_reducible rfl) | skip)
      (simp only [Act.put, List.setIfInBounds_toArray, List.set_cons_zero, List.set_cons_succ])
      refine bQ_guard (by exact rfl) ?_
      refine bQ_val ?_ rfl ?_ ?_
      rotate_left
      · intro w hS; go_simp; (first | done | (with_reducible rfl) | (refine (if_pos ?_).trans ?_; (focus omega); with_reducible rfl) | skip)
      (simp only [Act.put, List.setIfInBounds_toArray, List.set_cons_zero, List.set_cons_succ])
      refine bQ_guard (by exact rfl) ?_
      refine bQ_load rfl (fun w hS => by exact (row_elem OneS.cells_length (hS.at_ 2 rfl) HX.out) 3 _ rfl) (by kernel_rfl) ?_
      (simp only [Act.put, List.setIfInBounds_toArray, List.set_cons_zero, List.set_cons_succ])
      refine bQ_guard (by exact rfl) ?_
      refine bQ_val ?_ rfl ?_ ?_
      rotate_left
      · intro w hS; go_simp; (first | done | (with_reducible rfl) | (refine (if_pos ?_).trans ?_; (focus omega); with_reducible rfl) | skip)
      (simp only [Act.put, List.setIfInBounds_toArray, List.set_cons_zero, List.set_cons_succ])
      refine bQ_guard (by exact rfl) ?_
      refine bQ_load rfl (fun w hS => by (first | ((with_reducible apply St.cellI hS); (focus repeat constructor); exact rfl) | assumption)) (by kernel_rfl) ?_
      (simp only [Act.put, List.setIfInBounds_toArray, List.set_cons_zero, List.set_cons_succ])
      refine bQ_guard (by exact rfl) ?_
      refine bQ_val (.bool true) rfl (fun w hS => by go_simp; (first | done | omega | simp [*])) ?_
      (simp only [Act.put, List.setIfInBounds_toArray, List.set_cons_zero, List.set_cons_succ])
      refine bQ_val ?_ rfl ?_ ?_
      rotate_left
      · intro w hS; go_simp; (first | done | (with_reducible rfl) | (refine (if_pos ?_).trans ?_; (focus omega); with_reducible rfl) | skip)
      (simp only [Act.put, List.setIfInBounds_toArray, List.set_cons_zero, List.set_cons_succ])
      refine bQ_val ?_ rfl ?_ ?_
      rotate_left
      · intro w hS; go_simp; (first | done | (with_reducible rfl) | (refine (if_pos ?_).trans ?_; (focus omega); with_reducible rfl) | skip)
      (simp only [Act.put, List.setIfInBounds_toArray, List.set_cons_zero, List.set_cons_succ])
      refine bQ_skip (by exact rfl) ?_
      (simp only [Act.put, List.setIfInBounds_toArray, List.set_cons_zero, List.set_cons_succ])
      refine bQ_skip (by exact rfl) ?_
      (simp only [Act.put, List.setIfInBounds_toArray, List.set_cons_zero, List.set_cons_succ])
      refine bQ_skip (by exact rfl) ?_
      (simp only [Act.put, List.setIfInBounds_toArray, List.set_cons_zero, List.set_cons_succ])
      refine bQ_skip (by exact rfl) ?_
      (simp only [Act.put, List.setIfInBounds_toArray, List.set_cons_zero, List.set_cons_succ])
      refine bQ_val ?_ rfl ?_ ?_
      rotate_left
      · intro w hS; go_simp; (first | done | (with_reducible rfl) | (refine (if_pos ?_).trans ?_; (focus omega); with_reducible rfl) | skip)
      (simp only [Act.put, List.setIfInBounds_toArray, List.set_cons_zero, List.set_cons_succ])
      refine ⟨wpQuiet_nil ?_⟩
      intro wx hS
      go_wp2_with (first | ((with_reducible show WGd ..); (with_reducible apply wpA_guard); exact rfl; skip) | ((with_reducible show WLd ..); (with_reducible apply wpA_load); exact rfl; (first | ((with_reducible apply St.cellI hS); (focus repeat constructor); exact rfl) | assumption); kernel_rfl) | ((with_reducible show WSt ..); (with_reducible apply wpA_store1I hS); exact rfl; (focus repeat constructor); exact rfl; exact rfl; exact rfl; exact rfl; kernel_rfl; intro wx hS; (try simp only [Act.put, List.setIfInBounds_toArray, List.set_cons_zero, List.set_cons_succ]); (try simp only [Act.eval, Array.getD_eq_getD_getElem?, List.getElem?_toArray, List.getElem?_cons_succ, List.getElem?_cons_zero, Option.getD_some, List.set_cons_succ, List.set_cons_zero, Value.cells, List.toList_toArray] at hS)) | ((with_reducible show WBx ..); (with_reducible apply wpA_box hS); exact rfl; exact rfl; intro _ wx hS; (try simp only [Act.put, List.setIfInBounds_toArray, List.set_cons_zero, List.set_cons_succ]); (try simp only [Act.eval, Array.getD_eq_getD_getElem?, List.getElem?_toArray, List.getElem?_cons_succ, List.getElem?_cons_zero, Option.getD_some, List.set_cons_succ, List.set_cons_zero, Value.cells, List.toList_toArray] at hS)))
      go_ret
      exact ⟨rfl, _, c, hS.tail⟩
    have hd2 : (ys != r2) = false := by simpa using c2
    cases yd with
    | true =>
      rw [if_pos (.inl rfl)]
      go_enter Try.func28, Try.ntmps28
      go_upto_region 2 with (first | ((with_reducible show WGd ..); (with_reducible apply wpA_guard); exact rfl; skip) | ((first | ((with_reducible show WBx ..); (with_reducible apply wpA_box hS); exact rfl; exact rfl; intro gb wx hS) | ((with_reducible show WBx ..); (with_reducible apply wpA_box hS); exact rfl; exact rfl; intro _ wx hS)); (try simp only [Act.put, List.setIfInBounds_toArray, List.set_cons_zero, List.set_cons_succ]); (try simp only [Act.eval, Array.getD_eq_getD_getElem?, List.getElem?_toArray, List.getElem?_cons_succ, List.getElem?_cons_zero, Option.getD_some, List.set_cons_succ, List.set_cons_zero, Value.cells, List.toList_toArray] at hS)) | (go_at_call 44; ((try simp only [List.set_cons_succ, List.set_cons_zero] at hS); replace hS := hS.sel [1, 2, 0] 3 (by decide) (by decide) (by simp); simp only [List.filterMap_cons, List.filterMap_nil, List.getElem?_cons_succ, List.getElem?_cons_zero, List.drop_succ_cons, List.drop_zero, List.cons_append, List.nil_append] at hS); with_reducible refine (rat_yes hS r1 HA.out hl).mono ?_; rintro _ _ ⟨rfl, hS⟩; ((try simp only [List.set_cons_succ, List.set_cons_zero] at hS); replace hS := hS.sel [2, 0, 1] 3 (by decide) (by decide) (by simp); simp only [List.filterMap_cons, List.filterMap_nil, List.getElem?_cons_succ, List.getElem?_cons_zero, List.drop_succ_cons, List.drop_zero, List.cons_append, List.nil_append] at hS)) | ((with_reducible show WLd ..); (with_reducible apply wpA_load); exact rfl; (first | ((with_reducible apply St.cellI hS); (focus repeat constructor); exact rfl) | assumption); kernel_rfl) | ((with_reducible show WSt ..); (with_reducible apply wpA_store1I hS); exact rfl; (focus repeat constructor); exact rfl; exact rfl; exact rfl; exact rfl; kernel_rfl; intro wx hS; (try simp only [Act.put, List.setIfInBounds_toArray, List.set_cons_zero, List.set_cons_succ]); (try simp only [Act.eval, Array.getD_eq_getD_getElem?, List.getElem?_toArray, List.getElem?_cons_succ, List.getElem?_cons_zero, Option.getD_some, List.set_cons_succ, List.set_cons_zero, Value.cells, List.toList_toArray] at hS)))
      refine wp_region_St hS (by kernel_rfl) (by kernel_rfl) (Bx.out ?_)
      refine bQ_val ?_ rfl ?_ ?_
      rotate_left
      · intro w hS; go_simp; (first | done | (with_reducible rfl) | (refine (if_pos ?_).trans ?_; (focus omega); with_reducible rfl) | skip)
      (simp only [Act.put, List.setIfInBounds_toArray, List.set_cons_zero, List.set_cons_succ])
      refine bQ_val ?_ rfl ?_ ?_
      rotate_left
      · intro w hS; go_simp; (first | done | (with_reducible rfl) | (refine (if_pos ?_).trans ?_; (focus omega); with_reducible rfl) | skip)
      (simp only [Act.put, List.setIfInBounds_toArray, List.set_cons_zero, List.set_cons_succ])
      refine bQ_val ?_ rfl ?_ ?_
      rotate_left
      · intro w hS; go_simp; (first | done | (with_reducible rfl) | (refine (if_pos ?_).trans ?_; (focus omega); with_reducible rfl) | skip)
      (simp only [Act.put, List.setIfInBounds_toArray, List.set_cons_zero, List.set_cons_succ])
      refine bQ_guard (by exact rfl) ?_
      refine bQ_val ?_ rfl ?_ ?_
      rotate_left
      · intro w hS; go_simp; (first | done | (with_reducible rfl) | (refine (if_pos ?_).trans ?_; (focus omega); with_reducible rfl) | skip)
      (simp only [Act.put, List.setIfInBounds_toArray, List.set_cons_zero, List.set_cons_succ])
      refine bQ_guard (by exact rfl) ?_
      refine bQ_val ?_ rfl ?_ ?_
      rotate_left
      · intro w hS; go_simp; (first | done | (with_reducible rfl) | (refine (if_pos ?_).trans ?_; (focus omega); with_reducible rfl) | skip)
      (simp only [Act.put, List.setIfInBounds_toArray, List.set_cons_zero, List.set_cons_succ])
      refine bQ_guard (by exact rfl) ?_
      refine bQ_val ?_ rfl ?_ ?_
      rotate_left
      · intro w hS; go_simp; (first | done | (with_reducible rfl) | (refine (if_pos ?_).trans ?_; (focus omega); with_reducible rfl) | skip)
      (simp only [Act.put, List.setIfInBounds_toArray, List.set_cons_zero, List.set_cons_succ])
      refine bQ_guard (by exact rfl) ?_
      refine bQ_load rfl (fun w hS => by exact (row_elem OneS.cells_length (hS.at_ 2 rfl) HX.out) 3 _ rfl) (by kernel_rfl) ?_
      (simp only [Act.put, List.setIfInBounds_toArray, List.set_cons_zero, List.set_cons_succ])
      refine bQ_guard (by exact rfl) ?_
      refine bQ_val (.bool false) rfl (fun w hS => by go_simp; (first | done | omega | simp [*])) ?_
      (simp only [Act.put, List.setIfInBounds_toArray, List.set_cons_zero, List.set_cons_succ])
      refine bQ_val ?_ rfl ?_ ?_
      rotate_left
      · intro w hS; go_simp; (first | done | (with_reducible rfl) | (refine (if_pos ?_).trans ?_; (focus omega); with_reducible rfl) | skip)
      (simp only [Act.put, List.setIfInBounds_toArray, List.set_cons_zero, List.set_cons_succ])
      refine bQ_val ?_ rfl ?_ ?_
      rotate_left
      · intro w hS; go_simp; (first | done | (with_reducible rfl) | (refine (if_pos ?_).trans ?_; (focus omega); with_reducible rfl) | skip)
      (simp only [Act.put, List.setIfInBounds_toArray, List.set_cons_zero, List.set_cons_succ])
      refine bQ_guard (by exact rfl) ?_
      refine bQ_val ?_ rfl ?_ ?_
      rotate_left
      · intro w hS; go_simp; (first | done | (with_reducible rfl) | (refine (if_pos ?_).trans ?_; (focus omega); with_reducible rfl) | skip)
      (simp only [Act.put, List.setIfInBounds_toArray, List.set_cons_zero, List.set_cons_succ])
      refine bQ_guard (by exact rfl) ?_
      refine bQ_val ?_ rfl ?_ ?_
      rotate_left
      · intro w hS; go_simp; (first | done | (with_reducible rfl) | (refine (if_pos ?_).trans ?_; (focus omega); with_reducible rfl) | skip)
      (simp only [Act.put, List.setIfInBounds_toArray, List.set_cons_zero, List.set_cons_succ])
      refine bQ_guard (by exact rfl) ?_
      refine bQ_val ?_ rfl ?_ ?_
      rotate_left
      · intro w hS; go_simp; (first | done | (with_reducible rfl) | (refine (if_pos ?_).trans ?_; (focus omega); with_reducible rfl) | skip)
      (simp only [Act.put, List.setIfInBounds_toArray, List.set_cons_zero, List.set_cons_succ])
      refine bQ_guard (by exact rfl) ?_
      refine bQ_load rfl (fun w hS => by exact (row_elem OneS.cells_length (hS.at_ 2 rfl) HX.out) 3 _ rfl) (by kernel_rfl) ?_
      (simp only [Act.put, List.setIfInBounds_toArray, List.set_cons_zero, List.set_cons_succ])
      refine bQ_guard (by exact rfl) ?_
      refine bQ_val ?_ rfl ?_ ?_
      rotate_left
      · intro w hS; go_simp; (first | done | (with_reducible rfl) | (refine (if_pos ?_).trans ?_; (focus omega); with_reducible rfl) | skip)
      (simp only [Act.put, List.setIfInBounds_toArray, List.set_cons_zero, List.set_cons_succ])
      refine bQ_guard (by exact rfl) ?_
      refine bQ_load rfl (fun w hS => by (first | ((with_reducible apply St.cellI hS); (focus repeat constructor); exact rfl) | assumption)) (by kernel_rfl) ?_
      (simp only [Act.put, List.setIfInBounds_toArray, List.set_cons_zero, List.set_cons_succ])
      refine bQ_guard (by exact rfl) ?_
      refine bQ_val (.bool false) rfl (fun w hS => by go_simp; (first | done | omega | simp [*])) ?_
      (simp only [Act.put, List.setIfInBounds_toArray, List.set_cons_zero, List.set_cons_succ])
      refine bQ_val ?_ rfl ?_ ?_
      rotate_left
      · intro w hS; go_simp; (first | done | (with_reducible rfl) | (refine (if_pos ?_).trans ?_; (focus omega); with_reducible rfl) | skip)
      (simp only [Act.put, List.setIfInBounds_toArray, List.set_cons_zero, List.set_cons_succ])
      refine bQ_val ?_ rfl ?_ ?_
      rotate_left
      · intro w hS; go_simp; (first | done | (with_reducible rfl) | (refine (if_pos ?_).trans ?_; (focus omega); with_reducible rfl) | skip)
      (simp only [Act.put, List.setIfInBounds_toArray, List.set_cons_zero, List.set_cons_succ])
      refine bQ_guard (by exact rfl) ?_
      refine bQ_val ?_ rfl ?_ ?_
      rotate_left
      · intro w hS; go_simp; (first | done | (with_reducible rfl) | (refine (if_pos ?_).trans ?_; (focus omega); with_reducible rfl) | skip)
      (simp only [Act.put, List.setIfInBounds_toArray, List.set_cons_zero, List.set_cons_succ])
      refine bQ_guard (by exact rfl) ?_
      refine bQ_val ?_ rfl ?_ ?_
      rotate_left
      · intro w hS; go_simp; (first | done | (with_reducible rfl) | (refine (if_pos ?_).trans ?_; (focus omega); with_reducible rfl) | skip)
      (simp only [Act.put, List.setIfInBounds_toArray, List.set_cons_zero, List.set_cons_succ])
      refine bQ_guard (by exact rfl) ?_
      refine bQ_val ?_ rfl ?_ ?_
      rotate_left
      · intro w hS; go_simp; (first | done | (with_reducible rfl) | (refine (if_pos ?_).trans ?_; (focus omega); with_reducible rfl) | skip)
      (simp only [Act.put, List.setIfInBounds_toArray, List.set_cons_zero, List.set_cons_succ])
      refine bQ_guard (by exact rfl) ?_
      refine bQ_load rfl (fun w hS => by exact (row_elem OneS.cells_length (hS.at_ 2 rfl) HX.out) 4 _ rfl) (by kernel_rfl) ?_
      (simp only [Act.put, List.setIfInBounds_toArray, List.set_cons_zero, List.set_cons_succ])
      refine bQ_val ?_ rfl ?_ ?_
      rotate_left
      · intro w hS; go_simp; (first | done | (with_reducible rfl) | (refine (if_pos ?_).trans ?_; (focus omega); with_reducible rfl) | skip)
      (simp only [Act.put, List.setIfInBounds_toArray, List.set_cons_zero, List.set_cons_succ])
      refine ⟨wpQuiet_nil ?_⟩
      intro wx hS
      go_wp2_with (first | ((with_reducible show WGd ..); (with_reducible apply wpA_guard); exact rfl; skip) | ((with_reducible show WLd ..); (with_reducible apply wpA_load); exact rfl; (first | ((with_reducible apply St.cellI hS); (focus repeat constructor); exact rfl) | assumption); kernel_rfl) | ((with_reducible show WSt ..); (with_reducible apply wpA_store1I hS); exact rfl; (focus repeat constructor); exact rfl; exact rfl; exact rfl; exact rfl; kernel_rfl; intro wx hS; (try simp only [Act.put, List.setIfInBounds_toArray, List.set_cons_zero, List.set_cons_succ]); (try simp only [Act.eval, Array.getD_eq_getD_getElem?, List.getElem?_toArray, List.getElem?_cons_succ, List.getElem?_cons_zero, Option.getD_some, List.set_cons_succ, List.set_cons_zero, Value.cells, List.toList_toArray] at hS)) | ((with_reducible show WBx ..); (with_reducible apply wpA_box hS); exact rfl; exact rfl; intro _ wx hS; (try simp only [Act.put, List.setIfInBounds_toArray, List.set_cons_zero, List.set_cons_succ]); (try simp only [Act.eval, Array.getD_eq_getD_getElem?, List.getElem?_toArray, List.getElem?_cons_succ, List.getElem?_cons_zero, Option.getD_some, List.set_cons_succ, List.set_cons_zero, Value.cells, List.toList_toArray] at hS)))
      go_ret
      exact ⟨rfl, _, c, hS.tail⟩
    | false =>
      rw [if_neg (by rintro (q | q | q); cases q; exact c1 q; exact q c2)]
      go_enter Try.func28, Try.ntmps28
      go_upto_region 2 with (first | ((with_reducible show WGd ..); (with_reducible apply wpA_guard); exact rfl; skip) | ((first | ((with_reducible show WBx ..); (with_reducible apply wpA_box hS); exact rfl; exact rfl; intro gb wx hS) | ((with_reducible show WBx ..); (with_reducible apply wpA_box hS); exact rfl; exact rfl; intro _ wx hS)); (try simp only [Act.put, List.setIfInBounds_toArray, List.set_cons_zero, List.set_cons_succ]); (try simp only [Act.eval, Array.getD_eq_getD_getElem?, List.getElem?_toArray, List.getElem?_cons_succ, List.getElem?_cons_zero, Option.getD_some, List.set_cons_succ, List.set_cons_zero, Value.cells, List.toList_toArray] at hS)) | (go_at_call 44; ((try simp only [List.set_cons_succ, List.set_cons_zero] at hS); replace hS := hS.sel [1, 2, 0] 3 (by decide) (by decide) (by simp); simp only [List.filterMap_cons, List.filterMap_nil, List.getElem?_cons_succ, List.getElem?_cons_zero, List.drop_succ_cons, List.drop_zero, List.cons_append, List.nil_append] at hS); with_reducible refine (rat_yes hS r1 HA.out hl).mono ?_; rintro _ _ ⟨rfl, hS⟩; ((try simp only [List.set_cons_succ, List.set_cons_zero] at hS); replace hS := hS.sel [2, 0, 1] 3 (by decide) (by decide) (by simp); simp only [List.filterMap_cons, List.filterMap_nil, List.getElem?_cons_succ, List.getElem?_cons_zero, List.drop_succ_cons, List.drop_zero, List.cons_append, List.nil_append] at hS)) | ((with_reducible show WLd ..); (with_reducible apply wpA_load); exact rfl; (first | ((with_reducible apply St.cellI hS); (focus repeat constructor); exact rfl) | assumption); kernel_rfl) | ((with_reducible show WSt ..); (with_reducible apply wpA_store1I hS); exact rfl; (focus repeat constructor); exact rfl; exact rfl; exact rfl; exact rfl; kernel_rfl; intro wx hS; (try simp only [Act.put, List.setIfInBounds_toArray, List.set_cons_zero, List.set_cons_succ]); (try simp only [Act.eval, Array.getD_eq_getD_getElem?, List.getElem?_toArray, List.getElem?_cons_succ, List.getElem?_cons_zero, Option.getD_some, List.set_cons_succ, List.set_cons_zero, Value.cells, List.toList_toArray] at hS)))
      refine wp_region_St hS (by kernel_rfl) (by kernel_rfl) (Bx.out ?_)
      refine bQ_val ?_ rfl ?_ ?_
      rotate_left
      · intro w hS; go_simp; (first | done | (with_reducible rfl) | (refine (if_pos ?_).trans ?_; (focus omega); with_reducible rfl) | skip)
      (simp only [Act.put, List.setIfInBounds_toArray, List.set_cons_zero, List.set_cons_succ])
      refine bQ_val ?_ rfl ?_ ?_
      rotate_left
      · intro w hS; go_simp; (first | done | (with_reducible rfl) | (refine (if_pos ?_).trans ?_; (focus omega); with_reducible rfl) | skip)
      (simp only [Act.put, List.setIfInBounds_toArray, List.set_cons_zero, List.set_cons_succ])
      refine bQ_val ?_ rfl ?_ ?_
      rotate_left
      · intro w hS; go_simp; (first | done | (with_reducible rfl) | (refine (if_pos ?_).trans ?_; (focus omega); with_reducible rfl) | skip)
      (simp only [Act.put, List.setIfInBounds_toArray, List.set_cons_zero, List.set_cons_succ])
      refine bQ_guard (by exact rfl) ?_
      refine bQ_val ?_ rfl ?_ ?_
      rotate_left
      · intro w hS; go_simp; (first | done | (with_reducible rfl) | (refine (if_pos ?_).trans ?_; (focus omega); with_reducible rfl) | skip)
      (simp only [Act.put, List.setIfInBounds_toArray, List.set_cons_zero, List.set_cons_succ])
      refine bQ_guard (by exact rfl) ?_
      refine bQ_val ?_ rfl ?_ ?_
      rotate_left
      · intro w hS; go_simp; (first | done | (with_reducible rfl) | (refine (if_pos ?_).trans ?_; (focus omega); with_reducible rfl) | skip)
      (simp only [Act.put, List.setIfInBounds_toArray, List.set_cons_zero, List.set_cons_succ])
      refine bQ_guard (by exact rfl) ?_
      refine bQ_val ?_ rfl ?_ ?_
      rotate_left
      · intro w hS; go_simp; (first | done | (with_reducible rfl) | (refine (if_pos ?_).trans ?_; (focus omega); with_reducible rfl) | skip)
      (simp only [Act.put, List.setIfInBounds_toArray, List.set_cons_zero, List.set_cons_succ])
      refine bQ_guard (by exact rfl) ?_
      refine bQ_load rfl (fun w hS => by exact (row_elem OneS.cells_length (hS.at_ 2 rfl) HX.out) 3 _ rfl) (by kernel_rfl) ?_
      (simp only [Act.put, List.setIfInBounds_toArray, List.set_cons_zero, List.set_cons_succ])
      refine bQ_guard (by exact rfl) ?_
      refine bQ_val (.bool false) rfl (fun w hS => by go_simp; (first | done | omega | simp [*])) ?_
      (simp only [Act.put, List.setIfInBounds_toArray, List.set_cons_zero, List.set_cons_succ])
      refine bQ_val ?_ rfl ?_ ?_
      rotate_left
      · intro w hS; go_simp; (first | done | (with_reducible rfl) | (refine (if_pos ?_).trans ?_; (focus omega); with_reducible rfl) | skip)
      (simp only [Act.put, List.setIfInBounds_toArray, List.set_cons_zero, List.set_cons_succ])
      refine bQ_val ?_ rfl ?_ ?_
      rotate_left
      · intro w hS; go_simp; (first | done | (with_reducible rfl) | (refine (if_pos ?_).trans ?_; (focus omega); with_reducible rfl) | skip)
      (simp only [Act.put, List.setIfInBounds_toArray, List.set_cons_zero, List.set_cons_succ])
      refine bQ_guard (by exact rfl) ?_
      refine bQ_val ?_ rfl ?_ ?_
      rotate_left
      · intro w hS; go_simp; (first | done | (with_reducible rfl) | (refine (if_pos ?_).trans ?_; (focus omega); with_reducible rfl) | skip)
      (simp only [Act.put, List.setIfInBounds_toArray, List.set_cons_zero, List.set_cons_succ])
      refine bQ_guard (by exact rfl) ?_
      refine bQ_val ?_ rfl ?_ ?_
      rotate_left
      · intro w hS; go_simp; (first | done | (with_reducible rfl) | (refine (if_pos ?_).trans ?_; (focus omega); with_reducible rfl) | skip)
      (simp only [Act.put, List.setIfInBounds_toArray, List.set_cons_zero, List.set_cons_succ])
      refine bQ_guard (by exact rfl) ?_
      refine bQ_val ?_ rfl ?_ ?_
      rotate_left
      · intro w hS; go_simp; (first | done | (with_reducible rfl) | (refine (if_pos ?_).trans ?_; (focus omega); with_reducible rfl) | skip)
      (simp only [Act.put, List.setIfInBounds_toArray, List.set_cons_zero, List.set_cons_succ])
      refine bQ_guard (by exact rfl) ?_
      refine bQ_load rfl (fun w hS => by exact (row_elem OneS.cells_length (hS.at_ 2 rfl) HX.out) 3 _ rfl) (by kernel_rfl) ?_
      (simp only [Act.put, List.setIfInBounds_toArray, List.set_cons_zero, List.set_cons_succ])
      refine bQ_guard (by exact rfl) ?_
      refine bQ_val ?_ rfl ?_ ?_
      rotate_left
      · intro w hS; go_simp; (first | done | (with_reducible rfl) | (refine (if_pos ?_).trans ?_; (focus omega); with_reducible rfl) | skip)
      (simp only [Act.put, List.setIfInBounds_toArray, List.set_cons_zero, List.set_cons_succ])
      refine bQ_guard (by exact rfl) ?_
      refine bQ_load rfl (fun w hS => by (first | ((with_reducible apply St.cellI hS); (focus repeat constructor); exact rfl) | assumption)) (by kernel_rfl) ?_
      (simp only [Act.put, List.setIfInBounds_toArray, List.set_cons_zero, List.set_cons_succ])
      refine bQ_guard (by exact rfl) ?_
      refine bQ_val (.bool false) rfl (fun w hS => by go_simp; (first | done | omega | simp [*])) ?_
      (simp only [Act.put, List.setIfInBounds_toArray, List.set_cons_zero, List.set_cons_succ])
      refine bQ_val ?_ rfl ?_ ?_
      rotate_left
      · intro w hS; go_simp; (first | done | (with_reducible rfl) | (refine (if_pos ?_).trans ?_; (focus omega); with_reducible rfl) | skip)
      (simp only [Act.put, List.setIfInBounds_toArray, List.set_cons_zero, List.set_cons_succ])
      refine bQ_val ?_ rfl ?_ ?_
      rotate_left
      · intro w hS; go_simp; (first | done | (with_reducible rfl) | (refine (if_pos ?_).trans ?_; (focus omega); with_reducible rfl) | skip)
      (simp only [Act.put, List.setIfInBounds_toArray, List.set_cons_zero, List.set_cons_succ])
      refine bQ_guard (by exact rfl) ?_
      refine bQ_val ?_ rfl ?_ ?_
      rotate_left
      · intro w hS; go_simp; (first | done | (with_reducible rfl) | (refine (if_pos ?_).trans ?_; (focus omega); with_reducible rfl) | skip)
      (simp only [Act.put, List.setIfInBounds_toArray, List.set_cons_zero, List.set_cons_succ])
      refine bQ_guard (by exact rfl) ?_
      refine bQ_val ?_ rfl ?_ ?_
      rotate_left
      · intro w hS; go_simp; (first | done | (with_reducible rfl) | (refine (if_pos ?_).trans ?_; (focus omega); with_reducible rfl) | skip)
      (simp only [Act.put, List.setIfInBounds_toArray, List.set_cons_zero, List.set_cons_succ])
      refine bQ_guard (by exact rfl) ?_
      refine bQ_val ?_ rfl ?_ ?_
      rotate_left
      · intro w hS; go_simp; (first | done | (with_reducible rfl) | (refine (if_pos ?_).trans ?_; (focus omega); with_reducible rfl) | skip)
      (simp only [Act.put, List.setIfInBounds_toArray, List.set_cons_zero, List.set_cons_succ])
      refine bQ_guard (by exact rfl) ?_
      refine bQ_load rfl (fun w hS => by exact (row_elem OneS.cells_length (hS.at_ 2 rfl) HX.out) 4 _ rfl) (by kernel_rfl) ?_
      (simp only [Act.put, List.setIfInBounds_toArray, List.set_cons_zero, List.set_cons_succ])
      refine bQ_val ?_ rfl ?_ ?_
      rotate_left
      · intro w hS; go_simp; (first | done | (with_reducible rfl) | (refine (if_pos ?_).trans ?_; (focus omega); with_reducible rfl) | skip)
      (simp only [Act.put, List.setIfInBounds_toArray, List.set_cons_zero, List.set_cons_succ])
      refine ⟨wpQuiet_nil ?_⟩
      intro wx hS
      go_upto_region 4 with (first | ((with_reducible show WGd ..); (with_reducible apply wpA_guard); exact rfl; skip) | ((with_reducible show WLd ..); (with_reducible apply wpA_load); exact rfl; (first | ((with_reducible apply St.cellI hS); (focus repeat constructor); exact rfl) | assumption); kernel_rfl) | ((with_reducible show WSt ..); (with_reducible apply wpA_store1I hS); exact rfl; (focus repeat constructor); exact rfl; exact rfl; exact rfl; exact rfl; kernel_rfl; intro wx hS; (try simp only [Act.put, List.setIfInBounds_toArray, List.set_cons_zero, List.set_cons_succ]); (try simp only [Act.eval, Array.getD_eq_getD_getElem?, List.getElem?_toArray, List.getElem?_cons_succ, List.getElem?_cons_zero, Option.getD_some, List.set_cons_succ, List.set_cons_zero, Value.cells, List.toList_toArray] at hS)) | ((with_reducible show WBx ..); (with_reducible apply wpA_box hS); exact rfl; exact rfl; intro _ wx hS; (try simp only [Act.put, List.setIfInBounds_toArray, List.set_cons_zero, List.set_cons_succ]); (try simp only [Act.eval, Array.getD_eq_getD_getElem?, List.getElem?_toArray, List.getElem?_cons_succ, List.getElem?_cons_zero, Option.getD_some, List.set_cons_succ, List.set_cons_zero, Value.cells, List.toList_toArray] at hS)))
      obtain ⟨cur, q1, q2, q3, q4, hS⟩ := hS.rowCells 2 rfl
      simp only [List.set_cons_succ, List.set_cons_zero] at hS
      have hcl : σ.l.length * 10 ≤ cur.length := by rw [q1]; exact Nat.mul_le_mul_right _ q3
      have hk10 : k * 10 + 10 ≤ cur.length := by have : (k + 1) * 10 ≤ σ.l.length * 10 := Nat.mul_le_mul_right _ hkl; omega
      have hfit : ∀ q, q < 10 → (cur[k * 10 + q]?).isSome = true := fun q hq => by rw [List.getElem?_eq_getElem (by omega)]; rfl
      have hcell : ∀ q v, (OneS.cells ⟨y1, y2, yo, ys, false, ⟨z1, z2, z3, z4, z5⟩⟩)[q]? = some v → cur[k * 10 + q]? = some v := by
        intro q v hv
        have h1 := flat_get OneS.cells_length HX.out q v hv
        rw [← q2, List.getElem?_take] at h1
        split at h1
        · exact h1
        · cases h1
      have HC := Lib.hid hcell
      clear hcell
      have hfit5 : k * 10 + 5 + 5 ≤ (cur.set (k * 10 + 4) (.bool true)).length := by rw [List.length_set]; omega
      refine wp_region_E2 8 (fun _ h => St.sub h (.cons_cons _ (.cons _ (List.nil_sublist _)))) hS (by kernel_rfl) (fun _ hR hS => ?_)
      simp only [List.length_cons, List.length_nil, Nat.reduceAdd]
      refine takeP_val (i := 0) ?_ rfl (by exact rfl) (by kernel_rfl) (fun _ _ _ h => h) ?_ hR (fun hR => ?_)
      rotate_left
      · intro w; go_simp; (first | done | (with_reducible rfl) | (refine (if_pos ?_).trans ?_; (focus omega); with_reducible rfl) | skip)
      (simp only [Act.put, List.setIfInBounds_toArray, List.set_cons_zero, List.set_cons_succ])
      refine takeP_val (i := 1) ?_ rfl (by exact rfl) (by kernel_rfl) (fun _ _ _ h => h) ?_ hR (fun hR => ?_)
      rotate_left
      · intro w; go_simp; (first | done | (with_reducible rfl) | (refine (if_pos ?_).trans ?_; (focus omega); with_reducible rfl) | skip)
      (simp only [Act.put, List.setIfInBounds_toArray, List.set_cons_zero, List.set_cons_succ])
      refine takeE_loadN (i := 2) [8] rfl (by exact rfl) (by kernel_rfl) (fun _ _ _ h => h) (by decide) rfl (fun w hS => by (first | exact Hp.range hS 0 rfl _ 5 | exact Hp.range hS 1 rfl _ 5 | exact Hp.range hS 2 rfl _ 5 | exact Hp.range hS 3 rfl _ 5 | exact Hp.range hS 4 rfl _ 5 | exact Hp.range hS 5 rfl _ 5 | exact Hp.range hS 6 rfl _ 5 | exact Hp.range hS 7 rfl _ 5 | exact Hp.range hS 8 rfl _ 5 | exact Hp.range hS 9 rfl _ 5)) (by kernel_rfl) (by kernel_rfl) hR (fun hR => ?_)
      (simp only [Act.put, List.setIfInBounds_toArray, List.set_cons_zero, List.set_cons_succ])
      (try simp only [List.drop_zero, List.drop_succ_cons, List.take_succ_cons, List.take_zero])
      refine takeP_val (i := 3) ?_ rfl (by exact rfl) (by kernel_rfl) (fun _ _ _ h => h) ?_ hR (fun hR => ?_)
      rotate_left
      · intro w; go_simp; (first | done | (with_reducible rfl) | (refine (if_pos ?_).trans ?_; (focus omega); with_reducible rfl) | skip)
      (simp only [Act.put, List.setIfInBounds_toArray, List.set_cons_zero, List.set_cons_succ])
      refine takeP_val (i := 4) ?_ rfl (by exact rfl) (by kernel_rfl) (fun _ _ _ h => h) ?_ hR (fun hR => ?_)
      rotate_left
      · intro w; go_simp; (first | done | (with_reducible rfl) | (refine (if_pos ?_).trans ?_; (focus omega); with_reducible rfl) | skip)
      (simp only [Act.put, List.setIfInBounds_toArray, List.set_cons_zero, List.set_cons_succ])
      refine oneE (i := 5) (by kernel_rfl) rfl (by exact rfl) (fun K_ hK_ => ?_)
      ((with_reducible apply opA_store1 hS 2); exact rfl; exact rfl; exact rfl; exact rfl; exact rfl; exact hfit _ (by decide); kernel_rfl; intro wx hS; (try simp only [Act.eval, Array.getD_eq_getD_getElem?, List.getElem?_toArray, List.getElem?_cons_succ, List.getElem?_cons_zero, Option.getD_some, List.set_cons_succ, List.set_cons_zero, Value.cells, List.toList_toArray] at hS))
      refine hK_ _ _ (fun _ => ((St.sub hS (.cons_cons _ (.cons _ (List.nil_sublist _)))))) ?_; clear hK_ K_
      (simp only [Act.put, List.setIfInBounds_toArray, List.set_cons_zero, List.set_cons_succ])
      refine takeP_val (i := 6) ?_ rfl (by exact rfl) (by kernel_rfl) (fun _ _ _ h => h) ?_ (fun _ => (St.sub hS (.cons_cons _ (.cons _ (List.nil_sublist _))))) (fun hR => ?_)
      rotate_left
      · intro w; go_simp; (first | done | (with_reducible rfl) | (refine (if_pos ?_).trans ?_; (focus omega); with_reducible rfl) | skip)
      (simp only [Act.put, List.setIfInBounds_toArray, List.set_cons_zero, List.set_cons_succ])
      refine takeP_val (i := 7) ?_ rfl (by exact rfl) (by kernel_rfl) (fun _ _ _ h => h) ?_ hR (fun hR => ?_)
      rotate_left
      · intro w; go_simp; (first | done | (with_reducible rfl) | (refine (if_pos ?_).trans ?_; (focus omega); with_reducible rfl) | skip)
      (simp only [Act.put, List.setIfInBounds_toArray, List.set_cons_zero, List.set_cons_succ])
      refine oneE (i := 8) (by kernel_rfl) rfl (by exact rfl) (fun K_ hK_ => ?_)
      ((with_reducible apply opA_store hS 2); exact rfl; exact rfl; exact rfl; exact rfl; exact rfl; exact hfit5; kernel_rfl; intro wx hS; (try simp only [Act.eval, Array.getD_eq_getD_getElem?, List.getElem?_toArray, List.getElem?_cons_succ, List.getElem?_cons_zero, Option.getD_some, List.set_cons_succ, List.set_cons_zero, Value.cells, List.toList_toArray] at hS))
      refine hK_ _ _ (fun h => by cases h) ?_; clear hK_ K_
      (simp only [Act.put, List.setIfInBounds_toArray, List.set_cons_zero, List.set_cons_succ])
      refine wpAnyR_done (by kernel_rfl) ?_ _
      go_wp2_with (first | ((with_reducible show WGd ..); (with_reducible apply wpA_guard); exact rfl; skip) | ((with_reducible show WLd ..); (with_reducible apply wpA_load); exact rfl; (first | ((with_reducible apply St.cellI hS); (focus repeat constructor); exact rfl) | assumption); kernel_rfl) | ((with_reducible show WSt ..); (with_reducible apply wpA_store1I hS); exact rfl; (focus repeat constructor); exact rfl; exact rfl; exact rfl; exact rfl; kernel_rfl; intro wx hS; (try simp only [Act.put, List.setIfInBounds_toArray, List.set_cons_zero, List.set_cons_succ]); (try simp only [Act.eval, Array.getD_eq_getD_getElem?, List.getElem?_toArray, List.getElem?_cons_succ, List.getElem?_cons_zero, Option.getD_some, List.set_cons_succ, List.set_cons_zero, Value.cells, List.toList_toArray] at hS)) | ((with_reducible show WBx ..); (with_reducible apply wpA_box hS); exact rfl; exact rfl; intro _ wx hS; (try simp only [Act.put, List.setIfInBounds_toArray, List.set_cons_zero, List.set_cons_succ]); (try simp only [Act.eval, Array.getD_eq_getD_getElem?, List.getElem?_toArray, List.getElem?_cons_succ, List.getElem?_cons_zero, Option.getD_some, List.set_cons_succ, List.set_cons_zero, Value.cells, List.toList_toArray] at hS)))
      go_ret
      have hrow1 := row_set1 (f := OneS.cells) OneS.cells_length (v := .bool true) (q := 4) (y := ⟨y1, y2, yo, ys, true, ⟨z1, z2, z3, z4, z5⟩⟩) HX.out q2 hcl (by decide) rfl
      have hrowN := row_setN (f := OneS.cells) OneS.cells_length (l := σ.l.set k ⟨y1, y2, yo, ys, true, ⟨z1, z2, z3, z4, z5⟩⟩) (cur := cur.set (k * 10 + 4) (.bool true)) (cs := [.int .i64 r1, .int .i64 r2, .int .i64 r3, .int .u64 r4, .int .i64 r5]) (j := k) (q := 5) (z := ⟨y1, y2, yo, ys, true, ⟨z1, z2, z3, z4, z5⟩⟩) (y := ⟨y1, y2, yo, ys, true, ⟨r1, r2, r3, r4, r5⟩⟩) (by rw [List.getElem?_set_self hkl]) (by rw [List.length_set]; exact hrow1) (by rw [List.length_set, List.length_set]; exact hcl) (by show 5 + 5 ≤ 10; decide) rfl
      rw [List.length_set, List.set_set] at hrowN
      have hS2 := St.cellsRow hS 2 rfl (n := σ.l.length) (cap := c) (by simp only [List.length_append, List.length_take, List.length_drop, List.length_set, List.length_cons, List.length_nil]; omega) hrowN q3 q4
      simp only [List.set_cons_succ, List.set_cons_zero] at hS2
      refine ⟨rfl, (some ⟨g, 0, none⟩), c, ?_⟩
      show St w0 _ (rxc x _ (σ.l.set k _).length c σ :: .row _ _ _ (σ.l.set k _).length _ _ :: R)
      rw [List.length_set]
      exact hS2.tail
end
end Go.Proofs.Ytodojllclghoiaa
