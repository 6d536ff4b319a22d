/-
  slices.Insert of one int.
-/
import Derived.Test.YtelbpnlpmaihhaaSlIns
import Derived.WalkSpells
import Derived.WalkLawsBesides
import Derived.Test.YtelbpnlpmaihhaaProg
namespace Go.Proofs.Ytelbpnlpmaihhaa
set_option linter.unusedVariables false
set_option linter.unusedSimpArgs false
open Go.RowKit

theorem overlaps_c {w : World} {g gl : Nat} {cur lit : Array Value} (hg : w.heap[g]? = some (.cells cur 3 (0, 0))) (hgl : w.heap[gl]? = some (.cells lit 3 (0, 0))) (hne : gl ≠ g) (h0 : cur.size ≠ 0) (o la ca lb cb : Nat) :
    (callFunc 89 #[.slice (some ⟨gl, 0, none⟩) la ca, .slice (some ⟨g, o, none⟩) lb cb]).run Try.prog w = .ok (.value (.bool false)) w := by
  obtain ⟨k1, s1, e1⟩ := shape_cells hgl
  obtain ⟨k2, s2, e2⟩ := shape_cells hg
  have hz : ∀ w, (Go.sizeOf 3).run Try.prog w = .ok 1 w := by intro w; kernel_rfl
  have hf1 : w.frozen? ⟨gl, 0, none⟩ = false := by simp [World.frozen?, hgl]
  have hf2 : w.frozen? ⟨gl, k1, none⟩ = false := by simp [World.frozen?, hgl]
  rw [run_callFunc_extern Try.func89 (by kernel_rfl) (by kernel_rfl) (by kernel_rfl) (e := Extern.SlicesOverlaps.overlaps #[25, 25] #[4]) (by kernel_rfl),
    Lib.run_overlaps_apart w 25 4 3 Try.underlying25 1 hz ⟨gl, 0, none⟩ ⟨g, o, none⟩ la ca lb cb hne 3 3 k1 k2 s1 s2 (by omega) hf1 hf2]
  rfl

set_option maxRecDepth 100000 in
set_option maxHeartbeats 2000000 in
theorem insert_c (w0 w : World) (R : List Hp) (ao : Option Addr) (n cap gl i : Nat) (zs : List Int) (x : Int) (hS : St w0 w (.cells gl [.int .i64 x] 3 :: .row 3 1 ao n cap (zs.map (Value.int .i64)) :: R)) (hn : n ≤ 1000000000) (hi : i ≤ n) :
    Calls Try.prog 76 #[.slice ao n cap, .int .i64 i, .slice (some ⟨gl, 0, none⟩) 1 1] w fun e w' => ∃ ao' cap', e = .returned (.slice ao' (n + 1) cap') ∧ St w0 w' (.row 3 1 ao' (n + 1) cap' ((zs.take i ++ [x] ++ zs.drop i).map (Value.int .i64)) :: R) := by
  have hcap : n ≤ cap := by rcases row_head (hS.at_ 1 rfl) with ⟨_, h, h'⟩ | ⟨_, h⟩ <;> omega
  have hcm : cap ≤ maxLen := by
    rcases row_cases (hS.at_ 1 rfl) with ⟨_, _, h, _⟩ | ⟨_, _, _, _, _, h, _⟩
    · rw [h]; exact Nat.zero_le _
    · exact h
  unfold maxLen at hcm
  have hzl := row_ints (hS.at_ 1 rfl)
  by_cases hin : i = n
  · rw [List.take_of_length_le (by omega), List.drop_eq_nil_of_le (by omega), List.append_nil, List.map_append]
    subst hin
    clear hzl
    go_enter Try.func76, Try.ntmps76
    go_wp2_with (first | ((with_reducible show WGd ..); (with_reducible apply wpA_guard); exact rfl; skip) | ((with_reducible show WAp ..); (with_reducible apply wpA_append hS 1 (z := .int .i64 0) (size := 1) (bytes := 8)); exact rfl; exact rfl; exact rfl; exact Try.underlying25; exact .inr Try.underlying25; kernel_rfl; exact rfl; exact (Src.freshN (m := 1) hS 0 rfl rfl (by rfl)); exact (by unfold maxLen; omega); exact (by omega); intro ao2 cap2 wx hS; (try simp only [Act.put, List.setIfInBounds_toArray, List.set_cons_zero, List.set_cons_succ])) | ((with_reducible show WLd ..); (with_reducible apply wpA_load); exact rfl; (first | ((with_reducible apply St.cellI hS); (focus repeat constructor); exact rfl) | assumption); kernel_rfl) | ((with_reducible show WSt ..); (with_reducible apply wpA_store1I hS); exact rfl; (focus repeat constructor); exact rfl; exact rfl; exact rfl; exact rfl; kernel_rfl; intro wx hS; (try simp only [Act.put, List.setIfInBounds_toArray, List.set_cons_zero, List.set_cons_succ]); (try simp only [Act.eval, Array.getD_eq_getD_getElem?, List.getElem?_toArray, List.getElem?_cons_succ, List.getElem?_cons_zero, Option.getD_some, List.set_cons_succ, List.set_cons_zero, Value.cells, List.toList_toArray] at hS)) | ((with_reducible show WBx ..); (with_reducible apply wpA_box hS); exact rfl; exact rfl; intro _ wx hS; (try simp only [Act.put, List.setIfInBounds_toArray, List.set_cons_zero, List.set_cons_succ]); (try simp only [Act.eval, Array.getD_eq_getD_getElem?, List.getElem?_toArray, List.getElem?_cons_succ, List.getElem?_cons_zero, Option.getD_some, List.set_cons_succ, List.set_cons_zero, Value.cells, List.toList_toArray] at hS)))
    all_goals
      go_ret
      exact ⟨_, _, rfl, hS.tail⟩
  · have hlt : i < n := by omega
    rcases row_head (hS.at_ 1 rfl) with ⟨_, hh, _⟩ | ⟨⟨g, rfl⟩, _⟩
    · omega
    have hne : gl ≠ g := by
      have := hS.nd
      simp [fps, Hp.fp] at this
      exact this.1.1
    obtain ⟨cur, c1, c2, c3, c4, hS⟩ := hS.rowCells 1 rfl
    simp only [List.set_cons_succ, List.set_cons_zero, Nat.mul_one] at hS c1 c2
    have hseg : (zs.map (Value.int .i64)).drop i = (zs.drop i).map (Value.int .i64) := by rw [List.map_drop]
    have h1c : ∀ l : List Int, ∀ v ∈ l.map (Value.int .i64), v.oneCell' = true := fun l v hv => by obtain ⟨z, _, rfl⟩ := List.mem_map.1 hv; rfl
    have H1 := Lib.hid h1c
    have hb0 : (i == n) = false := by simpa using hin
    have hb1 : ((i : Int) == (n : Int)) = false := by simp; omega
    have hsr : ∀ (lit cr : List Value) (w : World), cr.take n = zs.map (Value.int .i64) → St w0 w (.cells gl lit 3 :: .cells g cr 3 :: R) → ∀ q v, ((zs.drop i).map (Value.int .i64))[q]? = some v → w.cell? ((⟨g, i, none⟩ : Addr).add q) = some v := by
      intro lit cr w hcr h q v hq
      rw [← hseg, List.getElem?_drop, ← hcr, List.getElem?_take] at hq
      rw [Addr.add_lit]
      split at hq
      · exact h.cell 1 rfl _ hq
      · cases hq
    have HSR := Lib.hid hsr
    have hw1 : IntKind.i64.wrap ((i : Int) + 1) = (i : Int) + 1 := by rw [IntKind.wrap_i64]; omega
    have ha1 : (0 : Int) ≤ (i : Int) + 1 := by omega
    have ha2 : ((i : Int) + 1).toNat = i + 1 := by omega
    have ha3 : (i : Int) + 1 ≤ (n : Int) + 1 := by omega
    have ha4 : (i : Int) ≤ (n : Int) + 1 := by omega
    have ha5 : ¬ cap = i := by omega
    have ha6 : (0 : Int) ≤ (i : Int) := by omega
    by_cases hroom : n + 1 ≤ cap
    · have hov : ∀ (lb cb : Nat) (w : World), St w0 w (.cells gl [.int .i64 x] 3 :: .cells g cur 3 :: R) → (callFunc 89 #[.slice (some ⟨gl, 0, none⟩) 1 1, .slice (some ⟨g, i + 1, none⟩) lb cb]).run Try.prog w = .ok (.value (.bool false)) w := fun lb cb w h =>
        overlaps_c (h.at_ 1 rfl) (h.at_ 0 rfl) hne (by simp [c1]; omega) _ _ _ _ _
      have hov' := fun (lb cb : Nat) => hov lb cb w hS
      have HC := Lib.hid (And.intro c1 c2)
      have ha7 : ¬ cap = i + 1 := by omega
      have HN := Lib.hid (And.intro hne hzl)
      clear hov h1c c1 c2 hne hseg hzl hsr
      go_enter Try.func76, Try.ntmps76
      go_wp2_with (first | ((with_reducible show WGd ..); (with_reducible apply wpA_guard); exact rfl; skip) | ((with_reducible show WLd ..); (with_reducible apply wpA_load); exact rfl; (first | ((with_reducible apply St.cellI hS); (focus repeat constructor); exact rfl) | assumption); kernel_rfl) | ((with_reducible show WSt ..); (with_reducible apply wpA_store1I hS); exact rfl; (focus repeat constructor); exact rfl; exact rfl; exact rfl; exact rfl; kernel_rfl; intro wx hS; (try simp only [Act.put, List.setIfInBounds_toArray, List.set_cons_zero, List.set_cons_succ]); (try simp only [Act.eval, Array.getD_eq_getD_getElem?, List.getElem?_toArray, List.getElem?_cons_succ, List.getElem?_cons_zero, Option.getD_some, List.set_cons_succ, List.set_cons_zero, Value.cells, List.toList_toArray] at hS)) | ((with_reducible show WBx ..); (with_reducible apply wpA_box hS); exact rfl; exact rfl; intro _ wx hS; (try simp only [Act.put, List.setIfInBounds_toArray, List.set_cons_zero, List.set_cons_succ]); (try simp only [Act.eval, Array.getD_eq_getD_getElem?, List.getElem?_toArray, List.getElem?_cons_succ, List.getElem?_cons_zero, Option.getD_some, List.set_cons_succ, List.set_cons_zero, Value.cells, List.toList_toArray] at hS)))
      refine wp_region_E 8 hS (by kernel_rfl) (fun _ hR hS => ?_)
      simp only [List.length_cons, List.length_nil, Nat.reduceAdd]
      refine takeP_val (i := 0) ?_ rfl (by exact rfl) (by kernel_rfl) (fun _ _ _ h => h) ?_ hR (fun hR => ?_)
      rotate_left
      · intro w; go_simp; (first | done | (with_reducible rfl) | (refine (if_pos ?_).trans ?_; (focus omega); with_reducible rfl) | skip)
      (simp only [Act.put, List.setIfInBounds_toArray, List.set_cons_zero, List.set_cons_succ])
      refine takeP_val (i := 1) ?_ rfl (by exact rfl) (by kernel_rfl) (fun _ _ _ h => h) ?_ hR (fun hR => ?_)
      rotate_left
      · intro w; go_simp; (first | done | (with_reducible rfl) | (refine (if_pos ?_).trans ?_; (focus omega); with_reducible rfl) | skip)
      (simp only [Act.put, List.setIfInBounds_toArray, List.set_cons_zero, List.set_cons_succ])
      refine takeP_val (i := 2) ?_ rfl (by exact rfl) (by kernel_rfl) (fun _ _ _ h => h) ?_ hR (fun hR => ?_)
      rotate_left
      · intro w; go_simp; (first | done | (with_reducible rfl) | (refine (if_pos ?_).trans ?_; (focus omega); with_reducible rfl) | skip)
      (simp only [Act.put, List.setIfInBounds_toArray, List.set_cons_zero, List.set_cons_succ])
      refine takeP_val (i := 3) ?_ rfl (by exact rfl) (by kernel_rfl) (fun _ _ _ h => h) ?_ hR (fun hR => ?_)
      rotate_left
      · intro w; go_simp; (first | done | (with_reducible rfl) | (refine (if_pos ?_).trans ?_; (focus omega); with_reducible rfl) | skip)
      (simp only [Act.put, List.setIfInBounds_toArray, List.set_cons_zero, List.set_cons_succ])
      refine takeP_val (i := 4) ?_ rfl (by exact rfl) (by kernel_rfl) (fun _ _ _ h => h) ?_ hR (fun hR => ?_)
      rotate_left
      · intro w; go_simp; (first | done | (with_reducible rfl) | (refine (if_pos ?_).trans ?_; (focus omega); with_reducible rfl) | skip)
      (simp only [Act.put, List.setIfInBounds_toArray, List.set_cons_zero, List.set_cons_succ])
      refine takeP_val (i := 5) ?_ rfl (by exact rfl) (by kernel_rfl) (fun _ _ _ h => h) ?_ hR (fun hR => ?_)
      rotate_left
      · intro w; go_simp; (first | done | (with_reducible rfl) | (refine (if_pos ?_).trans ?_; (focus omega); with_reducible rfl) | skip)
      (simp only [Act.put, List.setIfInBounds_toArray, List.set_cons_zero, List.set_cons_succ])
      refine takeP_val (i := 6) ?_ rfl (by exact rfl) (by kernel_rfl) (fun _ _ _ h => h) ?_ hR (fun hR => ?_)
      rotate_left
      · intro w; go_simp; (first | done | (with_reducible rfl) | (refine (if_pos ?_).trans ?_; (focus omega); with_reducible rfl) | skip)
      (simp only [Act.put, List.setIfInBounds_toArray, List.set_cons_zero, List.set_cons_succ])
      refine takeP_val (i := 7) ?_ rfl (by exact rfl) (by kernel_rfl) (fun _ _ _ h => h) ?_ hR (fun hR => ?_)
      rotate_left
      · intro w; go_simp; (first | done | (with_reducible rfl) | (refine (if_pos ?_).trans ?_; (focus omega); with_reducible rfl) | skip)
      (simp only [Act.put, List.setIfInBounds_toArray, List.set_cons_zero, List.set_cons_succ])
      refine oneE (i := 8) (by kernel_rfl) rfl (by exact rfl) (fun K_ hK_ => ?_)
      (refine opA_copy hS 1 (n := n - i) (size := 1) (cs := (zs.drop i).map (Value.int .i64)) rfl rfl rfl Try.underlying25 (by kernel_rfl) (by simp only [Nat.min_def]; split <;> omega) (by simp [HN.out.2]) (HSR.out _ _ _ HC.out.2 hS) (H1.out _) (by simp [HC.out.1, HN.out.2]; omega) ?_; intro wx hS)
      refine hK_ _ _ (fun h => by cases h) ?_; clear hK_ K_
      (simp only [Act.put, List.setIfInBounds_toArray, List.set_cons_zero, List.set_cons_succ])
      refine wpAnyR_done (by kernel_rfl) ?_ _
      simp only [List.set_cons_succ, List.set_cons_zero] at hS
      obtain ⟨cur1, hc1⟩ : ∃ c, c = cur.take (i + 1) ++ (zs.drop i).map (Value.int .i64) ++ cur.drop (i + 1 + ((zs.drop i).map (Value.int .i64)).length) := ⟨_, rfl⟩
      rw [← hc1] at hS
      have HC1 := Lib.hid hc1
      have hl1 : i + 1 ≤ cur1.length := by
        rw [hc1]
        simp only [List.length_append, List.length_take, List.length_map, List.length_drop, HC.out.1]
        omega
      clear hc1 hov'
      go_wp2_with (first | ((with_reducible show WGd ..); (with_reducible apply wpA_guard); exact rfl; skip) | ((with_reducible show wpList _ _ _ (⟨_, .call ⟨.builtin .copy, _, _⟩, _, _, _, none⟩ :: _) _ _); (with_reducible apply wpA_copy hS 1 (n := 1) (size := 1) (cs := [.int .i64 x])); exact rfl; exact rfl; exact rfl; exact Try.underlying25; kernel_rfl; exact (by simp only [Nat.min_def]; split <;> omega); exact rfl; exact (fun q v hq => by rw [Addr.add_lit, Nat.zero_add]; exact hS.cell 0 rfl q hq); exact (H1.out [x]); exact hl1; intro wx hS; (try simp only [Act.put, List.setIfInBounds_toArray, List.set_cons_zero, List.set_cons_succ])) | ((with_reducible show WLd ..); (with_reducible apply wpA_load); exact rfl; (first | ((with_reducible apply St.cellI hS); (focus repeat constructor); exact rfl) | assumption); kernel_rfl) | ((with_reducible show WSt ..); (with_reducible apply wpA_store1I hS); exact rfl; (focus repeat constructor); exact rfl; exact rfl; exact rfl; exact rfl; kernel_rfl; intro wx hS; (try simp only [Act.put, List.setIfInBounds_toArray, List.set_cons_zero, List.set_cons_succ]); (try simp only [Act.eval, Array.getD_eq_getD_getElem?, List.getElem?_toArray, List.getElem?_cons_succ, List.getElem?_cons_zero, Option.getD_some, List.set_cons_succ, List.set_cons_zero, Value.cells, List.toList_toArray] at hS)) | ((with_reducible show WBx ..); (with_reducible apply wpA_box hS); exact rfl; exact rfl; intro _ wx hS; (try simp only [Act.put, List.setIfInBounds_toArray, List.set_cons_zero, List.set_cons_succ]); (try simp only [Act.eval, Array.getD_eq_getD_getElem?, List.getElem?_toArray, List.getElem?_cons_succ, List.getElem?_cons_zero, Option.getD_some, List.set_cons_succ, List.set_cons_zero, Value.cells, List.toList_toArray] at hS)))
      go_ret
      simp only [List.set_cons_succ, List.set_cons_zero] at hS
      obtain ⟨cur2, hc2⟩ : ∃ c, c = cur1.take i ++ [Value.int .i64 x] ++ cur1.drop (i + [Value.int .i64 x].length) := ⟨_, rfl⟩
      rw [← hc2] at hS
      have hfin := ins_room (x := [Value.int .i64 x]) (N := n) (k := 1) (I := i) (by rw [HC.out.1]; exact hroom) HC.out.2 rfl (by omega) (by rw [HC1.out, List.map_drop]) hc2
      obtain ⟨f1, f2, f3⟩ := hfin
      refine ⟨_, _, rfl, ?_⟩
      rw [List.map_append, List.map_append, List.map_take, List.map_drop]
      have hS2 := hS.cellsRow 1 rfl (size := 1) (n := n + 1) (cap := cap) (xs := (zs.map (Value.int .i64)).take i ++ [Value.int .i64 x] ++ (zs.map (Value.int .i64)).drop i) (by rw [f2, HC.out.1, Nat.mul_one]) (by rw [Nat.mul_one]; exact f1) hroom (by unfold maxLen; omega)
      exact hS2.tail
    · have hsr2 : ∀ (A : Hp) (lit cr : List Value) (w : World), cr.take n = zs.map (Value.int .i64) → St w0 w (A :: .cells gl lit 3 :: .cells g cr 3 :: R) → ∀ q v, ((zs.drop i).map (Value.int .i64))[q]? = some v → w.cell? ((⟨g, i, none⟩ : Addr).add q) = some v :=
        fun A lit cr w hcr h => hsr lit cr w hcr h.tail
      have hold : ∀ w' : World, w'.heap = w.heap → (Builtin.firstCells 1 i (.slice (some ⟨g, 0, none⟩) i cap)).run Try.prog w' = .ok ((zs.map (Value.int .i64)).take i).toArray w' := by
        intro w' hw'
        refine run_firstCells_some (P := Try.prog) w' 1 i ⟨g, 0, none⟩ i cap _ (by simp; omega) (fun j v hj => ?_)
        rw [Addr.add_lit, Nat.zero_add, cell_of_heap hw']
        refine hS.cell 1 rfl j ?_
        rw [← c2, List.getElem?_take] at hj
        split at hj
        · rw [List.getElem?_take] at hj
          split at hj
          · exact hj
          · cases hj
        · cases hj
      have HOLD := Lib.hid hold
      have HSR2 := Lib.hid hsr2
      have hii : i + (n + 1 - i) = n + 1 := by omega
      have hy1 : (n : Int) + 1 - (i : Int) = ((n + 1 - i : Nat) : Int) := by omega
      have HC := Lib.hid (And.intro c1 c2)
      have HN := Lib.hid (And.intro hne hzl)
      clear h1c c1 c2 hne hseg hzl hsr hold hsr2 HSR hw1
      go_enter Try.func76, Try.ntmps76
      have hw1 : IntKind.i64.wrap ((i : Int) + 1) = (i : Int) + 1 := by rw [IntKind.wrap_i64]; omega
      go_wp2_with (first | ((with_reducible show WGd ..); (with_reducible apply wpA_guard); exact rfl; skip) | ((with_reducible apply wpA_appendZ hS (m := n + 1 - i) (z := .int .i64 0) (size := 1) (bytes := 8) (old := (zs.map (Value.int .i64)).take i)); exact rfl; exact rfl; exact Try.underlying25; exact Try.underlying3; kernel_rfl; exact rfl; exact (by decide); exact (by omega); exact (by omega); exact (by unfold maxLen; omega); exact (by omega); exact (by simp [HN.out.2]; omega); exact HOLD.out; intro g2 cap2 cu wx k1 k2 k3 k4 hS; rw [hii]; have K34 := Lib.hid (And.intro k3 k4); have hl1 : i + 1 ≤ cu.length := (by rw [k3]; omega); clear k3 k4; (try simp only [Act.put, List.setIfInBounds_toArray, List.set_cons_zero, List.set_cons_succ])) | ((with_reducible show wpList _ _ _ (⟨_, .call ⟨.builtin .copy, _, _⟩, _, _, _, none⟩ :: _) _ _); (with_reducible apply wpA_copy hS 0 (n := 1) (size := 1) (cs := [.int .i64 x])); exact rfl; exact rfl; exact rfl; exact Try.underlying25; kernel_rfl; exact (by simp only [Nat.min_def]; split <;> omega); exact rfl; exact (fun q v hq => by rw [Addr.add_lit, Nat.zero_add]; exact hS.cell 1 rfl q hq); exact (H1.out [x]); exact hl1; intro wx hS; (try simp only [Act.put, List.setIfInBounds_toArray, List.set_cons_zero, List.set_cons_succ])) | ((with_reducible show WLd ..); (with_reducible apply wpA_load); exact rfl; (first | ((with_reducible apply St.cellI hS); (focus repeat constructor); exact rfl) | assumption); kernel_rfl) | ((with_reducible show WSt ..); (with_reducible apply wpA_store1I hS); exact rfl; (focus repeat constructor); exact rfl; exact rfl; exact rfl; exact rfl; kernel_rfl; intro wx hS; (try simp only [Act.put, List.setIfInBounds_toArray, List.set_cons_zero, List.set_cons_succ]); (try simp only [Act.eval, Array.getD_eq_getD_getElem?, List.getElem?_toArray, List.getElem?_cons_succ, List.getElem?_cons_zero, Option.getD_some, List.set_cons_succ, List.set_cons_zero, Value.cells, List.toList_toArray] at hS)) | ((with_reducible show WBx ..); (with_reducible apply wpA_box hS); exact rfl; exact rfl; intro _ wx hS; (try simp only [Act.put, List.setIfInBounds_toArray, List.set_cons_zero, List.set_cons_succ]); (try simp only [Act.eval, Array.getD_eq_getD_getElem?, List.getElem?_toArray, List.getElem?_cons_succ, List.getElem?_cons_zero, Option.getD_some, List.set_cons_succ, List.set_cons_zero, Value.cells, List.toList_toArray] at hS)))
      simp only [List.set_cons_zero] at hS
      obtain ⟨cur1, hc1⟩ : ∃ c, c = cu.take i ++ [Value.int .i64 x] ++ cu.drop (i + [Value.int .i64 x].length) := ⟨_, rfl⟩
      rw [← hc1] at hS
      have HC1 := Lib.hid hc1
      have hl2 : cur1.length = cap2 := by
        rw [hc1]
        simp only [List.length_append, List.length_take, List.length_cons, List.length_nil, List.length_drop, K34.out.1]
        omega
      have HL2 := Lib.hid hl2
      have hb7 : ¬ cap2 = i + 1 := by omega
      clear hc1 hl2
      refine wp_region_E 8 hS (by kernel_rfl) (fun _ hR hS => ?_)
      simp only [List.length_cons, List.length_nil, Nat.reduceAdd]
      refine takeP_val (i := 0) ?_ rfl (by exact rfl) (by kernel_rfl) (fun _ _ _ h => h) ?_ hR (fun hR => ?_)
      rotate_left
      · intro w; go_simp; (first | done | (with_reducible rfl) | (refine (if_pos ?_).trans ?_; (focus omega); with_reducible rfl) | skip)
      (simp only [Act.put, List.setIfInBounds_toArray, List.set_cons_zero, List.set_cons_succ])
      refine takeP_val (i := 1) ?_ rfl (by exact rfl) (by kernel_rfl) (fun _ _ _ h => h) ?_ hR (fun hR => ?_)
      rotate_left
      · intro w; go_simp; (first | done | (with_reducible rfl) | (refine (if_pos ?_).trans ?_; (focus omega); with_reducible rfl) | skip)
      (simp only [Act.put, List.setIfInBounds_toArray, List.set_cons_zero, List.set_cons_succ])
      refine takeP_val (i := 2) ?_ rfl (by exact rfl) (by kernel_rfl) (fun _ _ _ h => h) ?_ hR (fun hR => ?_)
      rotate_left
      · intro w; go_simp; (first | done | (with_reducible rfl) | (refine (if_pos ?_).trans ?_; (focus omega); with_reducible rfl) | skip)
      (simp only [Act.put, List.setIfInBounds_toArray, List.set_cons_zero, List.set_cons_succ])
      refine takeP_val (i := 3) ?_ rfl (by exact rfl) (by kernel_rfl) (fun _ _ _ h => h) ?_ hR (fun hR => ?_)
      rotate_left
      · intro w; go_simp; (first | done | (with_reducible rfl) | (refine (if_pos ?_).trans ?_; (focus omega); with_reducible rfl) | skip)
      (simp only [Act.put, List.setIfInBounds_toArray, List.set_cons_zero, List.set_cons_succ])
      refine takeP_val (i := 4) ?_ rfl (by exact rfl) (by kernel_rfl) (fun _ _ _ h => h) ?_ hR (fun hR => ?_)
      rotate_left
      · intro w; go_simp; (first | done | (with_reducible rfl) | (refine (if_pos ?_).trans ?_; (focus omega); with_reducible rfl) | skip)
      (simp only [Act.put, List.setIfInBounds_toArray, List.set_cons_zero, List.set_cons_succ])
      refine takeP_val (i := 5) ?_ rfl (by exact rfl) (by kernel_rfl) (fun _ _ _ h => h) ?_ hR (fun hR => ?_)
      rotate_left
      · intro w; go_simp; (first | done | (with_reducible rfl) | (refine (if_pos ?_).trans ?_; (focus omega); with_reducible rfl) | skip)
      (simp only [Act.put, List.setIfInBounds_toArray, List.set_cons_zero, List.set_cons_succ])
      refine takeP_val (i := 6) ?_ rfl (by exact rfl) (by kernel_rfl) (fun _ _ _ h => h) ?_ hR (fun hR => ?_)
      rotate_left
      · intro w; go_simp; (first | done | (with_reducible rfl) | (refine (if_pos ?_).trans ?_; (focus omega); with_reducible rfl) | skip)
      (simp only [Act.put, List.setIfInBounds_toArray, List.set_cons_zero, List.set_cons_succ])
      refine takeP_val (i := 7) ?_ rfl (by exact rfl) (by kernel_rfl) (fun _ _ _ h => h) ?_ hR (fun hR => ?_)
      rotate_left
      · intro w; go_simp; (first | done | (with_reducible rfl) | (refine (if_pos ?_).trans ?_; (focus omega); with_reducible rfl) | skip)
      (simp only [Act.put, List.setIfInBounds_toArray, List.set_cons_zero, List.set_cons_succ])
      refine oneE (i := 8) (by kernel_rfl) rfl (by exact rfl) (fun K_ hK_ => ?_)
      (refine opA_copy hS 0 (n := n - i) (size := 1) (cs := (zs.drop i).map (Value.int .i64)) rfl rfl rfl Try.underlying25 (by kernel_rfl) (by simp only [Nat.min_def]; split <;> omega) (by simp [HN.out.2]) (HSR2.out _ _ _ _ HC.out.2 hS) (H1.out _) (by simp [HL2.out, HN.out.2]; omega) ?_; intro wx hS)
      refine hK_ _ _ (fun h => by cases h) ?_; clear hK_ K_
      (simp only [Act.put, List.setIfInBounds_toArray, List.set_cons_zero, List.set_cons_succ])
      refine wpAnyR_done (by kernel_rfl) ?_ _
      go_wp2_with (first | ((with_reducible show WGd ..); (with_reducible apply wpA_guard); exact rfl; skip) | ((with_reducible show WLd ..); (with_reducible apply wpA_load); exact rfl; (first | ((with_reducible apply St.cellI hS); (focus repeat constructor); exact rfl) | assumption); kernel_rfl) | ((with_reducible show WSt ..); (with_reducible apply wpA_store1I hS); exact rfl; (focus repeat constructor); exact rfl; exact rfl; exact rfl; exact rfl; kernel_rfl; intro wx hS; (try simp only [Act.put, List.setIfInBounds_toArray, List.set_cons_zero, List.set_cons_succ]); (try simp only [Act.eval, Array.getD_eq_getD_getElem?, List.getElem?_toArray, List.getElem?_cons_succ, List.getElem?_cons_zero, Option.getD_some, List.set_cons_succ, List.set_cons_zero, Value.cells, List.toList_toArray] at hS)) | ((with_reducible show WBx ..); (with_reducible apply wpA_box hS); exact rfl; exact rfl; intro _ wx hS; (try simp only [Act.put, List.setIfInBounds_toArray, List.set_cons_zero, List.set_cons_succ]); (try simp only [Act.eval, Array.getD_eq_getD_getElem?, List.getElem?_toArray, List.getElem?_cons_succ, List.getElem?_cons_zero, Option.getD_some, List.set_cons_succ, List.set_cons_zero, Value.cells, List.toList_toArray] at hS)))
      go_ret
      simp only [List.set_cons_zero] at hS
      obtain ⟨cur2, hc2⟩ : ∃ c, c = cur1.take (i + 1) ++ (zs.drop i).map (Value.int .i64) ++ cur1.drop (i + 1 + ((zs.drop i).map (Value.int .i64)).length) := ⟨_, rfl⟩
      rw [← hc2] at hS
      rw [List.map_drop] at hc2
      have hfin := ins_grow (xs := zs.map (Value.int .i64)) (x := [Value.int .i64 x]) (N := n) (k := 1) (I := i) (by rw [K34.out.1]; omega) (by have := K34.out.2; rwa [Nat.mul_one] at this) (by simp [HN.out.2]) rfl (by omega) HC1.out hc2
      obtain ⟨f1, f2, f3⟩ := hfin
      refine ⟨_, _, rfl, ?_⟩
      rw [List.map_append, List.map_append, List.map_take, List.map_drop]
      have hS2 := hS.cellsRow 0 rfl (size := 1) (n := n + 1) (cap := cap2) (xs := (zs.map (Value.int .i64)).take i ++ [Value.int .i64 x] ++ (zs.map (Value.int .i64)).drop i) (by rw [f2, K34.out.1]) (by rw [Nat.mul_one]; exact f1) (by omega) k2
      exact ((hS2).sel [0] 3 (by decide) (by decide) (by simp))
end Go.Proofs.Ytelbpnlpmaihhaa
