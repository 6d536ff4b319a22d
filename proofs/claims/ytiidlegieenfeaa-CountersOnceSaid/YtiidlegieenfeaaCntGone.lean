/-
  Gone, walked.
-/
import Derived.Test.YtiidlegieenfeaaCntOps
import Derived.Test.YtiidlegieenfeaaIterC
import Derived.Test.YtiidlegieenfeaaMapIter
import Derived.Deep.LoopGhost
namespace Go.Proofs.Ytiidlegieenfeaa
set_option linter.unusedVariables false
set_option linter.unusedSimpArgs false
open Go.RowKit

def dropM (s : Int) (x : ByteArray × OM) : ByteArray × OM := (x.1, ⟨x.2.blk, x.2.qa, x.2.qc, ⟨x.2.s.n, dropF x.2.s.q s⟩⟩)
theorem dropM_kv (s : Int) (x : ByteArray × OM) : kvO (dropM s x) = kvO x := rfl
theorem dropM_dat (s : Int) (x : ByteArray × OM) : datO (dropM s x) = dropO s (datO x) := rfl

def goneD (σ : CntS) (s : Int) : List RepS × CntS := ((goneF s (sortB (σ.o.map (·.1))) σ.o).1, ⟨σ.g.map (dropO s), (goneF s (sortB (σ.o.map (·.1))) σ.o).2⟩)

theorem pickL {L0 : List (ByteArray × OM)} {j : Nat} {z : ByteArray × OM} (hz : L0[j]? = some z) (F1 Y : List Hp) : (F1 ++ (L0.flatMap ghp ++ Y)).Perm (zc 71 z.2.blk z.2.qa z.2.qc z.2.s :: zr z.2.qa z.2.qc z.2.s :: (F1 ++ ((L0.eraseIdx j).flatMap ghp ++ Y))) := by
  have h1 : (L0.flatMap ghp ++ Y).Perm (ghp z ++ ((L0.eraseIdx j).flatMap ghp ++ Y)) := ((flat_out hz).append_right Y).trans (by rw [List.append_assoc])
  exact (h1.append_left F1).trans (swapL _ _ _)

section
variable {κ α : Type} [DecidableEq κ]
theorem aget_of_mem {l : List (κ × α)} {k : κ} (h : k ∈ l.map (·.1)) : ∃ v, aget l k = some v := by
  cases hx : aget l k with
  | some v => exact ⟨v, rfl⟩
  | none =>
    obtain ⟨x, hx1, hx2⟩ := List.mem_map.1 h
    exact absurd hx2 (aidx_none (aget_none_idx hx) x hx1)
theorem aput_keys_some {l : List (κ × α)} {k : κ} {v v' : α} (h : aget l k = some v) : (aput l k v').map (·.1) = l.map (·.1) := by rw [aput_keys, h]; rfl
theorem adel_keys {l : List (κ × α)} {k : κ} {v : α} (h : aget l k = some v) : (l.map (·.1)).Perm (k :: (adel l k).map (·.1)) := by
  obtain ⟨i, h1, h2⟩ := aget_idx h
  have e : adel l k = l.eraseIdx i := by unfold adel; rw [h1]
  rw [e]
  exact ((perm_front l i (k, v) h2).symm.map (·.1))
theorem mem_aput {l : List (κ × α)} {k : κ} {v : α} {x : κ × α} (h : x ∈ aput l k v) : x ∈ l ∨ x = (k, v) := by
  unfold aput at h
  split at h
  · rcases List.mem_append.1 h with h | h
    · exact .inl h
    · exact .inr (by simpa using h)
  · exact List.mem_or_eq_of_mem_set h
theorem mem_adel {l : List (κ × α)} {k : κ} {x : κ × α} (h : x ∈ adel l k) : x ∈ l := by
  unfold adel at h
  split at h
  · exact h
  · exact List.mem_of_mem_eraseIdx h
end

/-- Where the onces are, behind the first i names. -/
structure GoneI (s : Int) (o0 : List (ByteArray × OS)) (N : List ByteArray) (i : Nat) (rs : List RepS) (o : List (ByteArray × OS)) : Prop where
  eq : (N.take i).foldl (goneO s) ([], o0) = (rs, o)
  keys : ∃ rest, (o.map (·.1)).Perm (N.drop i ++ rest)
  qs : ∀ x ∈ o, x.2.q.length ≤ 100000000
  len : rs.length ≤ i

theorem GoneI.start {s : Int} {o0 : List (ByteArray × OS)} {N : List ByteArray} (h : (o0.map (·.1)).Perm N) (hq : ∀ x ∈ o0, x.2.q.length ≤ 100000000) : GoneI s o0 N 0 [] o0 :=
  ⟨rfl, ⟨[], by simpa using h⟩, hq, Nat.le_refl _⟩

theorem GoneI.at_ {s : Int} {o0 o : List (ByteArray × OS)} {N : List ByteArray} {i : Nat} {rs : List RepS} (h : GoneI s o0 N i rs o) {nm : ByteArray} (hn : N[i]? = some nm) : ∃ x, aget o nm = some x ∧ x.q.length ≤ 100000000 := by
  obtain ⟨rest, hk⟩ := h.keys
  obtain ⟨x, hx⟩ := aget_of_mem (l := o) (k := nm) (hk.symm.subset (List.mem_append_left _ (List.mem_of_getElem? (by rw [List.getElem?_drop, Nat.add_zero]; exact hn))))
  exact ⟨x, hx, h.qs _ (aget_mem hx)⟩

theorem GoneI.step {s : Int} {o0 o : List (ByteArray × OS)} {N : List ByteArray} {i : Nat} {rs : List RepS} (h : GoneI s o0 N i rs o) {nm : ByteArray} (hn : N[i]? = some nm) {rs' : List RepS} {o' : List (ByteArray × OS)} (he : goneO s (rs, o) nm = (rs', o')) : GoneI s o0 N (i + 1) rs' o' := by
  obtain ⟨x, hx, hq⟩ := h.at_ hn
  obtain ⟨rest, hk⟩ := h.keys
  have hd : N.drop i = nm :: N.drop (i + 1) := by
    obtain ⟨hl, e⟩ := List.getElem?_eq_some_iff.1 hn
    rw [List.drop_eq_getElem_cons hl, e]
  rw [hd] at hk
  have hl := h.len
  refine ⟨?_, ?_, ?_, ?_⟩
  · rw [List.take_add_one, hn, List.foldl_append, h.eq]
    simpa using he
  all_goals (simp only [goneO, hx] at he; split at he)
  · cases he
    exact ⟨nm :: rest, by rw [aput_keys_some hx]; exact hk.trans (List.perm_middle.symm)⟩
  · split at he
    · cases he
      exact ⟨rest, ((adel_keys hx).symm.trans hk).cons_inv⟩
    · cases he
      exact ⟨nm :: rest, by rw [aput_keys_some hx]; exact hk.trans (List.perm_middle.symm)⟩
  · cases he
    intro y hy
    rcases mem_aput hy with hy | rfl
    · exact h.qs y hy
    · exact Nat.le_trans (dropF_len _ _) hq
  · split at he
    · cases he
      exact fun y hy => h.qs y (mem_adel hy)
    · rename_i w0 r0 hd0
      cases he
      intro y hy
      rcases mem_aput hy with hy | rfl
      · exact h.qs y hy
      · have := dropF_len x.q s
        rw [hd0] at this
        simp at this
        show r0.length ≤ _
        omega
  · cases he; omega
  · split at he
    · cases he; omega
    · cases he; simp; omega

theorem qw_one : ∀ (l : List QW), ∀ u ∈ l.flatMap QW.cells, u.oneCell' = true := by
  intro l u hu
  obtain ⟨r, _, hr⟩ := List.mem_flatMap.1 hu
  simp [QW.cells] at hr
  rcases hr with rfl | rfl <;> rfl

theorem rowsF (A : List Hp) (r1 r2 : Hp) (X R : List Hp) : (A ++ (X ++ (r1 :: r2 :: R))).Perm (r1 :: r2 :: (A ++ (X ++ R))) :=
  (List.Perm.append_left A (swapL X [r1, r2] R)).trans (swapL A [r1, r2] (X ++ R))

theorem q_first {w : World} {g n cap : Nat} {y : QW} {q : List QW} (h : Hp.on w (.row 78 2 (some ⟨g, 0, none⟩) n cap ((y :: q).flatMap QW.cells))) : w.rangeAt g 0 [.int .i64 y.session, .int .i64 y.seq] :=
  row_range h (fun i v hv => by
    rw [List.flatMap_cons, List.getElem?_append_left (by have := (List.getElem?_eq_some_iff.1 hv).1; simpa [QW.cells] using this), Nat.zero_add]; exact hv)

set_option maxRecDepth 100000 in
set_option maxHeartbeats 4000000 in
theorem gone_c (w0 w : World) (R : List Hp) (p : Nat) (σ : CntS) (s : Int) (h : CntSt w0 w p σ R) (ok : σ.ok 100000000) :
    Calls Try.prog 14 #[.pointer (some ⟨p, 0, none⟩), .int .i64 s] w (CntP w0 p R (goneD σ s)) := by
  obtain ⟨mg, mo, G, O, hG, hO, hS⟩ := h
  have hgq : ∀ z ∈ G, z.2.s.q.length ≤ 1000000000 := fun z hz => by
    have := (ok.g0 (datO z) (by rw [← hG]; exact List.mem_map.2 ⟨z, hz, rfl⟩)).2.2
    simp only [datO] at this; omega
  have HGQ := Lib.hid hgq
  have HG := Lib.hid (And.intro hG hO)
  clear hgq hG hO
  go_enter Try.func14, Try.ntmps14
  go_upto_block 0 with (first | ((with_reducible show WGd ..); (with_reducible apply wpA_guard); exact rfl; skip) | ((with_reducible show wpList _ _ _ (⟨_, .range _ _, _, _, _, none⟩ :: _) _ _); (with_reducible apply wpA_range hS 1); exact rfl; exact rfl; exact Try.underlying62; intro r wx hS; (try simp only [Act.put, List.setIfInBounds_toArray, List.set_cons_zero, List.set_cons_succ])) | ((with_reducible show WLd ..); (with_reducible apply wpA_load); exact rfl; (first | ((with_reducible apply St.cellI hS); (focus repeat constructor); exact rfl) | assumption); kernel_rfl) | ((with_reducible show WSt ..); (with_reducible apply wpA_store1I hS); exact rfl; (focus repeat constructor); exact rfl; exact rfl; exact rfl; exact rfl; kernel_rfl; intro wx hS; (try simp only [Act.put, List.setIfInBounds_toArray, List.set_cons_zero, List.set_cons_succ]); (try simp only [Act.eval, Array.getD_eq_getD_getElem?, List.getElem?_toArray, List.getElem?_cons_succ, List.getElem?_cons_zero, Option.getD_some, List.set_cons_succ, List.set_cons_zero, Value.cells, List.toList_toArray] at hS)) | ((with_reducible show WBx ..); (with_reducible apply wpA_box hS); exact rfl; exact rfl; intro _ wx hS; (try simp only [Act.put, List.setIfInBounds_toArray, List.set_cons_zero, List.set_cons_succ]); (try simp only [Act.eval, Array.getD_eq_getD_getElem?, List.getElem?_toArray, List.getElem?_cons_succ, List.getElem?_cons_zero, Option.getD_some, List.set_cons_succ, List.set_cons_zero, Value.cells, List.toList_toArray] at hS)))
  go_cut [] (fun wr => St w0 wr (cc p mg mo :: .mp mg .string (G.map kvO) :: .mp mo .string (O.map kvO) :: ((G.map (dropM s)).flatMap ghp ++ (O.flatMap ohp ++ R))))
  case first =>
    go_wp2_with (first | ((with_reducible show WGd ..); (with_reducible apply wpA_guard); exact rfl; skip) | ((with_reducible show WLd ..); (with_reducible apply wpA_load); exact rfl; (first | ((with_reducible apply St.cellI hS); (focus repeat constructor); exact rfl) | assumption); kernel_rfl) | ((with_reducible show WSt ..); (with_reducible apply wpA_store1I hS); exact rfl; (focus repeat constructor); exact rfl; exact rfl; exact rfl; exact rfl; kernel_rfl; intro wx hS; (try simp only [Act.put, List.setIfInBounds_toArray, List.set_cons_zero, List.set_cons_succ]); (try simp only [Act.eval, Array.getD_eq_getD_getElem?, List.getElem?_toArray, List.getElem?_cons_succ, List.getElem?_cons_zero, Option.getD_some, List.set_cons_succ, List.set_cons_zero, Value.cells, List.toList_toArray] at hS)) | ((with_reducible show WBx ..); (with_reducible apply wpA_box hS); exact rfl; exact rfl; intro _ wx hS; (try simp only [Act.put, List.setIfInBounds_toArray, List.set_cons_zero, List.set_cons_succ]); (try simp only [Act.eval, Array.getD_eq_getD_getElem?, List.getElem?_toArray, List.getElem?_cons_succ, List.getElem?_cons_zero, Option.getD_some, List.set_cons_succ, List.set_cons_zero, Value.cells, List.toList_toArray] at hS)))
    go_loopg [] G.length (fun gk wr => ∃ (D0 L0 : List (ByteArray × OM)) (cur : Option (Value × Value)), (D0 ++ L0).Perm G ∧ L0.length ≤ gk ∧
      St w0 wr (cc p mg mo :: .mpi mg .string (G.map kvO) r (L0.map kvO) cur :: .mp mo .string (O.map kvO) :: ((D0.map (dropM s)).flatMap ghp ++ (L0.flatMap ghp ++ (O.flatMap ohp ++ R)))))
    case atStart => exact ⟨[], G, none, by simp, Nat.le_refl _, hS⟩
    case round =>
      clear hS
      obtain ⟨D0, L0, cur, hp, hgk, hS⟩ := hrel
      by_cases hL : L0 = []
      · subst hL
        go_wp2_with (first | ((with_reducible show WGd ..); (with_reducible apply wpA_guard); exact rfl; skip) | ((with_reducible show wpList _ _ _ (⟨_, .next _ _, _, _, _, none⟩ :: _) _ _); (with_reducible apply wpA_next hS 1); exact rfl; exact rfl; rotate_left; (intro j p wx hj; simp at hj); intro _; replace hS := hS.unrange 1 rfl; (try simp only [Act.put, List.setIfInBounds_toArray, List.set_cons_zero, List.set_cons_succ])) | ((with_reducible show WLd ..); (with_reducible apply wpA_load); exact rfl; (first | ((with_reducible apply St.cellI hS); (focus repeat constructor); exact rfl) | assumption); kernel_rfl) | ((with_reducible show WSt ..); (with_reducible apply wpA_store1I hS); exact rfl; (focus repeat constructor); exact rfl; exact rfl; exact rfl; exact rfl; kernel_rfl; intro wx hS; (try simp only [Act.put, List.setIfInBounds_toArray, List.set_cons_zero, List.set_cons_succ]); (try simp only [Act.eval, Array.getD_eq_getD_getElem?, List.getElem?_toArray, List.getElem?_cons_succ, List.getElem?_cons_zero, Option.getD_some, List.set_cons_succ, List.set_cons_zero, Value.cells, List.toList_toArray] at hS)) | ((with_reducible show WBx ..); (with_reducible apply wpA_box hS); exact rfl; exact rfl; intro _ wx hS; (try simp only [Act.put, List.setIfInBounds_toArray, List.set_cons_zero, List.set_cons_succ]); (try simp only [Act.eval, Array.getD_eq_getD_getElem?, List.getElem?_toArray, List.getElem?_cons_succ, List.getElem?_cons_zero, Option.getD_some, List.set_cons_succ, List.set_cons_zero, Value.cells, List.toList_toArray] at hS)))
        first | go_meet | (trace_state; sorry)
        rw [List.append_nil] at hp
        exact hS.perm (.cons _ (.cons _ (.cons _ (((hp.map (dropM s)).flatMap_right _).append_right _))))
      · have hne : L0.map kvO ≠ [] := by simpa using hL
        go_wp2_with (first | ((with_reducible show WGd ..); (with_reducible apply wpA_guard); exact rfl; skip) | ((with_reducible show wpList _ _ _ (⟨_, .next _ _, _, _, _, none⟩ :: _) _ _); (with_reducible apply wpA_next hS 1); exact rfl; exact rfl; (intro h0_; exact absurd h0_ hne); intro j p wx hj0 hS; rw [List.getElem?_map] at hj0; obtain ⟨z, hz, rfl⟩ := Option.map_eq_some_iff.1 hj0; replace hS := hS.perm (.cons _ (.cons _ (.cons _ (pickL hz _ _)))); simp only [erase_map] at hS; dsimp only [kvO]; (try simp only [Act.put, List.setIfInBounds_toArray, List.set_cons_zero, List.set_cons_succ])) | ((with_reducible show wpList _ _ _ (⟨_, .entry _, _, _, _, none⟩ :: _) _ _); (with_reducible apply wpA_entry hS 1); exact rfl; exact rfl; dsimp only [kvO]; (try simp only [Act.put, List.setIfInBounds_toArray, List.set_cons_zero, List.set_cons_succ])) | (go_at_call 29; go_loud (((try simp only [List.set_cons_succ, List.set_cons_zero] at hS); replace hS := hS.sel [3, 4, 0, 1, 2] 5 (by decide) (by decide) (by simp); simp only [List.filterMap_cons, List.filterMap_nil, List.getElem?_cons_succ, List.getElem?_cons_zero, List.drop_succ_cons, List.drop_zero, List.cons_append, List.nil_append] at hS)); go_loud (with_reducible refine (drop_c w0 _ _ _ z.2.blk z.2.qa z.2.qc z.2.s s hS (HGQ.out z (hp.mem_iff.1 (List.mem_append_right _ (List.mem_of_getElem? hz))))).mono ?_); go_loud (rintro _ _ ⟨rfl, hS⟩); go_loud (skip)) | ((with_reducible show WLd ..); (with_reducible apply wpA_load); exact rfl; (first | ((with_reducible apply St.cellI hS); (focus repeat constructor); exact rfl) | assumption); kernel_rfl) | ((with_reducible show WSt ..); (with_reducible apply wpA_store1I hS); exact rfl; (focus repeat constructor); exact rfl; exact rfl; exact rfl; exact rfl; kernel_rfl; intro wx hS; (try simp only [Act.put, List.setIfInBounds_toArray, List.set_cons_zero, List.set_cons_succ]); (try simp only [Act.eval, Array.getD_eq_getD_getElem?, List.getElem?_toArray, List.getElem?_cons_succ, List.getElem?_cons_zero, Option.getD_some, List.set_cons_succ, List.set_cons_zero, Value.cells, List.toList_toArray] at hS)) | ((with_reducible show WBx ..); (with_reducible apply wpA_box hS); exact rfl; exact rfl; intro _ wx hS; (try simp only [Act.put, List.setIfInBounds_toArray, List.set_cons_zero, List.set_cons_succ]); (try simp only [Act.eval, Array.getD_eq_getD_getElem?, List.getElem?_toArray, List.getElem?_cons_succ, List.getElem?_cons_zero, Option.getD_some, List.set_cons_succ, List.set_cons_zero, Value.cells, List.toList_toArray] at hS)))
        go_roundg (L0.eraseIdx j).length
        case rel =>
          refine ⟨z :: D0, L0.eraseIdx j, some (kvO z), ?_, Nat.le_refl _, ?_⟩
          · have h1 := (perm_front L0 j z hz).symm
            exact (List.perm_middle.symm.trans (.append_left _ h1.symm)).trans hp
          · ((try simp only [List.set_cons_succ, List.set_cons_zero] at hS); replace hS := hS.sel [2, 3, 4, 0, 1] 5 (by decide) (by decide) (by simp); simp only [List.filterMap_cons, List.filterMap_nil, List.getElem?_cons_succ, List.getElem?_cons_zero, List.drop_succ_cons, List.drop_zero, List.cons_append, List.nil_append] at hS)
            exact hS
        case measure =>
          have := List.length_eraseIdx_of_lt (List.getElem?_eq_some_iff.1 hz).1
          have := (List.getElem?_eq_some_iff.1 hz).1
          omega
  case rest =>
    clear hS
    have hS := hcut
    clear hcut
    have hkk : (O.map kvO).map (·.1) = (σ.o.map (·.1)).map Value.string := by
      rw [← HG.out.2, List.map_map, List.map_map, List.map_map]; rfl
    have hkl : (σ.o.map (·.1)).length ≤ 4611686018427 := by rw [List.length_map]; have := ok.lo; omega
    have hks : ∀ s ∈ σ.o.map (·.1), s.size ≤ maxLen := fun s h => by
      obtain ⟨x, h1, rfl⟩ := List.mem_map.1 h
      exact ok.no x h1
    have HK := Lib.hid (And.intro hkk hks)
    clear hkk hks
    obtain ⟨N, hN⟩ : ∃ N, sortB (σ.o.map (·.1)) = N := ⟨_, rfl⟩
    have hNp : (σ.o.map (·.1)).Perm N := by
      rw [← hN]
      unfold sortB
      have h1 := (List.mergeSort_perm ((σ.o.map (·.1)).map (·.data.toList)) leB).symm.map (fun l : List UInt8 => (⟨l.toArray⟩ : ByteArray))
      rw [List.map_map] at h1
      refine List.Perm.trans (List.Perm.of_eq ?_) h1
      conv => lhs; rw [← List.map_id (σ.o.map (·.1))]
      rfl
    have hNl : (σ.o.map (·.1)).length = N.length := hNp.length_eq
    have hsrt : ∀ (w : World) (H : List Hp), St w0 w (cc p mg mo :: .mp mg .string (G.map kvO) :: .mp mo .string (O.map kvO) :: H) → Calls Try.prog 30 #[.func (.func 66) #[] #[.pointer (some ⟨w.heap.size, 0, none⟩)]] (w.alloc (.cells #[.map (some mo)] 63)) fun e w' =>
        ∃ ao cap, e = .returned (.slice ao N.length cap) ∧ St w0 w' (.row 9 1 ao N.length cap (N.map Value.string) :: cc p mg mo :: .mp mg .string (G.map kvO) :: .mp mo .string (O.map kvO) :: H) := by
      intro w H h
      have h1 := sorted_keys_c31 h 2 rfl HK.out.1 hkl HK.out.2
      rw [hN, hNl] at h1
      exact h1
    have HSR := Lib.hid hsrt
    have HN := Lib.hid (And.intro hN hNp)
    clear hsrt hN hNp
    go_wp2_with (first | ((with_reducible show WGd ..); (with_reducible apply wpA_guard); exact rfl; skip) | (go_at_call 31; go_loud (skip); go_loud (with_reducible refine (callsIn_wide.1 (Try.maps_Keys_31 (some mo) _)).mono ?_); go_loud (rintro _ _ ⟨rfl, rfl⟩); go_loud (skip)) | (go_at_call 30; refine (HSR.out _ _ hS).mono ?_; rintro _ wx ⟨aN, capN, rfl, hS⟩) | ((with_reducible show WLd ..); (with_reducible apply wpA_load); exact rfl; (first | ((with_reducible apply St.cellI hS); (focus repeat constructor); exact rfl) | assumption); kernel_rfl) | ((with_reducible show WSt ..); (with_reducible apply wpA_store1I hS); exact rfl; (focus repeat constructor); exact rfl; exact rfl; exact rfl; exact rfl; kernel_rfl; intro wx hS; (try simp only [Act.put, List.setIfInBounds_toArray, List.set_cons_zero, List.set_cons_succ]); (try simp only [Act.eval, Array.getD_eq_getD_getElem?, List.getElem?_toArray, List.getElem?_cons_succ, List.getElem?_cons_zero, Option.getD_some, List.set_cons_succ, List.set_cons_zero, Value.cells, List.toList_toArray] at hS)) | ((with_reducible show WBx ..); (with_reducible apply wpA_box hS); exact rfl; exact rfl; intro _ wx hS; (try simp only [Act.put, List.setIfInBounds_toArray, List.set_cons_zero, List.set_cons_succ]); (try simp only [Act.eval, Array.getD_eq_getD_getElem?, List.getElem?_toArray, List.getElem?_cons_succ, List.getElem?_cons_zero, Option.getD_some, List.set_cons_succ, List.set_cons_zero, Value.cells, List.toList_toArray] at hS)))
    have hL : CntSt w0 wx p ⟨σ.g.map (dropO s), σ.o⟩ (.row 32 5 none 0 0 (([] : List RepS).flatMap RepS.cells) :: .row 9 1 aN N.length capN (N.map Value.string) :: R) := by
      refine ⟨mg, mo, G.map (dropM s), O, ?_, HG.out.2, ?_⟩
      · rw [← HG.out.1, List.map_map, List.map_map]; rfl
      · have e : (G.map (dropM s)).map kvO = G.map kvO := by rw [List.map_map]; rfl
        rw [e]
        refine (hS.nilRow 32 5).perm ((front3 [_, _] _ _ _ _).trans (.cons _ (.cons _ (.cons _ ((swapL _ _ _).trans (.append_left _ (swapL _ _ _)))))))
    have hG0 : GoneI s σ.o N 0 [] σ.o := GoneI.start HN.out.2 ok.o0
    have hNb : N.length ≤ 256 := by rw [← hNl, List.length_map]; exact ok.lo
    clear hS ok hNl hkl HG HK HGQ
    go_loopw [35, 7] (fun c out wr => ∃ (i : Nat) (rs : List RepS) (o' : List (ByteArray × OS)) (ao : Option Addr) (cap : Nat), i ≤ N.length ∧ c = .int .i64 i ∧ out = .slice ao rs.length cap ∧ Hid (GoneI s σ.o N i rs o') ∧
      CntSt w0 wr p ⟨σ.g.map (dropO s), o'⟩ (.row 32 5 ao (rs).length cap ((rs).flatMap RepS.cells) :: .row 9 1 aN N.length capN (N.map Value.string) :: R)) (fun c _ _ => N.length - (intOf c).toNat)
    case atStart => exact ⟨0, [], σ.o, none, 0, Nat.zero_le _, rfl, rfl, Lib.hid hG0, hL⟩
    case round =>
      clear hL hG0
      obtain ⟨i, rs, o', ao, cap, hi, rfl, rfl, HI, hL⟩ := hrel
      by_cases hlt : i < N.length
      · obtain ⟨nm, hnm⟩ : ∃ nm, N[i]? = some nm := ⟨_, List.getElem?_eq_getElem hlt⟩
        obtain ⟨x, hx, hq⟩ := HI.out.at_ hnm
        have hstep := fun rs' o'' => HI.out.step (rs' := rs') (o' := o'') hnm
        have hrl := HI.out.len
        have hsame : aput o' nm x = o' := aput_same hx
        rcases row_head (hL.rest.at_ 1 rfl) with ⟨_, hh, _⟩ | ⟨⟨gN, rfl⟩, _⟩
        · omega
        obtain ⟨mg2, mo2, kg, ko, blk, qa, qc, X, i2, hki, hlen, hS, hfin, hdel⟩ := once_openX hL hx
        have hcell : (N.map Value.string)[i]? = some (.string nm) := by rw [List.getElem?_map, hnm]; rfl
        have HC := Lib.hid hcell
        have HF := Lib.hid hfin
        have HD := Lib.hid hdel
        have HST := Lib.hid hstep
        have HX := Lib.hid hx
        obtain ⟨m, q⟩ := x
        simp only at hq
        clear hL hnm hx hcell hfin hdel hstep hsame HI hlen
        replace hS := hS.perm (rowsF [_, _, _, _, _] _ _ _ _)
        simp only [List.cons_append, List.nil_append] at hS
        by_cases c1 : m = s
        · have hms : (m != s) = false := by simpa using c1
          have C1 := Lib.hid c1
          clear c1
          by_cases c2 : s = 0
          · have hs0 : (s == 0) = true := by simpa using c2
            have C2 := Lib.hid c2
            clear c2
            go_wp2_with (first | ((with_reducible show WGd ..); (with_reducible apply wpA_guard); exact rfl; skip) | ((with_reducible show WLd ..); (with_reducible apply wpA_load); exact rfl; exact row_cell (hS.at_ 1 rfl) i HC.out; kernel_rfl) | ((with_reducible apply wpA_lookup hS 4 (z := .pointer none) (r := some (.pointer (some ⟨blk, 0, none⟩)))); exact rfl; exact rfl; exact rfl; exact Try.underlying63; exact Try.underlying9; exact trivial; kernel_rfl; exact ⟨i2, hki⟩; dsimp only [Option.getD, Option.isSome, if_true, Bool.false_eq_true, if_false]) | (go_at_call 29; go_loud (((try simp only [List.set_cons_succ, List.set_cons_zero] at hS); replace hS := hS.sel [5, 6, 0, 1, 2, 3, 4] 7 (by decide) (by decide) (by simp); simp only [List.filterMap_cons, List.filterMap_nil, List.getElem?_cons_succ, List.getElem?_cons_zero, List.drop_succ_cons, List.drop_zero, List.cons_append, List.nil_append] at hS)); go_loud (with_reducible refine (drop_c w0 _ _ 76 blk qa qc ⟨m, q⟩ s hS (Nat.le_trans hq (by decide))).mono ?_); go_loud (rintro _ _ ⟨rfl, hS⟩); go_loud (skip)) | ((with_reducible show WLd ..); (with_reducible apply wpA_load); exact rfl; (first | ((with_reducible apply St.cellI hS); (focus repeat constructor); exact rfl) | assumption); kernel_rfl) | ((with_reducible show WSt ..); (with_reducible apply wpA_store1I hS); exact rfl; (focus repeat constructor); exact rfl; exact rfl; exact rfl; exact rfl; kernel_rfl; intro wx hS; (try simp only [Act.put, List.setIfInBounds_toArray, List.set_cons_zero, List.set_cons_succ]); (try simp only [Act.eval, Array.getD_eq_getD_getElem?, List.getElem?_toArray, List.getElem?_cons_succ, List.getElem?_cons_zero, Option.getD_some, List.set_cons_succ, List.set_cons_zero, Value.cells, List.toList_toArray] at hS)) | ((with_reducible show WBx ..); (with_reducible apply wpA_box hS); exact rfl; exact rfl; intro _ wx hS; (try simp only [Act.put, List.setIfInBounds_toArray, List.set_cons_zero, List.set_cons_succ]); (try simp only [Act.eval, Array.getD_eq_getD_getElem?, List.getElem?_toArray, List.getElem?_cons_succ, List.getElem?_cons_zero, Option.getD_some, List.set_cons_succ, List.set_cons_zero, Value.cells, List.toList_toArray] at hS)))
            first | go_roundw | (trace_state; sorry)
            case rel =>
              refine ⟨i + 1, rs, aput o' nm ⟨m, dropF q s⟩, ao, cap, by omega, by go_num, rfl, Lib.hid (HST.out _ _ ?_), ?_⟩
              · simp only [goneO, HX.out]
                rw [if_pos (.inr C2.out)]
              · ((try simp only [List.set_cons_succ, List.set_cons_zero] at hS); replace hS := hS.sel [2, 3, 4, 5, 6, 0, 1] 7 (by decide) (by decide) (by simp); simp only [List.filterMap_cons, List.filterMap_nil, List.getElem?_cons_succ, List.getElem?_cons_zero, List.drop_succ_cons, List.drop_zero, List.cons_append, List.nil_append] at hS)
                exact HF.out _ ⟨m, dropF q s⟩ qa qc _ (hS.perm (rowsF [_, _, _, _, _] _ _ _ _).symm)
            case measure => simp [intOf]; omega
          · have hs0 : (s == 0) = false := by simpa using c2
            cases hdq : dropF q s with
            | nil =>
              have hle : (((dropF q s).length : Int) == 0) = true := by rw [hdq]; rfl
              have HDQ := Lib.hid hdq
              clear hdq
              go_wp2_with (first | ((with_reducible show WGd ..); (with_reducible apply wpA_guard); exact rfl; skip) | ((with_reducible show WLd ..); (with_reducible apply wpA_load); exact rfl; exact row_cell (hS.at_ 1 rfl) i HC.out; kernel_rfl) | ((with_reducible apply wpA_lookup hS 4 (z := .pointer none) (r := some (.pointer (some ⟨blk, 0, none⟩)))); exact rfl; exact rfl; exact rfl; exact Try.underlying63; exact Try.underlying9; exact trivial; kernel_rfl; exact ⟨i2, hki⟩; dsimp only [Option.getD, Option.isSome, if_true, Bool.false_eq_true, if_false]) | (go_at_call 29; go_loud (((try simp only [List.set_cons_succ, List.set_cons_zero] at hS); replace hS := hS.sel [5, 6, 0, 1, 2, 3, 4] 7 (by decide) (by decide) (by simp); simp only [List.filterMap_cons, List.filterMap_nil, List.getElem?_cons_succ, List.getElem?_cons_zero, List.drop_succ_cons, List.drop_zero, List.cons_append, List.nil_append] at hS)); go_loud (with_reducible refine (drop_c w0 _ _ 76 blk qa qc ⟨m, q⟩ s hS (Nat.le_trans hq (by decide))).mono ?_); go_loud (rintro _ _ ⟨rfl, hS⟩); go_loud (skip)) | ((with_reducible show WDe ..); (with_reducible apply wpA_delete hS 6); exact rfl; exact rfl; exact rfl; exact Try.underlying63; exact Try.underlying9; exact trivial; exact (.inr ⟨i2, _, hki, rfl⟩); intro wx hS; (try simp only [Act.put, List.setIfInBounds_toArray, List.set_cons_zero, List.set_cons_succ])) | ((with_reducible show WLd ..); (with_reducible apply wpA_load); exact rfl; (first | ((with_reducible apply St.cellI hS); (focus repeat constructor); exact rfl) | assumption); kernel_rfl) | ((with_reducible show WSt ..); (with_reducible apply wpA_store1I hS); exact rfl; (focus repeat constructor); exact rfl; exact rfl; exact rfl; exact rfl; kernel_rfl; intro wx hS; (try simp only [Act.put, List.setIfInBounds_toArray, List.set_cons_zero, List.set_cons_succ]); (try simp only [Act.eval, Array.getD_eq_getD_getElem?, List.getElem?_toArray, List.getElem?_cons_succ, List.getElem?_cons_zero, Option.getD_some, List.set_cons_succ, List.set_cons_zero, Value.cells, List.toList_toArray] at hS)) | ((with_reducible show WBx ..); (with_reducible apply wpA_box hS); exact rfl; exact rfl; intro _ wx hS; (try simp only [Act.put, List.setIfInBounds_toArray, List.set_cons_zero, List.set_cons_succ]); (try simp only [Act.eval, Array.getD_eq_getD_getElem?, List.getElem?_toArray, List.getElem?_cons_succ, List.getElem?_cons_zero, Option.getD_some, List.set_cons_succ, List.set_cons_zero, Value.cells, List.toList_toArray] at hS)))
              first | go_roundw | (trace_state; sorry)
              case rel =>
                refine ⟨i + 1, rs, adel o' nm, ao, cap, by omega, by go_num, rfl, Lib.hid (HST.out _ _ ?_), ?_⟩
                · simp only [goneO, HX.out]
                  rw [if_neg (by rintro (h | h); exact h C1.out; exact c2 h), HDQ.out]
                · ((try simp only [List.set_cons_succ, List.set_cons_zero] at hS); replace hS := hS.sel [2, 3, 4, 5, 6] 7 (by decide) (by decide) (by simp); simp only [List.filterMap_cons, List.filterMap_nil, List.getElem?_cons_succ, List.getElem?_cons_zero, List.drop_succ_cons, List.drop_zero, List.cons_append, List.nil_append] at hS)
                  exact HD.out _ _ (hS.perm (rowsF [_, _, _] _ _ _ _).symm)
              case measure => simp [intOf]; omega
            | cons y q' =>
              have hql : q'.length + 1 ≤ q.length := by have := dropF_len q s; rw [hdq] at this; simpa using this
              rcases row_head (hS.at_ 6 rfl) with ⟨_, hh, _⟩ | ⟨⟨gq, rfl⟩, hqc⟩
              · simp only at hh; omega
              simp only at hqc
              have hdr : ∀ (w : World) (H : List Hp), St w0 w (zc 76 blk (some ⟨gq, 0, none⟩) qc ⟨m, q⟩ :: zr (some ⟨gq, 0, none⟩) qc ⟨m, q⟩ :: H) → Calls Try.prog 29 #[.pointer (some ⟨blk, 1, none⟩), .int .i64 s] w fun e w' => e = .returned (.tuple #[]) ∧
                  St w0 w' (.cells blk [.int .i64 m, .slice (some ⟨gq, 0, none⟩) (q'.length + 1) qc] 76 :: .row 78 2 (some ⟨gq, 0, none⟩) (q'.length + 1) qc ((y :: q').flatMap QW.cells) :: H) := by
                intro w H h
                have h1 := drop_c w0 w H 76 blk _ qc ⟨m, q⟩ s h (Nat.le_trans hq (by decide))
                simp only [hdq] at h1
                exact h1
              have hsrc : ∀ (A B : Hp) (H : List Hp) (c : Nat) (ad : Addr), (q'.length = 0 ∨ ad = ⟨gq, 2, none⟩) → ∀ w, St w0 w (A :: B :: .row 78 2 (some ⟨gq, 0, none⟩) (q'.length + 1) qc ((y :: q').flatMap QW.cells) :: H) →
                  Src Try.prog w 2 (.slice (some ad) q'.length c) q'.length (q'.flatMap QW.cells) := fun A B H c ad had w h => by
                have := Src.from_ (P := Try.prog) (k := 1) (m := q'.length) (c := c) (ad := ad) (h.at_ 2 rfl) (by omega) (by simpa using had) (qw_one _)
                simpa [List.flatMap_cons, QW.cells] using this
              have HDR := Lib.hid hdr
              have HSRC := Lib.hid hsrc
              have HDQ := Lib.hid hdq
              clear hdr hsrc hdq
              by_cases hqc1 : qc = 1
              · subst hqc1
                obtain rfl : q' = [] := List.eq_nil_of_length_eq_zero (by omega)
                go_wp2_with (first | ((with_reducible show WGd ..); (with_reducible apply wpA_guard); exact rfl; skip) | ((with_reducible show WLd ..); (with_reducible apply wpA_load); exact rfl; exact row_cell (hS.at_ 1 rfl) i HC.out; kernel_rfl) | ((with_reducible apply wpA_lookup hS 4 (z := .pointer none) (r := some (.pointer (some ⟨blk, 0, none⟩)))); exact rfl; exact rfl; exact rfl; exact Try.underlying63; exact Try.underlying9; exact trivial; kernel_rfl; exact ⟨i2, hki⟩; dsimp only [Option.getD, Option.isSome, if_true, Bool.false_eq_true, if_false]) | (go_at_call 29; go_loud (((try simp only [List.set_cons_succ, List.set_cons_zero] at hS); replace hS := hS.sel [5, 6, 0, 1, 2, 3, 4] 7 (by decide) (by decide) (by simp); simp only [List.filterMap_cons, List.filterMap_nil, List.getElem?_cons_succ, List.getElem?_cons_zero, List.drop_succ_cons, List.drop_zero, List.cons_append, List.nil_append] at hS)); go_loud (with_reducible refine (HDR.out _ _ hS).mono ?_); go_loud (rintro _ _ ⟨rfl, hS⟩); go_loud (skip)) | ((with_reducible show WLd ..); (with_reducible apply wpA_loadN (t := 78)); exact rfl; exact q_first (hS.at_ 1 rfl); kernel_rfl; kernel_rfl; (try simp only [Act.put, List.setIfInBounds_toArray, List.set_cons_zero, List.set_cons_succ])) | (go_at_call 32; go_loud (skip); go_loud (with_reducible refine (cloneQ hS (m := 0) (c := 0) (news := []) (fun w h => Src.slice (by simp) (by simp) (by simp)) (by omega)).mono ?_); go_loud (rintro _ _ ⟨qa2, qc2, rfl, hS⟩); go_loud (skip)) | ((with_reducible show WLd ..); (with_reducible apply wpA_loadN (t := 78)); exact rfl; ((with_reducible apply Hp.rangeI hS (n := 2)); (focus repeat constructor)); kernel_rfl; kernel_rfl; (try simp only [Act.put, List.setIfInBounds_toArray, List.set_cons_zero, List.set_cons_succ])) | ((first | ((with_reducible show WAl ..); (with_reducible apply wpA_alloc (t := 78) hS (v := .agg #[.int .i64 0, .int .i64 0])); kernel_rfl; exact rfl; intro _ wx hS) | ((with_reducible show WBs ..); (with_reducible apply wpA_oneN hS (z := .agg #[.int .i64 0, .int .i64 0, .int .i64 0, .int .u64 0, .int .i64 0]) (bytes := 40) (size := 5)); exact Try.underlying25; kernel_rfl; exact rfl; exact rfl; exact rfl; exact (by decide); exact (by decide); intro _ wx hS) | ((with_reducible show WBx ..); (with_reducible apply wpA_box hS); exact rfl; exact rfl; intro _ wx hS)); (try simp only [Act.put, List.setIfInBounds_toArray, List.set_cons_zero, List.set_cons_succ]); (try simp only [Act.eval, Array.getD_eq_getD_getElem?, List.getElem?_toArray, List.getElem?_cons_succ, List.getElem?_cons_zero, Option.getD_some, List.set_cons_succ, List.set_cons_zero, Value.cells, List.toList_toArray] at hS)) | ((with_reducible show WAp ..); (with_reducible apply wpA_appendI hS (e := 32) (z := .agg #[.int .i64 0, .int .i64 0, .int .i64 0, .int .u64 0, .int .i64 0]) (size := 5) (bytes := 40)); exact rfl; exact rfl; exact Try.underlying25; (focus repeat constructor); exact .inr Try.underlying25; kernel_rfl; exact rfl; exact (Src.freshN (m := 1) hS 0 rfl rfl (by rfl)); exact (by unfold maxLen; omega); exact (by omega); intro ao2 cap2 wx hS; (try simp only [Act.put, List.setIfInBounds_toArray, List.set_cons_zero, List.set_cons_succ])) | ((with_reducible show WSt ..); (with_reducible apply wpA_storeI hS); exact rfl; (focus repeat constructor); exact rfl; exact rfl; exact rfl; exact (Nat.le_of_ble_eq_true rfl); kernel_rfl; intro wx hS; (try simp only [Act.put, List.setIfInBounds_toArray, List.set_cons_zero, List.set_cons_succ]); (try simp only [Act.eval, Array.getD_eq_getD_getElem?, List.getElem?_toArray, List.getElem?_cons_succ, List.getElem?_cons_zero, Option.getD_some, List.set_cons_succ, List.set_cons_zero, Value.cells, List.toList_toArray] at hS); (try simp only [List.take_zero, List.take_succ_cons, List.nil_append, List.cons_append, List.length_cons, List.length_nil, Nat.reduceAdd, Nat.zero_add, List.drop_succ_cons, List.drop_zero, List.drop_nil, List.append_nil] at hS)) | ((with_reducible show WLd ..); (with_reducible apply wpA_load); exact rfl; (first | ((with_reducible apply St.cellI hS); (focus repeat constructor); exact rfl) | assumption); kernel_rfl) | ((with_reducible show WSt ..); (with_reducible apply wpA_store1I hS); exact rfl; (focus repeat constructor); exact rfl; exact rfl; exact rfl; exact rfl; kernel_rfl; intro wx hS; (try simp only [Act.put, List.setIfInBounds_toArray, List.set_cons_zero, List.set_cons_succ]); (try simp only [Act.eval, Array.getD_eq_getD_getElem?, List.getElem?_toArray, List.getElem?_cons_succ, List.getElem?_cons_zero, Option.getD_some, List.set_cons_succ, List.set_cons_zero, Value.cells, List.toList_toArray] at hS)))
                first | go_roundw | (trace_state; sorry)
                case rel =>
                  refine ⟨i + 1, rs ++ [⟨y.session, y.seq, 0, 0, 1⟩], aput o' nm ⟨y.session, []⟩, ao2, cap2, by omega, by go_num, by simp, Lib.hid (HST.out _ _ ?_), ?_⟩
                  · simp only [goneO, HX.out]
                    rw [if_neg (by rintro (h | h); exact h C1.out; exact c2 h), HDQ.out]
                  · ((try simp only [List.set_cons_succ, List.set_cons_zero] at hS); replace hS := hS.sel [5, 6, 7, 8, 9, 3, 1] 10 (by decide) (by decide) (by simp); simp only [List.filterMap_cons, List.filterMap_nil, List.getElem?_cons_succ, List.getElem?_cons_zero, List.drop_succ_cons, List.drop_zero, List.cons_append, List.nil_append] at hS)
                    have h2 := HF.out _ ⟨y.session, []⟩ qa2 qc2 _ (hS.perm (rowsF [_, _, _, _, _] _ _ _ _).symm)
                    simp only [List.flatMap_append, List.flatMap_cons, List.flatMap_nil, List.append_nil, List.length_append, List.length_cons, List.length_nil]
                    exact h2
                case measure => simp [intOf]; omega
              · go_wp2_with (first | ((with_reducible show WGd ..); (with_reducible apply wpA_guard); exact rfl; skip) | ((with_reducible show WLd ..); (with_reducible apply wpA_load); exact rfl; exact row_cell (hS.at_ 1 rfl) i HC.out; kernel_rfl) | ((with_reducible apply wpA_lookup hS 4 (z := .pointer none) (r := some (.pointer (some ⟨blk, 0, none⟩)))); exact rfl; exact rfl; exact rfl; exact Try.underlying63; exact Try.underlying9; exact trivial; kernel_rfl; exact ⟨i2, hki⟩; dsimp only [Option.getD, Option.isSome, if_true, Bool.false_eq_true, if_false]) | (go_at_call 29; go_loud (((try simp only [List.set_cons_succ, List.set_cons_zero] at hS); replace hS := hS.sel [5, 6, 0, 1, 2, 3, 4] 7 (by decide) (by decide) (by simp); simp only [List.filterMap_cons, List.filterMap_nil, List.getElem?_cons_succ, List.getElem?_cons_zero, List.drop_succ_cons, List.drop_zero, List.cons_append, List.nil_append] at hS)); go_loud (with_reducible refine (HDR.out _ _ hS).mono ?_); go_loud (rintro _ _ ⟨rfl, hS⟩); go_loud (skip)) | ((with_reducible show WLd ..); (with_reducible apply wpA_loadN (t := 78)); exact rfl; exact q_first (hS.at_ 1 rfl); kernel_rfl; kernel_rfl; (try simp only [Act.put, List.setIfInBounds_toArray, List.set_cons_zero, List.set_cons_succ])) | (go_at_call 32; go_loud (skip); go_loud (with_reducible refine (cloneQ hS (HSRC.out _ _ _ _ _ (.inr rfl)) (by omega)).mono ?_); go_loud (rintro _ _ ⟨qa2, qc2, rfl, hS⟩); go_loud (skip)) | ((with_reducible show WLd ..); (with_reducible apply wpA_loadN (t := 78)); exact rfl; ((with_reducible apply Hp.rangeI hS (n := 2)); (focus repeat constructor)); kernel_rfl; kernel_rfl; (try simp only [Act.put, List.setIfInBounds_toArray, List.set_cons_zero, List.set_cons_succ])) | ((first | ((with_reducible show WAl ..); (with_reducible apply wpA_alloc (t := 78) hS (v := .agg #[.int .i64 0, .int .i64 0])); kernel_rfl; exact rfl; intro _ wx hS) | ((with_reducible show WBs ..); (with_reducible apply wpA_oneN hS (z := .agg #[.int .i64 0, .int .i64 0, .int .i64 0, .int .u64 0, .int .i64 0]) (bytes := 40) (size := 5)); exact Try.underlying25; kernel_rfl; exact rfl; exact rfl; exact rfl; exact (by decide); exact (by decide); intro _ wx hS) | ((with_reducible show WBx ..); (with_reducible apply wpA_box hS); exact rfl; exact rfl; intro _ wx hS)); (try simp only [Act.put, List.setIfInBounds_toArray, List.set_cons_zero, List.set_cons_succ]); (try simp only [Act.eval, Array.getD_eq_getD_getElem?, List.getElem?_toArray, List.getElem?_cons_succ, List.getElem?_cons_zero, Option.getD_some, List.set_cons_succ, List.set_cons_zero, Value.cells, List.toList_toArray] at hS)) | ((with_reducible show WAp ..); (with_reducible apply wpA_appendI hS (e := 32) (z := .agg #[.int .i64 0, .int .i64 0, .int .i64 0, .int .u64 0, .int .i64 0]) (size := 5) (bytes := 40)); exact rfl; exact rfl; exact Try.underlying25; (focus repeat constructor); exact .inr Try.underlying25; kernel_rfl; exact rfl; exact (Src.freshN (m := 1) hS 0 rfl rfl (by rfl)); exact (by unfold maxLen; omega); exact (by omega); intro ao2 cap2 wx hS; (try simp only [Act.put, List.setIfInBounds_toArray, List.set_cons_zero, List.set_cons_succ])) | ((with_reducible show WSt ..); (with_reducible apply wpA_storeI hS); exact rfl; (focus repeat constructor); exact rfl; exact rfl; exact rfl; exact (Nat.le_of_ble_eq_true rfl); kernel_rfl; intro wx hS; (try simp only [Act.put, List.setIfInBounds_toArray, List.set_cons_zero, List.set_cons_succ]); (try simp only [Act.eval, Array.getD_eq_getD_getElem?, List.getElem?_toArray, List.getElem?_cons_succ, List.getElem?_cons_zero, Option.getD_some, List.set_cons_succ, List.set_cons_zero, Value.cells, List.toList_toArray] at hS); (try simp only [List.take_zero, List.take_succ_cons, List.nil_append, List.cons_append, List.length_cons, List.length_nil, Nat.reduceAdd, Nat.zero_add, List.drop_succ_cons, List.drop_zero, List.drop_nil, List.append_nil] at hS)) | ((with_reducible show WLd ..); (with_reducible apply wpA_load); exact rfl; (first | ((with_reducible apply St.cellI hS); (focus repeat constructor); exact rfl) | assumption); kernel_rfl) | ((with_reducible show WSt ..); (with_reducible apply wpA_store1I hS); exact rfl; (focus repeat constructor); exact rfl; exact rfl; exact rfl; exact rfl; kernel_rfl; intro wx hS; (try simp only [Act.put, List.setIfInBounds_toArray, List.set_cons_zero, List.set_cons_succ]); (try simp only [Act.eval, Array.getD_eq_getD_getElem?, List.getElem?_toArray, List.getElem?_cons_succ, List.getElem?_cons_zero, Option.getD_some, List.set_cons_succ, List.set_cons_zero, Value.cells, List.toList_toArray] at hS)))
                first | go_roundw | (trace_state; sorry)
                case rel =>
                  refine ⟨i + 1, rs ++ [⟨y.session, y.seq, 0, 0, 1⟩], aput o' nm ⟨y.session, q'⟩, ao2, cap2, by omega, by go_num, by simp, Lib.hid (HST.out _ _ ?_), ?_⟩
                  · simp only [goneO, HX.out]
                    rw [if_neg (by rintro (h | h); exact h C1.out; exact c2 h), HDQ.out]
                  · ((try simp only [List.set_cons_succ, List.set_cons_zero] at hS); replace hS := hS.sel [5, 6, 7, 8, 9, 3, 1] 10 (by decide) (by decide) (by simp); simp only [List.filterMap_cons, List.filterMap_nil, List.getElem?_cons_succ, List.getElem?_cons_zero, List.drop_succ_cons, List.drop_zero, List.cons_append, List.nil_append] at hS)
                    have h2 := HF.out _ ⟨y.session, q'⟩ qa2 qc2 _ (hS.perm (rowsF [_, _, _, _, _] _ _ _ _).symm)
                    simp only [List.flatMap_append, List.flatMap_cons, List.flatMap_nil, List.append_nil, List.length_append, List.length_cons, List.length_nil]
                    exact h2
                case measure => simp [intOf]; omega
        · have hms : (m != s) = true := by simpa using c1
          go_wp2_with (first | ((with_reducible show WGd ..); (with_reducible apply wpA_guard); exact rfl; skip) | ((with_reducible show WLd ..); (with_reducible apply wpA_load); exact rfl; exact row_cell (hS.at_ 1 rfl) i HC.out; kernel_rfl) | ((with_reducible apply wpA_lookup hS 4 (z := .pointer none) (r := some (.pointer (some ⟨blk, 0, none⟩)))); exact rfl; exact rfl; exact rfl; exact Try.underlying63; exact Try.underlying9; exact trivial; kernel_rfl; exact ⟨i2, hki⟩; dsimp only [Option.getD, Option.isSome, if_true, Bool.false_eq_true, if_false]) | (go_at_call 29; go_loud (((try simp only [List.set_cons_succ, List.set_cons_zero] at hS); replace hS := hS.sel [5, 6, 0, 1, 2, 3, 4] 7 (by decide) (by decide) (by simp); simp only [List.filterMap_cons, List.filterMap_nil, List.getElem?_cons_succ, List.getElem?_cons_zero, List.drop_succ_cons, List.drop_zero, List.cons_append, List.nil_append] at hS)); go_loud (with_reducible refine (drop_c w0 _ _ 76 blk qa qc ⟨m, q⟩ s hS (Nat.le_trans hq (by decide))).mono ?_); go_loud (rintro _ _ ⟨rfl, hS⟩); go_loud (skip)) | ((with_reducible show WLd ..); (with_reducible apply wpA_load); exact rfl; (first | ((with_reducible apply St.cellI hS); (focus repeat constructor); exact rfl) | assumption); kernel_rfl) | ((with_reducible show WSt ..); (with_reducible apply wpA_store1I hS); exact rfl; (focus repeat constructor); exact rfl; exact rfl; exact rfl; exact rfl; kernel_rfl; intro wx hS; (try simp only [Act.put, List.setIfInBounds_toArray, List.set_cons_zero, List.set_cons_succ]); (try simp only [Act.eval, Array.getD_eq_getD_getElem?, List.getElem?_toArray, List.getElem?_cons_succ, List.getElem?_cons_zero, Option.getD_some, List.set_cons_succ, List.set_cons_zero, Value.cells, List.toList_toArray] at hS)) | ((with_reducible show WBx ..); (with_reducible apply wpA_box hS); exact rfl; exact rfl; intro _ wx hS; (try simp only [Act.put, List.setIfInBounds_toArray, List.set_cons_zero, List.set_cons_succ]); (try simp only [Act.eval, Array.getD_eq_getD_getElem?, List.getElem?_toArray, List.getElem?_cons_succ, List.getElem?_cons_zero, Option.getD_some, List.set_cons_succ, List.set_cons_zero, Value.cells, List.toList_toArray] at hS)))
          first | go_roundw | (trace_state; sorry)
          case rel =>
            refine ⟨i + 1, rs, aput o' nm ⟨m, dropF q s⟩, ao, cap, by omega, by go_num, rfl, Lib.hid (HST.out _ _ ?_), ?_⟩
            · simp only [goneO, HX.out]
              rw [if_pos (.inl c1)]
            · ((try simp only [List.set_cons_succ, List.set_cons_zero] at hS); replace hS := hS.sel [2, 3, 4, 5, 6, 0, 1] 7 (by decide) (by decide) (by simp); simp only [List.filterMap_cons, List.filterMap_nil, List.getElem?_cons_succ, List.getElem?_cons_zero, List.drop_succ_cons, List.drop_zero, List.cons_append, List.nil_append] at hS)
              exact HF.out _ ⟨m, dropF q s⟩ qa qc _ (hS.perm (rowsF [_, _, _, _, _] _ _ _ _).symm)
          case measure => simp [intOf]; omega
      · obtain rfl : i = N.length := by omega
        go_wp2_with (first | ((with_reducible show WGd ..); (with_reducible apply wpA_guard); exact rfl; skip) | ((with_reducible show WLd ..); (with_reducible apply wpA_load); exact rfl; (first | ((with_reducible apply St.cellI hS); (focus repeat constructor); exact rfl) | assumption); kernel_rfl) | ((with_reducible show WSt ..); (with_reducible apply wpA_store1I hS); exact rfl; (focus repeat constructor); exact rfl; exact rfl; exact rfl; exact rfl; kernel_rfl; intro wx hS; (try simp only [Act.put, List.setIfInBounds_toArray, List.set_cons_zero, List.set_cons_succ]); (try simp only [Act.eval, Array.getD_eq_getD_getElem?, List.getElem?_toArray, List.getElem?_cons_succ, List.getElem?_cons_zero, Option.getD_some, List.set_cons_succ, List.set_cons_zero, Value.cells, List.toList_toArray] at hS)) | ((with_reducible show WBx ..); (with_reducible apply wpA_box hS); exact rfl; exact rfl; intro _ wx hS; (try simp only [Act.put, List.setIfInBounds_toArray, List.set_cons_zero, List.set_cons_succ]); (try simp only [Act.eval, Array.getD_eq_getD_getElem?, List.getElem?_toArray, List.getElem?_cons_succ, List.getElem?_cons_zero, Option.getD_some, List.set_cons_succ, List.set_cons_zero, Value.cells, List.toList_toArray] at hS)))
        first | go_ret | (trace_state; sorry)
        have h1 := HI.out.eq
        rw [List.take_length] at h1
        have e : goneD σ s = (rs, ⟨σ.g.map (dropO s), o'⟩) := by
          unfold goneD goneF
          rw [HN.out.1, h1]
        rw [e]
        exact ⟨ao, cap, rfl, hL.re fun D h => h.perm (.append_left D (.cons _ (List.Perm.refl _))) |>.sub (.append_left (.cons_cons _ (List.sublist_cons_self _ _)) D)⟩
end Go.Proofs.Ytiidlegieenfeaa
