/-
  Each deed of the reference's disk goes with the disk's; what is kept.
-/
import Derived.Test.YtbigkonbdnbnpaaDpP2
import Derived.Test.YtbigkonbdnbnpaaDiskNames
namespace Go.Proofs.Ytbigkonbdnbnpaa
set_option linter.unusedVariables false
set_option linter.unusedSimpArgs false
open Go.RowKit

variable {σ : DiskS} {ρ : RefD} {s t : ByteArray} {i : Nat}

theorem rel_new : Rel ⟨[], 0⟩ ⟨[], 0⟩ := ⟨rfl, .nil, .nil⟩
theorem rel_append (h : Rel σ ρ) (hg : σ.good) (s t : ByteArray) : Rel (appendD σ s t).1 (appendR ρ s t).1 ∧ (appendD σ s t).2 = (appendR ρ s t).2 := by
  unfold appendD appendR
  by_cases hn : nameC s = false
  · rw [if_pos hn, if_pos hn]; exact ⟨h, by trivial⟩
  rw [if_neg hn, if_neg hn]
  cases hi : at? σ s with
  | none =>
    have hr := h.none_ hi
    simp only [hr]
    by_cases hl : t.size ≤ 4194304
    · rw [if_pos hl, if_pos hl]
      refine ⟨⟨by rw [h.clock], ins_sorted h.sorted (rat_none hr) _, ?_⟩, rfl⟩
      show (insR ρ.l s (newB ρ.clock t)).Perm (List.map enc1 (σ.l ++ _))
      rw [List.map_append, h.clock]
      refine (ins_perm _ _ _).trans (h.perm.append ?_)
      refine List.Perm.of_eq ?_
      show [(s, newB σ.clock t)] = [(s, encF _)]
      congr 2
    · rw [if_neg hl, if_neg hl]; exact ⟨h, by trivial⟩
  | some k =>
    obtain ⟨f, j, hf, hr, hb⟩ := h.some_ hi
    have hfl := hg.files _ (List.mem_of_getElem? hf)
    simp only [hr, hf, hb, enc_length hfl.1]
    by_cases hl : f.b.length + t.size ≤ 4194304
    · rw [if_pos hl, if_pos hl]
      refine ⟨⟨by rw [h.clock], ?_, ?_⟩, rfl⟩
      · show ((ρ.l.set j _).map _).Pairwise _
        rw [keys_set hb]; exact h.sorted
      · show (ρ.l.set j _).Perm (List.map enc1 (σ.l.set k _))
        rw [List.map_set, h.clock]
        have := perm_setAt h.perm hb (j := k) (by rw [List.getElem?_map, hf]; rfl) (s, encF f ++ newB σ.clock t)
        rw [show enc1 (s, ⟨f.b ++ t.data.toList, f.sure, f.came ++ clocks σ.clock t.size⟩) = (s, encF f ++ newB σ.clock t) from congrArg (Prod.mk s) (enc_append hfl.1 t σ.clock)]
        exact this
    · rw [if_neg hl, if_neg hl]; exact ⟨h, by trivial⟩
theorem rel_sync (h : Rel σ ρ) (hg : σ.good) (s : ByteArray) : Rel (syncD σ s).1 (syncR ρ s).1 ∧ (syncD σ s).2 = (syncR ρ s).2 := by
  unfold syncD syncR
  cases hi : at? σ s with
  | none =>
    have hr := h.none_ hi
    simp only [hr]
    exact ⟨h, by trivial⟩
  | some k =>
    obtain ⟨f, j, hf, hr, hb⟩ := h.some_ hi
    have hfl := hg.files _ (List.mem_of_getElem? hf)
    simp only [hr, hf, hb]
    refine ⟨⟨h.clock, ?_, ?_⟩, by trivial⟩
    · show ((ρ.l.set j _).map _).Pairwise _
      rw [keys_set hb]; exact h.sorted
    · show (ρ.l.set j _).Perm (List.map enc1 (σ.l.set k _))
      rw [List.map_set]
      have := perm_setAt h.perm hb (j := k) (by rw [List.getElem?_map, hf]; rfl) (s, sureB (encF f))
      rw [show enc1 (s, ⟨f.b, f.b.length, []⟩) = (s, sureB (encF f)) from congrArg (Prod.mk s) (enc_sync hfl.1)]
      exact this
theorem map_erase {α β : Type} (f : α → β) : ∀ (l : List α) (k : Nat), (l.eraseIdx k).map f = (l.map f).eraseIdx k
  | [], _ => rfl
  | _ :: _, 0 => rfl
  | a :: r, k + 1 => by simp [map_erase f r k]
theorem rel_remove (h : Rel σ ρ) (s : ByteArray) : Rel (removeD σ s).1 (removeR ρ s).1 ∧ (removeD σ s).2 = (removeR ρ s).2 := by
  unfold removeD removeR
  cases hi : at? σ s with
  | none =>
    have hr := h.none_ hi
    simp only [hr]
    exact ⟨h, by trivial⟩
  | some k =>
    obtain ⟨f, j, hf, hr, hb⟩ := h.some_ hi
    simp only [hr]
    refine ⟨⟨h.clock, ?_, ?_⟩, by trivial⟩
    · show ((ρ.l.eraseIdx j).map _).Pairwise _
      exact h.sorted.sublist ((List.eraseIdx_sublist _ _).map _)
    · show (ρ.l.eraseIdx j).Perm (List.map enc1 (σ.l.eraseIdx k))
      rw [show List.map enc1 (σ.l.eraseIdx k) = (List.map enc1 σ.l).eraseIdx k from (map_erase enc1 σ.l k)]
      exact perm_eraseAt h.perm hb (by rw [List.getElem?_map, hf]; rfl)
theorem rel_file (h : Rel σ ρ) (s : ByteArray) : rfile ρ s = (fileD σ s).map encF := by
  unfold rfile fileD
  cases hi : at? σ s with
  | none => rw [h.none_ hi]; rfl
  | some k =>
    obtain ⟨f, j, hf, hr, hb⟩ := h.some_ hi
    rw [hr, Option.bind_some, Option.bind_some, hf, hb]; rfl
theorem file_mem {f : FileS} (h : fileD σ s = some f) : (s, f) ∈ σ.l := by
  unfold fileD at h
  cases hi : at? σ s with
  | none => rw [hi] at h; cases h
  | some k =>
    obtain ⟨f', hf⟩ := at?_some hi
    rw [hi, Option.bind_some, hf] at h
    simp at h
    subst h
    exact List.mem_of_getElem? hf
theorem rel_read (h : Rel σ ρ) (hg : σ.good) (s : ByteArray) : readD σ s = readR ρ s := by
  unfold readD readR
  rw [rel_file h]
  cases hf : fileD σ s with
  | none => rfl
  | some f => simp only [Option.map_some]; rw [enc_fst (hg.files _ (file_mem hf)).1]
theorem rel_unsynced (h : Rel σ ρ) (hg : σ.good) (s : ByteArray) : unsyncedD σ s = unsyncedR ρ s := by
  unfold unsyncedD unsyncedR
  rw [rel_file h]
  cases hf : fileD σ s with
  | none => rfl
  | some f => simp only [Option.map_some]; rw [enc_count (hg.files _ (file_mem hf)).1 (fun c hc => (hg.times _ (file_mem hf) c hc).1)]

/-- The names of a disk are unlike. -/
theorem rel_names (h : Rel σ ρ) : (σ.l.map (·.1)).Nodup := by
  have h1 : (ρ.l.map (·.1)).Nodup := h.sorted.imp fun h => ltB_ne h
  have h2 : (ρ.l.map (·.1)).Perm (σ.l.map (·.1)) := (h.perm.map _).trans (List.Perm.of_eq (by rw [List.map_map]; rfl))
  exact h2.nodup_iff.1 h1
theorem set_getElem {α : Type} {l : List α} {i : Nat} {x : α} (h : l[i]? = some x) : l.set i x = l := by
  apply List.ext_getElem?
  intro q
  by_cases e : i = q
  · subst e; rw [List.getElem?_set_self (List.getElem?_eq_some_iff.1 h).1, h]
  · rw [List.getElem?_set_ne e]
theorem at?_erase_self (hn : (σ.l.map (·.1)).Nodup) {k : Nat} (hi : at? σ s = some k) : at? ⟨σ.l.eraseIdx k, σ.clock⟩ s = none := by
  obtain ⟨f, hf⟩ := at?_some hi
  refine List.findIdx?_eq_none_iff.2 fun x hx => ?_
  simp only [decide_eq_false_iff_not]
  intro e
  have hp := ((perm_front σ.l k _ hf).map (·.1)).nodup_iff.2 hn
  rw [List.map_cons] at hp
  exact (List.nodup_cons.1 hp).1 (List.mem_map.2 ⟨x, hx, e⟩)
theorem eraseIdx_perm_snoc {α : Type} {l : List α} {k : Nat} {x : α} (h : l[k]? = some x) : (l.eraseIdx k ++ [x]).Perm l :=
  List.perm_append_comm.trans (perm_front l k x h)
theorem rel_rename (h : Rel σ ρ) (s t : ByteArray) : Rel (renameD σ s t).1 (renameR ρ s t).1 ∧ (renameD σ s t).2 = (renameR ρ s t).2 := by
  unfold renameD renameR
  by_cases hn : nameC t = false
  · rw [if_pos hn, if_pos hn]; exact ⟨h, by trivial⟩
  rw [if_neg hn, if_neg hn, rel_file h]
  cases hi : at? σ s with
  | none =>
    have : fileD σ s = none := by unfold fileD; rw [hi]; rfl
    rw [this]
    exact ⟨h, by trivial⟩
  | some k =>
    obtain ⟨f, j, hf, hr, hb⟩ := h.some_ hi
    have hfd : fileD σ s = some f := by unfold fileD; rw [hi, Option.bind_some, hf]; rfl
    rw [hfd]
    simp only [hf, Option.map_some]
    by_cases hst : s = t
    · subst hst
      rw [if_pos rfl, at?_erase_self (rel_names h) hi]
      refine ⟨⟨h.clock, h.sorted, ?_⟩, rfl⟩
      show ρ.l.Perm (List.map enc1 (σ.l.eraseIdx k ++ [(s, f)]))
      exact h.perm.trans ((eraseIdx_perm_snoc hf).symm.map _)
    · rw [if_neg hst]
      have h1 := (rel_remove h s).1
      have e1 : (removeD σ s).1 = ⟨σ.l.eraseIdx k, σ.clock⟩ := by unfold removeD; rw [hi]
      rw [e1] at h1
      have h2 := (rel_remove h1 t).1
      have hc2 := h2.clock
      have habs : ∀ x ∈ (removeR (removeR ρ s).1 t).1.l, x.1 ≠ t := by
        intro x hx e
        obtain ⟨y, hy, rfl⟩ := List.mem_map.1 (h2.perm.mem_iff.1 hx)
        unfold removeD at hy
        cases hj : at? ⟨σ.l.eraseIdx k, σ.clock⟩ t with
        | none => rw [hj] at hy; exact at?_none hj y hy e
        | some q =>
          rw [hj] at hy
          have := at?_erase_self (rel_names h1) hj
          exact at?_none this y hy e
      have hsort := ins_sorted h2.sorted habs (encF f)
      have hperm := (ins_perm (removeR (removeR ρ s).1 t).1.l t (encF f)).trans (h2.perm.append (List.Perm.refl [(t, encF f)]))
      cases hj : at? ⟨σ.l.eraseIdx k, σ.clock⟩ t with
      | none =>
        unfold removeD at hperm
        rw [hj] at hperm
        refine ⟨⟨h.clock, hsort, ?_⟩, rfl⟩
        show (insR _ t (encF f)).Perm (List.map enc1 (σ.l.eraseIdx k ++ [(t, f)]))
        rw [List.map_append]
        exact hperm
      | some q =>
        unfold removeD at hperm
        rw [hj] at hperm
        obtain ⟨g, hq⟩ := at?_some hj
        refine ⟨⟨h.clock, hsort, ?_⟩, rfl⟩
        show (insR _ t (encF f)).Perm (List.map enc1 ((σ.l.eraseIdx k).set q (t, f)))
        refine hperm.trans ?_
        have : (((σ.l.eraseIdx k).eraseIdx q) ++ [(t, f)]).Perm ((σ.l.eraseIdx k).set q (t, f)) := List.perm_append_comm.trans (perm_set _ q _ (t, f) hq)
        have := this.map enc1
        rw [List.map_append] at this
        exact this

/-! What is kept. -/
theorem nd_perm {l l' : List (ByteArray × FileS)} {c c' : Int} (p : l.Perm l') (h : DiskS.nd ⟨l, c⟩) : DiskS.nd ⟨l', c'⟩ := (p.flatMap_right _).nodup_iff.1 h
theorem flat_sub {l l' : List (ByteArray × FileS)} (p : l.Sublist l') : (l.flatMap (·.2.came)).Sublist (l'.flatMap (·.2.came)) := by
  induction p with
  | slnil => exact .slnil
  | cons a _ ih => exact ih.trans (List.sublist_append_right _ _)
  | cons_cons a _ ih => exact (List.Sublist.refl _).append ih
theorem nd_set {k : Nat} {x y : ByteArray × FileS} (hk : σ.l[k]? = some x) (h : σ.nd) (hy : y.2.came.Nodup) (hd : ∀ c ∈ y.2.came, c ∈ x.2.came ∨ σ.clock < c) (hg : σ.good) (c : Int) : DiskS.nd ⟨σ.l.set k y, c⟩ := by
  refine nd_perm (c := 0) (perm_set σ.l k x y hk) ?_
  have h1 : DiskS.nd ⟨x :: σ.l.eraseIdx k, 0⟩ := nd_perm (c := σ.clock) (perm_front σ.l k x hk).symm h
  unfold DiskS.nd at h1 ⊢
  rw [List.flatMap_cons] at h1 ⊢
  obtain ⟨a, b, d⟩ := List.nodup_append.1 h1
  refine List.nodup_append.2 ⟨hy, b, fun u hu v hv e => ?_⟩
  subst e
  rcases hd u hu with q | q
  · exact d u q u hv rfl
  · obtain ⟨z, hz, hc⟩ := List.mem_flatMap.1 hv
    have := (hg.times z (List.mem_of_mem_eraseIdx hz) u hc).2
    omega
theorem clocks_nodup (c : Int) (n : Nat) : (clocks c n).Nodup := by
  unfold clocks
  rw [List.nodup_iff_pairwise_ne, List.pairwise_map]
  exact List.pairwise_lt_range.imp fun h => by omega
theorem append_len (σ : DiskS) (s t : ByteArray) : (appendD σ s t).1.l.length ≤ σ.l.length + 1 := by
  unfold appendD
  split
  · exact Nat.le_succ _
  · split
    · split
      · exact Nat.le_of_eq (by simp)
      · exact Nat.le_succ _
    · split
      · exact Nat.le_succ _
      · split
        · simp only [List.length_set]; exact Nat.le_succ _
        · exact Nat.le_succ _
theorem append_nd (hg : σ.good) (h : σ.nd) (s t : ByteArray) : (appendD σ s t).1.nd := by
  unfold appendD
  split
  · exact h
  split
  · split
    · refine nd_perm (c := 0) (l := (s, ⟨t.data.toList, 0, clocks σ.clock t.size⟩) :: σ.l) (List.perm_append_comm (l₁ := [_])) ?_
      unfold DiskS.nd
      rw [List.flatMap_cons]
      refine List.nodup_append.2 ⟨clocks_nodup _ _, h, fun u hu v hv e => ?_⟩
      subst e
      obtain ⟨z, hz, hc⟩ := List.mem_flatMap.1 hv
      have := (hg.times z hz u hc).2
      have := clocks_mem hu
      omega
    · exact h
  · rename_i k hi
    obtain ⟨f, hf⟩ := at?_some hi
    simp only [hf]
    split
    · have hfn : f.came.Nodup := by
        have h1 : DiskS.nd ⟨(s, f) :: σ.l.eraseIdx k, 0⟩ := nd_perm (c := σ.clock) (perm_front σ.l k _ hf).symm h
        unfold DiskS.nd at h1
        rw [List.flatMap_cons] at h1
        exact (List.nodup_append.1 h1).1
      refine nd_set hf h ?_ ?_ hg _
      · refine List.nodup_append.2 ⟨hfn, clocks_nodup _ _, fun u hu v hv e => ?_⟩
        subst e
        have := (hg.times _ (List.mem_of_getElem? hf) u hu).2
        have := clocks_mem hv
        omega
      · intro c hc
        rcases List.mem_append.1 hc with q | q
        · exact .inl q
        · exact .inr (clocks_mem q).1
    · exact h
theorem append_names (h : ∀ x ∈ σ.l, x.1.size ≤ 64) (s t : ByteArray) : ∀ x ∈ (appendD σ s t).1.l, x.1.size ≤ 64 := by
  unfold appendD
  split
  · exact h
  · rename_i hn
    have hs : s.size ≤ 64 := by
      have : nameC s = true := by simpa using hn
      unfold nameC at this
      simp at this
      exact this.2
    split
    · split
      · intro x hx
        rcases List.mem_append.1 hx with q | q
        · exact h x q
        · rw [List.mem_singleton.1 q]; exact hs
      · exact h
    · rename_i k hi
      obtain ⟨f, hf⟩ := at?_some hi
      simp only [hf]
      split
      · intro x hx
        rcases List.mem_or_eq_of_mem_set hx with q | rfl
        · exact h x q
        · exact hs
      · exact h
theorem pi_append (h : PI i σ) (s t : ByteArray) (ht : t.size ≤ 1000) : PI (i + 1) (appendD σ s t).1 :=
  ⟨good_append h.good s t, append_nd h.good h.nd s t, append_names h.names s t, by have := append_clock σ s t; have := h.clock; omega, by have := append_len σ s t; have := h.len; omega⟩
theorem pi_sync (h : PI i σ) (s : ByteArray) : PI (i + 1) (syncD σ s).1 := by
  refine ⟨good_sync h.good s, ?_, ?_, ?_, ?_⟩ <;> unfold syncD <;> split
  · exact h.nd
  · rename_i k hi
    obtain ⟨f, hf⟩ := at?_some hi
    simp only [hf]
    refine nd_set hf h.nd ?_ ?_ h.good _
    · exact List.nodup_nil
    · exact fun c hc => absurd hc (List.not_mem_nil)
  · exact h.names
  · rename_i k hi
    obtain ⟨f, hf⟩ := at?_some hi
    simp only [hf]
    intro x hx
    rcases List.mem_or_eq_of_mem_set hx with q | rfl
    · exact h.names x q
    · exact h.names (s, f) (List.mem_of_getElem? hf)
  · have := h.clock; simp only; omega
  · rename_i k hi
    obtain ⟨f, hf⟩ := at?_some hi
    simp only [hf]
    have := h.clock; omega
  · have := h.len; simp only; omega
  · rename_i k hi
    obtain ⟨f, hf⟩ := at?_some hi
    simp only [hf, List.length_set]
    have := h.len; omega
theorem pi_remove (h : PI i σ) (s : ByteArray) : PI (i + 1) (removeD σ s).1 := by
  refine ⟨good_remove h.good s, ?_, ?_, by rw [remove_clock]; have := h.clock; omega, ?_⟩ <;> unfold removeD <;> split
  · exact h.nd
  · exact h.nd.sublist (flat_sub (List.eraseIdx_sublist _ _))
  · exact h.names
  · exact fun x hx => h.names x (List.mem_of_mem_eraseIdx hx)
  · have := h.len; simp only; omega
  · rename_i k hi
    have := (List.eraseIdx_sublist σ.l k).length_le
    have := h.len; simp only; omega
theorem pi_crash (h : PI i σ) (keep : Int) : PI (i + 1) (crashD keep σ) := by
  refine ⟨good_crash h.good keep, ?_, ?_, by have := h.clock; show σ.clock ≤ _; omega, by have := h.len; show (σ.l.map _).length ≤ _; rw [List.length_map]; omega⟩
  · have : (crashD keep σ).l.flatMap (·.2.came) = [] := by
      refine List.flatMap_eq_nil_iff.2 fun x hx => ?_
      obtain ⟨y, hy, rfl⟩ := List.mem_map.1 hx
      rfl
    unfold DiskS.nd
    rw [this]
    exact .nil
  · intro x hx
    obtain ⟨y, hy, rfl⟩ := List.mem_map.1 hx
    exact h.names y hy
/-- A file under another name, among others that were there: what is kept. -/
theorem pi_sub {l a b c : List (ByteArray × FileS)} (h : PI i σ) (p : l.Perm a) (hab : a.Sublist b) (q : b.Perm c) (hc : c.map (·.2) = σ.l.map (·.2)) (hn : ∀ x ∈ l, x.1.size ≤ 64) : PI (i + 1) ⟨l, σ.clock⟩ := by
  have hmem : ∀ x ∈ l, ∃ y ∈ σ.l, y.2 = x.2 := fun x hx => by
    have h1 : x.2 ∈ c.map (·.2) := List.mem_map.2 ⟨x, q.mem_iff.1 (hab.subset (p.mem_iff.1 hx)), rfl⟩
    rw [hc] at h1
    obtain ⟨y, hy, e⟩ := List.mem_map.1 h1
    exact ⟨y, hy, e⟩
  have hfl : c.flatMap (·.2.came) = σ.l.flatMap (·.2.came) := by
    have e : ∀ k : List (ByteArray × FileS), k.flatMap (·.2.came) = (k.map (·.2)).flatMap (·.came) := fun k => by rw [List.flatMap_map]
    rw [e, e, hc]
  have hpf := p.flatMap_right (fun x : ByteArray × FileS => x.2.came)
  have hqf := q.flatMap_right (fun x : ByteArray × FileS => x.2.came)
  have hsub := flat_sub hab
  have hlen : l.length ≤ σ.l.length := by
    have h1 := p.length_eq
    have h2 := hab.length_le
    have h3 := q.length_eq
    have h4 := congrArg List.length hc
    rw [List.length_map, List.length_map] at h4
    omega
  refine ⟨⟨h.good.clock0, fun x hx => ?_, fun x hx => ?_, fun x hx => ?_, ?_⟩, ?_, hn, by have := h.clock; show σ.clock ≤ _; omega, by have := h.len; show l.length ≤ _; omega⟩
  · obtain ⟨y, hy, e⟩ := hmem x hx; rw [← e]; exact h.good.files y hy
  · obtain ⟨y, hy, e⟩ := hmem x hx; rw [← e]; exact h.good.sorted y hy
  · obtain ⟨y, hy, e⟩ := hmem x hx; rw [← e]; exact h.good.times y hy
  · have h1 := hsub.length_le
    have h2 := h.good.total
    have h3 := hpf.length_eq
    have h4 := hqf.length_eq
    rw [hfl] at h4
    show ((l.flatMap (·.2.came)).length : Int) ≤ σ.clock
    omega
  · refine hpf.nodup_iff.2 (List.Nodup.sublist hsub (hqf.nodup_iff.2 ?_))
    rw [hfl]
    exact h.nd
theorem pi_rename (h : PI i σ) (s t : ByteArray) : PI (i + 1) (renameD σ s t).1 := by
  unfold renameD
  split
  · exact h.mono
  rename_i hn
  have ht : t.size ≤ 64 := by
    have : nameC t = true := by simpa using hn
    unfold nameC at this
    simp at this
    exact this.2
  split
  · exact h.mono
  rename_i k hi
  obtain ⟨f, hf⟩ := at?_some hi
  simp only [hf]
  have hset : (σ.l.set k (t, f)).map (·.2) = σ.l.map (·.2) := by
    rw [List.map_set]
    exact set_getElem (by rw [List.getElem?_map, hf]; rfl)
  cases hj : at? ⟨σ.l.eraseIdx k, σ.clock⟩ t with
  | none =>
    refine pi_sub h (List.perm_append_comm.trans (perm_set σ.l k _ (t, f) hf)) (List.Sublist.refl _) (List.Perm.refl _) hset (fun x hx => ?_)
    · rcases List.mem_append.1 hx with q | q
      · exact h.names x (List.mem_of_mem_eraseIdx q)
      · rw [List.mem_singleton.1 q]; exact ht
  | some q =>
    obtain ⟨g, hq⟩ := at?_some hj
    have hs2 : (((σ.l.eraseIdx k).set q (t, f)).Perm ((t, f) :: (σ.l.eraseIdx k).eraseIdx q)) := (perm_set _ q _ (t, f) hq).symm
    have hs3 : ((t, f) :: σ.l.eraseIdx k).Perm (σ.l.set k (t, f)) := perm_set σ.l k _ (t, f) hf
    refine pi_sub h hs2 ((List.eraseIdx_sublist _ _).cons_cons _) hs3 hset (fun x hx => ?_)
    rcases List.mem_or_eq_of_mem_set hx with q | rfl
    · exact h.names x (List.mem_of_mem_eraseIdx q)
    · exact ht
end Go.Proofs.Ytbigkonbdnbnpaa
