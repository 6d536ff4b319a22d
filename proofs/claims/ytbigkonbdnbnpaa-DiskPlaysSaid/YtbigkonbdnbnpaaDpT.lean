/-
  A disk and the reference's, side by side: each deed on either.
-/
import Derived.Test.YtbigkonbdnbnpaaDpC2
import Derived.Test.YtbigkonbdnbnpaaDiskRoom
import Derived.Test.YtbigkonbdnbnpaaDiskAwake
namespace Go.Proofs.Ytbigkonbdnbnpaa
set_option linter.unusedVariables false
set_option linter.unusedSimpArgs false
open Go.RowKit

/-- Both, beside R. -/
def TwoD (w0 w : World) (p : Nat) (σ : DiskS) (x : Nat) (ρ : RefD) (R : List Hp) : Prop :=
  ∃ D E : List Hp, St w0 w (D ++ (E ++ R)) ∧ (∀ w' R', St w0 w' (D ++ R') → DiskSt w0 w' p σ R') ∧ (∀ w' R', St w0 w' (E ++ R') → RefDSt w0 w' x ρ R')
variable {w0 w : World} {p x : Nat} {σ σ' : DiskS} {ρ ρ' : RefD} {R A : List Hp}
theorem TwoD.onP (h : TwoD w0 w p σ x ρ R) : ∃ E, DiskSt w0 w p σ (E ++ R) ∧ ∀ w' σ' R', DiskSt w0 w' p σ' (E ++ R') → TwoD w0 w' p σ' x ρ R' := by
  obtain ⟨D, E, hS, hp, hx⟩ := h
  refine ⟨E, hp _ _ hS, fun w' σ' R' h' => ?_⟩
  obtain ⟨D', hS', hp'⟩ := h'.use
  exact ⟨D', E, hS', hp', hx⟩
theorem TwoD.onX (h : TwoD w0 w p σ x ρ R) : ∃ D, RefDSt w0 w x ρ (D ++ R) ∧ ∀ w' ρ' R', RefDSt w0 w' x ρ' (D ++ R') → TwoD w0 w' p σ x ρ' R' := by
  obtain ⟨D, E, hS, hp, hx⟩ := h
  refine ⟨D, hx _ _ (hS.perm (List.perm_append_comm_assoc D E R)), fun w' ρ' R' h' => ?_⟩
  obtain ⟨E', hS', hx'⟩ := h'.use
  exact ⟨D, E', hS'.perm (List.perm_append_comm_assoc E' D R'), hp, hx'⟩
theorem TwoD.use (h : TwoD w0 w p σ x ρ R) : ∃ D : List Hp, St w0 w (D ++ R) ∧ ∀ w' R', St w0 w' (D ++ R') → TwoD w0 w' p σ x ρ R' := by
  obtain ⟨D, E, hS, hp, hx⟩ := h
  exact ⟨D ++ E, by simpa using hS, fun w' R' h' => ⟨D, E, by simpa using h', hp, hx⟩⟩
theorem TwoD.rest (h : TwoD w0 w p σ x ρ R) : St w0 w R := by
  obtain ⟨D, hS, _⟩ := h.use
  exact hS.dropA
theorem TwoD.opn (h : TwoD w0 w p σ x ρ (A ++ R)) : ∃ D : List Hp, St w0 w (A ++ D) ∧ ∀ w' A', St w0 w' (A' ++ D) → TwoD w0 w' p σ x ρ (A' ++ R) := opn_of_use h.use
theorem TwoD.sub {R' : List Hp} (h : TwoD w0 w p σ x ρ R) (hs : R'.Sublist R) : TwoD w0 w p σ x ρ R' := by
  obtain ⟨D, hS, hb⟩ := h.use
  exact hb _ _ (St.sub hS (hs.append_left D))
/-- A reference made beside a disk. -/
theorem DiskSt.two {H : List Hp} (h : DiskSt w0 w p σ H) (hx : ∀ D, St w0 w (D ++ H) → RefDSt w0 w x ρ (D ++ H)) : TwoD w0 w p σ x ρ H := by
  obtain ⟨D, hS, hp⟩ := h.use
  obtain ⟨E, hE, hb⟩ := (hx D hS).use
  exact ⟨D, E, hE.perm (List.perm_append_comm_assoc E D H), hp, hb⟩

theorem ok_of {i : Nat} (hr : Rel σ ρ) (hi : PI i σ) (h : i ≤ 101) : ρ.ok := by
  have hlen := hr.perm.length_eq
  rw [List.length_map] at hlen
  have h1 := hi.len
  have h2 := hi.clock
  have h3 := hi.good.clock0
  refine ⟨by omega, fun y hy => ?_, by rw [hr.clock]; exact h3, by rw [hr.clock]; omega⟩
  obtain ⟨z, hz, rfl⟩ := List.mem_map.1 (hr.perm.mem_iff.1 hy)
  have := hi.good.files z hz
  show (encF z.2).length ≤ _
  rw [enc_length this.1]
  exact this.2
theorem nn_of {i : Nat} (hr : Rel σ ρ) (hi : PI i σ) : ∀ y ∈ ρ.l, ∀ u ∈ y.2, 0 ≤ u.2 := by
  intro y hy u hu
  obtain ⟨z, hz, rfl⟩ := List.mem_map.1 (hr.perm.mem_iff.1 hy)
  have hu2 : u.2 ∈ (encF z.2).map (·.2) := List.mem_map.2 ⟨u, hu, rfl⟩
  rw [enc_snd (hi.good.files z hz).1] at hu2
  rcases List.mem_append.1 hu2 with q | q
  · rw [List.eq_of_mem_replicate q]; exact Int.le_refl 0
  · have := (hi.good.times z hz _ q).1; omega
theorem wnd_of {i : Nat} (hr : Rel σ ρ) (hi : PI i σ) : (whens ρ).Nodup := (whens_perm hr hi.good).nodup_iff.2 hi.nd
/-- The files' names, in order. -/
theorem rel_files (hr : Rel σ ρ) : sortB (namesD σ) = ρ.l.map (·.1) := by
  have h2 : (ρ.l.map (·.1)).Perm (namesD σ) := (hr.perm.map _).trans (List.Perm.of_eq (by rw [List.map_map]; rfl))
  unfold sortB
  have h3 : ((namesD σ).map (·.data.toList)).mergeSort leB = (ρ.l.map (·.1)).map (·.data.toList) := by
    refine List.Perm.eq_of_pairwise (le := fun a b => leB a b = true) (fun a b _ _ h1 h2 => ?_) (List.pairwise_mergeSort ?_ ?_ _) ?_ ((List.mergeSort_perm _ _).trans (h2.symm.map _))
    · unfold leB at h1 h2
      exact List.le_antisymm (by simpa using h1) (by simpa using h2)
    · intro a b c h1 h2
      unfold leB at h1 h2 ⊢
      exact decide_eq_true (List.le_trans (by simpa using h1) (by simpa using h2))
    · intro a b
      unfold leB
      have := List.le_total a b
      simpa using this
    · rw [List.pairwise_map]
      refine hr.sorted.imp fun h => ?_
      unfold leB
      exact decide_eq_true (List.le_of_lt (ltB_iff.1 h))
  rw [h3, List.map_map]
  conv => rhs; rw [← List.map_id (ρ.l.map (·.1))]
  apply List.map_congr_left
  intro a _
  rfl

section
variable {i : Nat} {b : Int} {s t : ByteArray}
theorem t_append (h : TwoD w0 w p σ x ρ R) (hi : PI i σ) (h2 : i ≤ 101) (ht : t.size ≤ 1000) (e : appendD σ s t = (σ', b)) :
    Calls Try.prog 10 #[.pointer (some ⟨p, 0, none⟩), .string s, .string t] w fun r w' => r = .returned (.int .i64 b) ∧ TwoD w0 w' p σ' x ρ R := by
  obtain ⟨E, h1, hb⟩ := h.onP
  have := hi.clock
  refine (append_d w0 w _ p σ s t h1 hi.good (by omega)).mono ?_
  rw [e]
  rintro _ _ ⟨rfl, h2⟩
  exact ⟨rfl, hb _ _ _ h2⟩
theorem t_rappend (h : TwoD w0 w p σ' x ρ R) (ok : ρ.ok) (hs : s.size ≤ 1000000000000000) (ht : t.size ≤ 1000) (e : appendR ρ s t = (ρ', b)) :
    Calls Try.prog 24 #[.pointer (some ⟨x, 0, none⟩), .string s, .string t] w fun r w' => r = .returned (.int .i64 b) ∧ TwoD w0 w' p σ' x ρ' R := by
  obtain ⟨E, h1, hb⟩ := h.onX
  refine (rappend_c h1 ok s t hs ht).mono ?_
  rw [e]
  rintro _ _ ⟨rfl, h2⟩
  exact ⟨rfl, hb _ _ _ h2⟩
theorem t_sync (h : TwoD w0 w p σ x ρ R) (e : syncD σ s = (σ', b)) :
    Calls Try.prog 11 #[.pointer (some ⟨p, 0, none⟩), .string s] w fun r w' => r = .returned (.int .i64 b) ∧ TwoD w0 w' p σ' x ρ R := by
  obtain ⟨E, h1, hb⟩ := h.onP
  refine (sync_d w0 w _ p σ s h1).mono ?_
  rw [e]
  rintro _ _ ⟨rfl, h2⟩
  exact ⟨rfl, hb _ _ _ h2⟩
theorem t_rsync (h : TwoD w0 w p σ' x ρ R) (ok : ρ.ok) (e : syncR ρ s = (ρ', b)) :
    Calls Try.prog 25 #[.pointer (some ⟨x, 0, none⟩), .string s] w fun r w' => r = .returned (.int .i64 b) ∧ TwoD w0 w' p σ' x ρ' R := by
  obtain ⟨E, h1, hb⟩ := h.onX
  refine (rsync_c h1 ok s).mono ?_
  rw [e]
  rintro _ _ ⟨rfl, h2⟩
  exact ⟨rfl, hb _ _ _ h2⟩
theorem t_remove (h : TwoD w0 w p σ x ρ R) (e : removeD σ s = (σ', b)) :
    Calls Try.prog 17 #[.pointer (some ⟨p, 0, none⟩), .string s] w fun r w' => r = .returned (.int .i64 b) ∧ TwoD w0 w' p σ' x ρ R := by
  obtain ⟨E, h1, hb⟩ := h.onP
  refine (remove_d w0 w _ p σ s h1).mono ?_
  rw [e]
  rintro _ _ ⟨rfl, h2⟩
  exact ⟨rfl, hb _ _ _ h2⟩
theorem t_rremove (h : TwoD w0 w p σ' x ρ R) (ok : ρ.ok) (e : removeR ρ s = (ρ', b)) :
    Calls Try.prog 27 #[.pointer (some ⟨x, 0, none⟩), .string s] w fun r w' => r = .returned (.int .i64 b) ∧ TwoD w0 w' p σ' x ρ' R := by
  obtain ⟨E, h1, hb⟩ := h.onX
  refine (rremove_c h1 ok s).mono ?_
  rw [e]
  rintro _ _ ⟨rfl, h2⟩
  exact ⟨rfl, hb _ _ _ h2⟩
theorem t_rename (h : TwoD w0 w p σ x ρ R) (e : renameD σ s t = (σ', b)) :
    Calls Try.prog 18 #[.pointer (some ⟨p, 0, none⟩), .string s, .string t] w fun r w' => r = .returned (.int .i64 b) ∧ TwoD w0 w' p σ' x ρ R := by
  obtain ⟨E, h1, hb⟩ := h.onP
  refine (rename_d w0 w _ p σ s t h1).mono ?_
  rw [e]
  rintro _ _ ⟨rfl, h2⟩
  exact ⟨rfl, hb _ _ _ h2⟩
theorem t_rrename (h : TwoD w0 w p σ' x ρ R) (ok : ρ.ok) (ht : t.size ≤ 1000000000000000) (e : renameR ρ s t = (ρ', b)) :
    Calls Try.prog 28 #[.pointer (some ⟨x, 0, none⟩), .string s, .string t] w fun r w' => r = .returned (.int .i64 b) ∧ TwoD w0 w' p σ' x ρ' R := by
  obtain ⟨E, h1, hb⟩ := h.onX
  refine (rrename_c h1 ok s t ht).mono ?_
  rw [e]
  rintro _ _ ⟨rfl, h2⟩
  exact ⟨rfl, hb _ _ _ h2⟩
theorem t_crash (h : TwoD w0 w p σ x ρ R) (hi : PI i σ) (h2 : i ≤ 101) (keep : Int) (hk : -9223372036854775808 ≤ keep ∧ keep ≤ 9223372036854775807) :
    Calls Try.prog 12 #[.pointer (some ⟨p, 0, none⟩), .int .i64 keep] w fun r w' => (∃ v, r = .returned v) ∧ TwoD w0 w' p (crashD keep σ) x ρ R := by
  obtain ⟨E, h1, hb⟩ := h.onP
  have := hi.clock
  refine (crash_d w0 w _ p σ keep h1 hi.good (by omega) hk).mono ?_
  rintro _ _ ⟨rfl, h2⟩
  exact ⟨⟨_, rfl⟩, hb _ _ _ h2⟩
theorem t_rcrash (h : TwoD w0 w p σ' x ρ R) (hr : Rel σ ρ) (hi : PI i σ) (h2 : i ≤ 101) (keep : Int) (hk : -9223372036854775808 ≤ keep ∧ keep ≤ 9223372036854775807) :
    Calls Try.prog 29 #[.pointer (some ⟨x, 0, none⟩), .int .i64 keep] w fun r w' => (∃ v, r = .returned v) ∧ ∃ ρ', Hid (Rel (crashD keep σ) ρ') ∧ TwoD w0 w' p σ' x ρ' R := by
  obtain ⟨E, h1, hb⟩ := h.onX
  refine (rcrash_c h1 (ok_of hr hi h2) (wnd_of hr hi) (nn_of hr hi) keep hk.1 hk.2).mono ?_
  rintro _ _ ⟨⟨v, rfl⟩, t, ht, h2⟩
  exact ⟨⟨v, rfl⟩, crashR t ρ, Lib.hid (rel_crash hr hi.good hi.nd ht), hb _ _ _ h2⟩
theorem t_read (h : TwoD w0 w p σ x ρ R) {bs : ByteArray} (e : readD σ s = (bs, b)) :
    Calls Try.prog 13 #[.pointer (some ⟨p, 0, none⟩), .string s] w fun r w' => r = .returned (.tuple #[.string bs, .int .i64 b]) ∧ TwoD w0 w' p σ x ρ R := by
  obtain ⟨E, h1, hb⟩ := h.onP
  refine (read_d w0 w _ p σ s h1).mono ?_
  rw [e]
  rintro _ _ ⟨rfl, rfl⟩
  exact ⟨rfl, h⟩
theorem t_rread (h : TwoD w0 w p σ x ρ R) (ok : ρ.ok) {bs : ByteArray} (e : readR ρ s = (bs, b)) :
    Calls Try.prog 26 #[.pointer (some ⟨x, 0, none⟩), .string s] w fun r w' => r = .returned (.tuple #[.string bs, .int .i64 b]) ∧ TwoD w0 w' p σ x ρ R := by
  obtain ⟨E, h1, hb⟩ := h.onX
  refine (rread_c h1 ok s).mono ?_
  rw [e]
  rintro _ _ ⟨rfl, h2⟩
  exact ⟨rfl, hb _ _ _ h2⟩
theorem t_uns (h : TwoD w0 w p σ x ρ R) {n : Nat} (e : unsyncedD σ s = n) :
    Calls Try.prog 14 #[.pointer (some ⟨p, 0, none⟩), .string s] w fun r w' => r = .returned (.int .i64 n) ∧ TwoD w0 w' p σ x ρ R := by
  obtain ⟨E, h1, hb⟩ := h.onP
  refine (unsynced_d w0 w _ p σ s h1).mono ?_
  rw [e]
  rintro _ _ ⟨rfl, rfl⟩
  exact ⟨rfl, h⟩
theorem t_runs (h : TwoD w0 w p σ x ρ R) (ok : ρ.ok) {n : Nat} (e : unsyncedR ρ s = n) :
    Calls Try.prog 30 #[.pointer (some ⟨x, 0, none⟩), .string s] w fun r w' => r = .returned (.int .i64 n) ∧ TwoD w0 w' p σ x ρ R := by
  obtain ⟨E, h1, hb⟩ := h.onX
  refine (runsynced_c h1 ok s).mono ?_
  rw [e]
  rintro _ _ ⟨rfl, h2⟩
  exact ⟨rfl, hb _ _ _ h2⟩
theorem t_files (h : TwoD w0 w p σ x ρ R) (hi : PI i σ) (h2 : i ≤ 101) {n : Nat} {l : List ByteArray} (hn : σ.l.length = n) (hl : sortB (namesD σ) = l) :
    Calls Try.prog 19 #[.pointer (some ⟨p, 0, none⟩)] w fun r w' => ∃ ao cap, r = .returned (.slice ao n cap) ∧ TwoD w0 w' p σ x ρ (.row 9 1 ao n cap (l.map Value.string) :: R) := by
  obtain ⟨E, h1, hb⟩ := h.onP
  have := hi.len
  refine (files_d w0 w _ p σ h1 (by omega) (fun y hy => by have := hi.names y hy; unfold maxLen; omega)).mono ?_
  rw [hn, hl]
  rintro _ _ ⟨ao, cap, rfl, h2⟩
  exact ⟨ao, cap, rfl, hb _ _ (_ :: _) (h2.use.elim fun D hD => hD.2 _ _ (hD.1.perm (List.Perm.append_left D List.perm_middle.symm)))⟩
theorem t_rfiles (h : TwoD w0 w p σ x ρ R) (ok : ρ.ok) {n : Nat} {l : List ByteArray} (hn : ρ.l.length = n) (hl : ρ.l.map (·.1) = l) :
    Calls Try.prog 31 #[.pointer (some ⟨x, 0, none⟩)] w fun r w' => ∃ ao cap, r = .returned (.slice ao n cap) ∧ TwoD w0 w' p σ x ρ (.row 9 1 ao n cap (l.map Value.string) :: R) := by
  obtain ⟨D, h1, hb⟩ := h.onX
  obtain ⟨a, c, L, hL, hS⟩ := h1
  have hl2 : L.length ≤ 1000000000 := by rw [len_of hL]; have := ok.len; omega
  refine (rfiles_s hS hl2).mono ?_
  rintro _ _ ⟨ao, cap, rfl, h2⟩
  have e1 : L.length = n := by rw [len_of hL, hn]
  have e2 : (L.map fun z => Value.string z.nm) = l.map Value.string := by rw [← hl, ← hL, List.map_map, List.map_map]; rfl
  refine ⟨ao, cap, by rw [e1], hb _ _ (_ :: _) ?_⟩
  rw [e2] at h2
  refine ⟨a, c, L, hL, ?_⟩
  rw [e1] at h2 ⊢
  refine h2.perm ?_
  show List.Perm (_ :: (_ :: _ :: (L.flatMap fhp ++ (D ++ R)))) (_ :: _ :: (L.flatMap fhp ++ (D ++ (_ :: R))))
  refine (List.Perm.swap _ _ _).trans (List.Perm.cons _ ((List.Perm.swap _ _ _).trans (List.Perm.cons _ ?_)))
  rw [← List.append_assoc, ← List.append_assoc]
  exact List.perm_middle.symm
end
end Go.Proofs.Ytbigkonbdnbnpaa
