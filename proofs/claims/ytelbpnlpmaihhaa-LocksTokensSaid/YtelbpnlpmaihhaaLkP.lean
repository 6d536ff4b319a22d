/-
  The locks as plain data: Gone; tokens rise; what is kept.
-/
import Derived.Test.YtelbpnlpmaihhaaLocksW7
namespace Go.Proofs.Ytelbpnlpmaihhaa
set_option linter.unusedVariables false
set_option linter.unusedSimpArgs false
open Go.RowKit

/-- Texts, sorted. -/
def srtB (names : List ByteArray) : List ByteArray := ((names.map (·.data.toList)).mergeSort fun x y => decide (x ≤ y)).map fun l => ⟨l.toArray⟩
theorem leL_total (a b : List UInt8) : (decide (a ≤ b) || decide (b ≤ a)) = true := by
  have := List.le_total a b
  simpa using this
theorem leL_trans (a b c : List UInt8) (h1 : decide (a ≤ b) = true) (h2 : decide (b ≤ c) = true) : decide (a ≤ c) = true :=
  decide_eq_true (List.le_trans (of_decide_eq_true h1) (of_decide_eq_true h2))
theorem srtB_perm {a b : List ByteArray} (h : a.Perm b) : srtB a = srtB b := by
  unfold srtB
  congr 1
  refine List.Perm.eq_of_pairwise (le := fun a b => decide (a ≤ b) = true) (fun a b _ _ h1 h2 => List.le_antisymm (of_decide_eq_true h1) (of_decide_eq_true h2)) (List.pairwise_mergeSort (fun a b c => leL_trans a b c) leL_total _) (List.pairwise_mergeSort (fun a b c => leL_trans a b c) leL_total _) ?_
  exact ((List.mergeSort_perm _ _).trans (h.map _)).trans (List.mergeSort_perm _ _).symm
theorem srtB_self (a : List ByteArray) : (srtB a).Perm a := by
  unfold srtB
  refine ((List.mergeSort_perm _ _).map _).trans (List.Perm.of_eq ?_)
  rw [List.map_map]
  conv => rhs; rw [← List.map_id a]
  apply List.map_congr_left
  intro x _
  rfl

def goneX (s : Int) (x : LockS) : LockS := ⟨x.held.filter (fun n => !(n == s)), x.writer, x.queue.filter (fun w => !(w.session == s))⟩
def goneF (s : Int) : List ByteArray → LocksS → List RepS × LocksS
  | [], σ => ([], σ)
  | n :: r, σ => match aget σ.l n with
    | none => goneF s r σ
    | some x => if asksD x s then ((serveD σ n (goneX s x)).1 ++ (goneF s r (serveD σ n (goneX s x)).2).1, (goneF s r (serveD σ n (goneX s x)).2).2) else goneF s r σ
def goneD (σ : LocksS) (s : Int) : List RepS × LocksS := goneF s (srtB (σ.l.map (·.1))) σ

/-- Tokens rise. -/
inductive Rise : Int → List RepS → Int → Prop
  | nil (t : Int) : Rise t [] t
  | same {t t' : Int} {r : RepS} {rs : List RepS} (h : r.token = t ∨ r.token = 0) (hr : Rise t rs t') : Rise t (r :: rs) t'
  | up {t t' : Int} {r : RepS} {rs : List RepS} (h : r.token = t + 1) (hr : Rise (t + 1) rs t') : Rise t (r :: rs) t'
theorem Rise.le {t t' : Int} {rs : List RepS} (h : Rise t rs t') : t ≤ t' := by
  induction h with
  | nil => exact Int.le_refl _
  | same _ _ ih => exact ih
  | up _ _ ih => omega
theorem Rise.append {t t1 t' : Int} {rs rs' : List RepS} (h : Rise t rs t1) (h' : Rise t1 rs' t') : Rise t (rs ++ rs') t' := by
  induction h with
  | nil => exact h'
  | same h _ ih => exact .same h (ih h')
  | up h _ ih => exact .up h (ih h')
theorem grant_rise (tok : Int) (x : LockS) (w : WaitS) : Rise tok [(grantD tok x w).1] (grantD tok x w).2.1 := by
  unfold grantD
  split
  · exact .same (.inl rfl) (.nil _)
  · split
    · exact .same (.inr rfl) (.nil _)
    · exact .up rfl (.nil _)

structure ServF (q : List WaitS) (tok : Int) (h : List Int) (r : List RepS × Int × LockS) : Prop where
  rise : Rise tok r.1 r.2.1
  sorted : r.2.2.held.Pairwise (· ≤ ·)
  t0 : 0 ≤ r.2.1
  t1 : r.2.1 ≤ tokLast
  len : r.2.2.held.length + r.2.2.queue.length ≤ h.length + q.length
  reps : r.1.length ≤ q.length
theorem serveL_facts : ∀ (q : List WaitS) (tok : Int) (h : List Int) (wr : Bool), h.Pairwise (· ≤ ·) → 0 ≤ tok → tok ≤ tokLast → ServF q tok h (serveL q tok h wr)
  | [], tok, h, wr, hp, h0, h1 => ⟨.nil _, hp, h0, h1, Nat.le_refl _, Nat.le_refl _⟩
  | w :: q, tok, h, wr, hp, h0, h1 => by
    rw [serveL]
    split
    · exact ⟨.nil _, hp, h0, h1, Nat.le_refl _, by simp⟩
    · obtain ⟨f1, f2, f3, f4, f5⟩ := grantD_facts tok ⟨h, wr, []⟩ w hp ⟨h0, h1⟩
      have ih := serveL_facts q (grantD tok ⟨h, wr, []⟩ w).2.1 (grantD tok ⟨h, wr, []⟩ w).2.2.held (grantD tok ⟨h, wr, []⟩ w).2.2.writer f1 f4 f5
      refine ⟨(grant_rise tok ⟨h, wr, []⟩ w).append ih.rise, ih.sorted, ih.t0, ih.t1, ?_, ?_⟩
      · have := ih.len
        simp only [List.length_cons] at f2 ⊢
        omega
      · have := ih.reps
        simp only [List.length_cons]
        omega

structure LI (n : Nat) (σ : LocksS) : Prop where
  ok : σ.ok n
  nd : (σ.l.map (·.1)).Nodup
theorem LI.mono {n : Nat} {σ : LocksS} (h : LI n σ) : LI (n + 1) σ := ⟨⟨h.ok.t0, h.ok.t1, h.ok.len, fun x hx => ⟨(h.ok.each x hx).1, by have := (h.ok.each x hx).2; omega⟩⟩, h.nd⟩
theorem LI.ok7 {n : Nat} {σ : LocksS} (h : LI n σ) (hn : n ≤ 1000) : σ.ok 10000000 := ⟨h.ok.t0, h.ok.t1, h.ok.len, fun x hx => ⟨(h.ok.each x hx).1, by have := (h.ok.each x hx).2; omega⟩⟩

variable {n : Nat} {σ : LocksS} {nm : ByteArray} {x x' : LockS}
theorem mem_aput {l : List (ByteArray × LockS)} {k : ByteArray} {v : LockS} {y : ByteArray × LockS} (h : y ∈ aput l k v) : y ∈ l ∨ y = (k, v) := by
  unfold aput at h
  split at h
  · rcases List.mem_append.1 h with q | q
    · exact .inl q
    · exact .inr (List.mem_singleton.1 q)
  · exact List.mem_or_eq_of_mem_set h
theorem aput_len {l : List (ByteArray × LockS)} {k : ByteArray} {v w : LockS} (h : aget l k = some w) : (aput l k v).length = l.length := by
  have := congrArg List.length (aput_keys l k v)
  rw [h] at this
  simpa using this
theorem aput_len_new {l : List (ByteArray × LockS)} {k : ByteArray} {v : LockS} (h : aget l k = none) : (aput l k v).length = l.length + 1 := by
  have := congrArg List.length (aput_keys l k v)
  rw [h] at this
  simpa using this
theorem nd_aput {l : List (ByteArray × LockS)} {k : ByteArray} {v : LockS} (h : (l.map (·.1)).Nodup) : ((aput l k v).map (·.1)).Nodup := by
  rw [aput_keys]
  cases hg : aget l k with
  | some w => exact h
  | none =>
    show (l.map (·.1) ++ [k]).Nodup
    refine List.nodup_append.2 ⟨h, by simp, fun a ha b hb e => ?_⟩
    rw [List.mem_singleton.1 hb] at e
    subst e
    obtain ⟨y, hy, e⟩ := List.mem_map.1 ha
    exact aidx_none (aget_none_idx hg) y hy e
theorem adel_sub (l : List (ByteArray × LockS)) (k : ByteArray) : (adel l k).Sublist l := by
  unfold adel
  split
  · exact List.Sublist.refl _
  · exact List.eraseIdx_sublist _ _
theorem aget_del_other (l : List (ByteArray × LockS)) {k k' : ByteArray} (h : k' ≠ k) : aget (adel l k) k' = aget l k' := by
  rw [aget_eq_find, aget_eq_find]
  congr 1
  unfold adel
  cases hi : aidx l k with
  | none => rfl
  | some i =>
    obtain ⟨v, hv⟩ := aidx_some hi
    show (l.eraseIdx i).find? _ = _
    clear hi
    induction l generalizing i with
    | nil => rfl
    | cons a r ih =>
      cases i with
      | zero =>
        simp at hv
        subst hv
        rw [List.eraseIdx_cons_zero, List.find?_cons_of_neg (by simpa using fun e => h e.symm)]
      | succ i =>
        simp at hv
        rw [List.eraseIdx_cons_succ, List.find?_cons, List.find?_cons, ih i hv]
theorem LI.put (h : LI n σ) {m : Nat} (hnm : n ≤ m) (hx : (aget σ.l nm).isSome = true ∨ σ.l.length < 1000) (hs : x'.held.Pairwise (· ≤ ·)) (hl : x'.held.length + x'.queue.length ≤ m) {t : Int} (h0 : 0 ≤ t) (h1 : t ≤ tokLast) : LI m ⟨aput σ.l nm x', t⟩ := by
  refine ⟨⟨h0, h1, ?_, fun y hy => ?_⟩, nd_aput h.nd⟩
  · cases hg : aget σ.l nm with
    | some w => have := h.ok.len; rw [show (aput σ.l nm x').length = σ.l.length from aput_len hg]; exact this
    | none =>
      rw [hg] at hx
      rw [show (aput σ.l nm x').length = σ.l.length + 1 from aput_len_new hg]
      rcases hx with q | q
      · cases q
      · exact q
  · rcases mem_aput hy with q | rfl
    · have := h.ok.each y q; exact ⟨this.1, by omega⟩
    · exact ⟨hs, hl⟩
theorem LI.del (h : LI n σ) {t : Int} (h0 : 0 ≤ t) (h1 : t ≤ tokLast) : LI n ⟨adel σ.l nm, t⟩ :=
  ⟨⟨h0, h1, Nat.le_trans (adel_sub _ _).length_le h.ok.len, fun y hy => h.ok.each y ((adel_sub _ _).subset hy)⟩, h.nd.sublist ((adel_sub _ _).map _)⟩
theorem serve_facts (h : LI n σ) (hx : aget σ.l nm = some x) (hs : x'.held.Pairwise (· ≤ ·)) (hl : x'.held.length + x'.queue.length ≤ n) :
    LI n (serveD σ nm x').2 ∧ Rise σ.tok (serveD σ nm x').1 (serveD σ nm x').2.tok ∧ (serveD σ nm x').1.length ≤ x'.queue.length ∧ ∀ k', k' ≠ nm → aget (serveD σ nm x').2.l k' = aget σ.l k' := by
  have f := serveL_facts x'.queue σ.tok x'.held x'.writer hs h.ok.t0 h.ok.t1
  have hlen := f.len
  unfold serveD
  simp only
  split
  · exact ⟨h.del f.t0 f.t1, f.rise, f.reps, fun k' hk => aget_del_other _ hk⟩
  · exact ⟨h.put (Nat.le_refl _) (.inl (by rw [hx]; rfl)) f.sorted (by omega) f.t0 f.t1, f.rise, f.reps, fun k' hk => aget_put_other _ _ hk⟩
theorem ask_facts (h : LI n σ) (c : CmdS) : LI (n + 1) (askD σ c).2.2 ∧ Rise σ.tok (askD σ c).1 (askD σ c).2.2.tok ∧ (askD σ c).1.length ≤ 1 := by
  unfold askD
  split
  · exact ⟨h.mono, .nil _, Nat.zero_le _⟩
  cases hg : aget σ.l c.name with
  | none =>
    simp only
    split
    · exact ⟨h.mono, .same (.inr rfl) (.nil _), Nat.le_refl _⟩
    · rename_i hl
      obtain ⟨f1, f2, f3, f4, f5⟩ := grantD_facts σ.tok ⟨[], false, []⟩ ⟨c.session, c.seq, c.kind == 7⟩ .nil ⟨h.ok.t0, h.ok.t1⟩
      refine ⟨?_, ?_, Nat.le_refl _⟩
      · split
        · refine h.put (Nat.le_succ _) (.inr (by omega)) f1 ?_ f4 f5
          rw [f3]
          simp only [List.length_nil] at f2 ⊢
          omega
        · exact LI.mono ⟨⟨f4, f5, h.ok.len, h.ok.each⟩, h.nd⟩
      · have := grant_rise σ.tok ⟨[], false, []⟩ ⟨c.session, c.seq, c.kind == 7⟩
        split <;> exact this
  | some x =>
    simp only
    have hx := h.ok.each _ (aget_mem hg)
    split
    · exact ⟨h.mono, .same (.inr rfl) (.nil _), Nat.le_refl _⟩
    · split
      · obtain ⟨f1, f2, f3, f4, f5⟩ := grantD_facts σ.tok x ⟨c.session, c.seq, true⟩ hx.1 ⟨h.ok.t0, h.ok.t1⟩
        refine ⟨h.put (Nat.le_succ _) (.inl (by rw [hg]; rfl)) f1 ?_ f4 f5, grant_rise _ _ _, Nat.le_refl _⟩
        rw [f3]
        have := hx.2
        simp only at this
        omega
      · refine ⟨h.put (x' := { x with queue := x.queue ++ [⟨c.session, c.seq, c.kind == 7⟩] }) (Nat.le_succ _) (.inl (by rw [hg]; rfl)) hx.1 ?_ h.ok.t0 h.ok.t1, .nil _, Nat.zero_le _⟩
        have := hx.2
        simp only [List.length_append, List.length_cons, List.length_nil] at this ⊢
        omega
theorem rel_facts (h : LI n σ) (c : CmdS) : LI n (relD σ c).2 ∧ Rise σ.tok (relD σ c).1 (relD σ c).2.tok ∧ (relD σ c).1.length ≤ n + 1 := by
  unfold relD
  split
  · exact ⟨h, .nil _, Nat.zero_le _⟩
  cases hg : aget σ.l c.name with
  | none => exact ⟨h, .same (.inr rfl) (.nil _), by simp⟩
  | some x =>
    simp only
    have hx := h.ok.each _ (aget_mem hg)
    split
    · exact ⟨h, .same (.inr rfl) (.nil _), by simp⟩
    · have hle : (x.held.filter fun n => n != c.session).length ≤ x.held.length := List.length_filter_le _ _
      have hx2 := hx.2
      simp only at hx2
      obtain ⟨g1, g2, g3, _⟩ := serve_facts h hg (x' := { x with held := x.held.filter (fun n => n != c.session) }) (hx.1.sublist List.filter_sublist) (by simp only; omega)
      exact ⟨g1, .same (.inr rfl) g2, by simp only [List.length_cons] at g3 ⊢; omega⟩
theorem goneX_facts (h : LI n σ) (hx : aget σ.l nm = some x) (s : Int) : (goneX s x).held.Pairwise (· ≤ ·) ∧ (goneX s x).held.length + (goneX s x).queue.length ≤ n := by
  have h1 := h.ok.each _ (aget_mem hx)
  have h2 := List.length_filter_le (fun n => !(n == s)) x.held
  have h3 := List.length_filter_le (fun w : WaitS => !(w.session == s)) x.queue
  have h4 := h1.2
  simp only at h4
  exact ⟨h1.1.sublist List.filter_sublist, by show (x.held.filter _).length + (x.queue.filter _).length ≤ n; omega⟩
theorem goneF_facts (s : Int) : ∀ (ns : List ByteArray) (σ : LocksS), LI n σ → LI n (goneF s ns σ).2 ∧ Rise σ.tok (goneF s ns σ).1 (goneF s ns σ).2.tok ∧ (goneF s ns σ).1.length ≤ ns.length * n
  | [], σ, h => ⟨h, .nil _, Nat.zero_le _⟩
  | k :: r, σ, h => by
    rw [goneF]
    cases hg : aget σ.l k with
    | none =>
      obtain ⟨i1, i2, i3⟩ := goneF_facts s r σ h
      exact ⟨i1, i2, Nat.le_trans i3 (Nat.mul_le_mul_right _ (Nat.le_succ _))⟩
    | some x =>
      simp only
      split
      · obtain ⟨x1, x2⟩ := goneX_facts h hg s
        obtain ⟨g1, g2, g3, _⟩ := serve_facts h hg x1 x2
        obtain ⟨i1, i2, i3⟩ := goneF_facts s r _ g1
        refine ⟨i1, g2.append i2, ?_⟩
        rw [List.length_append, List.length_cons, Nat.succ_mul]
        omega
      · obtain ⟨i1, i2, i3⟩ := goneF_facts s r σ h
        exact ⟨i1, i2, Nat.le_trans i3 (Nat.mul_le_mul_right _ (Nat.le_succ _))⟩
theorem gone_facts (h : LI n σ) (s : Int) : LI n (goneD σ s).2 ∧ Rise σ.tok (goneD σ s).1 (goneD σ s).2.tok ∧ (goneD σ s).1.length ≤ 1000 * n := by
  obtain ⟨g1, g2, g3⟩ := goneF_facts s (srtB (σ.l.map (·.1))) σ h
  refine ⟨g1, g2, Nat.le_trans g3 (Nat.mul_le_mul_right _ ?_)⟩
  rw [(srtB_self _).length_eq, List.length_map]
  exact h.ok.len
end Go.Proofs.Ytelbpnlpmaihhaa
