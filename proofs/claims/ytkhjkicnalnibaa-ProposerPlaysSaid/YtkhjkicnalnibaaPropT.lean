/-
  A proposer and the reference's, side by side: each deed on either.
-/
import Derived.Test.YtkhjkicnalnibaaPropR6
import Derived.Test.YtkhjkicnalnibaaPropD
namespace Go.Proofs.Ytkhjkicnalnibaa
set_option linter.unusedVariables false
set_option linter.unusedSimpArgs false
open Go.RowKit

/-- Both, beside R. -/
def TwoSt (w0 w : World) (p : Nat) (σ : PropS) (x : Nat) (τ : PropS) (R : List Hp) : Prop :=
  ∃ D E : List Hp, St w0 w (D ++ (E ++ R)) ∧ (∀ w' R', St w0 w' (D ++ R') → PropSt w0 w' p σ R') ∧ (∀ w' R', St w0 w' (E ++ R') → RefSt w0 w' x τ R')
variable {w0 w : World} {p x : Nat} {σ τ : PropS} {R A : List Hp} {K : Nat}
theorem TwoSt.onP (h : TwoSt w0 w p σ x τ R) : ∃ E, PropSt w0 w p σ (E ++ R) ∧ ∀ w' σ' R', PropSt w0 w' p σ' (E ++ R') → TwoSt w0 w' p σ' x τ R' := by
  obtain ⟨D, E, hS, hp, hx⟩ := h
  refine ⟨E, hp _ _ hS, fun w' σ' R' h' => ?_⟩
  obtain ⟨D', hS', hp'⟩ := h'.use
  exact ⟨D', E, hS', hp', hx⟩
theorem TwoSt.onX (h : TwoSt w0 w p σ x τ R) : ∃ D, RefSt w0 w x τ (D ++ R) ∧ ∀ w' τ' R', RefSt w0 w' x τ' (D ++ R') → TwoSt w0 w' p σ x τ' R' := by
  obtain ⟨D, E, hS, hp, hx⟩ := h
  refine ⟨D, hx _ _ (hS.perm (List.perm_append_comm_assoc D E R)), fun w' τ' R' h' => ?_⟩
  obtain ⟨E', hS', hx'⟩ := h'.use
  exact ⟨D, E', hS'.perm (List.perm_append_comm_assoc E' D R'), hp, hx'⟩
theorem TwoSt.use (h : TwoSt w0 w p σ x τ R) : ∃ D : List Hp, St w0 w (D ++ R) ∧ ∀ w' R', St w0 w' (D ++ R') → TwoSt w0 w' p σ x τ R' := by
  obtain ⟨D, E, hS, hp, hx⟩ := h
  exact ⟨D ++ E, by simpa using hS, fun w' R' h' => ⟨D, E, by simpa using h', hp, hx⟩⟩
theorem TwoSt.rest (h : TwoSt w0 w p σ x τ R) : St w0 w R := by
  obtain ⟨D, hS, _⟩ := h.use
  exact hS.dropA
theorem TwoSt.opn (h : TwoSt w0 w p σ x τ (A ++ R)) : ∃ D : List Hp, St w0 w (A ++ D) ∧ ∀ w' A', St w0 w' (A' ++ D) → TwoSt w0 w' p σ x τ (A' ++ R) := opn_of_use h.use
theorem TwoSt.sub {R' : List Hp} (h : TwoSt w0 w p σ x τ R) (hs : R'.Sublist R) : TwoSt w0 w p σ x τ R' := by
  obtain ⟨D, hS, hb⟩ := h.use
  exact hb _ _ (St.sub hS (hs.append_left D))
/-- A reference made beside a proposer. -/
theorem PropSt.two {H : List Hp} (h : PropSt w0 w p σ H) (hx : ∀ D, St w0 w (D ++ H) → RefSt w0 w x τ (D ++ H)) : TwoSt w0 w p σ x τ H := by
  obtain ⟨D, hS, hp⟩ := h.use
  obtain ⟨E, hE, hb⟩ := (hx D hS).use
  exact ⟨D, E, hE.perm (List.perm_append_comm_assoc E D H), hp, hb⟩

/-- No open slot lies too low. -/
def PropS.low (σ : PropS) : Prop := ∀ z ∈ σ.opn, -2000000 ≤ z.e.slot
theorem promise_low (ok : σ.ok K) (lw : σ.low) (k : Int) (es : List EntS) : (promiseD σ k es).2.low := by
  unfold promiseD
  split
  · exact lw
  · split
    · exact lw
    · intro z hz
      rcases List.mem_append.1 hz with hz | hz
      · exact lw z hz
      · obtain ⟨e, he, rfl⟩ := List.mem_map.1 hz
        have h1 := (valsD_mem he).1
        have h2 := ok.f1
        show -2000000 ≤ e.slot
        omega
theorem accepted_low (lw : σ.low) (k s : Int) : (acceptedD σ k s).2.low := by
  unfold acceptedD
  split
  · exact lw
  · split
    · exact lw
    · rename_i i hi
      obtain ⟨q, hq, _⟩ := idx_some (f := fun x : SlotS => x.e.slot) hi
      simp only []
      split
      · exact lw
      · intro z hz
        rcases List.mem_or_eq_of_mem_set hz with hz | rfl
        · exact lw z hz
        · show -2000000 ≤ (σ.opn.getD i _).e.slot
          rw [getD_of hq]
          exact lw q (List.mem_of_getElem? hq)
theorem propose_low (ok : σ.ok K) (lw : σ.low) (c : CmdS) : (proposeD σ c).2.low := by
  unfold proposeD
  split
  · exact lw
  · intro z hz
    rcases List.mem_append.1 hz with hz | hz
    · exact lw z hz
    · rw [List.mem_singleton.1 hz]
      exact ok.nlow
theorem chosen_low (lw : σ.low) (s : Int) : (chosenD σ s).low := fun z hz => lw z (List.mem_filter.1 hz).1

theorem t_promise (h : TwoSt w0 w p σ x τ R) (ok : σ.ok K) (hK : K ≤ 900) (k : Int) (ad : Option Addr) (cap m : Nat) (es : List EntS) (hm : es.length = m) (hl : ∀ w, St w0 w R → Ents w ad es) (hn : σ.n ≤ 1000000000000) (hes : es.length ≤ 1000) (hs : ∀ e ∈ es, e.slot ≤ σ.frm + 1000) :
    Calls Try.prog 9 #[.pointer (some ⟨p, 0, none⟩), .int .i64 k, .slice ad m cap] w fun e w' => e = .returned (.bool (promiseD σ k es).1) ∧ TwoSt w0 w' p (promiseD σ k es).2 x τ R := by
  subst hm
  obtain ⟨E, h1, hb⟩ := h.onP
  refine (promise_c h1 ok hK k ad cap es (fun w h => hl w h.dropA) hn hes hs).mono ?_
  rintro _ _ ⟨rfl, h2⟩
  exact ⟨rfl, hb _ _ _ h2⟩
theorem t_rpromise (h : TwoSt w0 w p τ x σ R) (ok : σ.ok K) (hK : K ≤ 900) (k : Int) (ad : Option Addr) (cap m : Nat) (es : List EntS) (hm : es.length = m) (hl : ∀ w, St w0 w R → Ents w ad es) (hn : σ.n ≤ 1000000000000) (hes : es.length ≤ 1000) (hs : ∀ e ∈ es, e.slot ≤ σ.frm + 1000) :
    Calls Try.prog 16 #[.pointer (some ⟨x, 0, none⟩), .int .i64 k, .slice ad m cap] w fun e w' => e = .returned (.bool (promiseD σ k es).1) ∧ TwoSt w0 w' p τ x (promiseD σ k es).2 R := by
  subst hm
  obtain ⟨D, h1, hb⟩ := h.onX
  have hwho := ok.who
  have hnb := ok.nb
  by_cases hno : srvD σ.n k = false ∨ σ.ready = true ∨ k ∈ σ.who
  · have hpd : promiseD σ k es = (false, σ) := by unfold promiseD; rw [if_pos hno]
    rw [hpd]
    refine (rpromise_no h1 k ad es.length cap hno (by omega)).mono ?_
    rintro _ _ ⟨rfl, h2⟩
    exact ⟨rfl, hb _ _ _ h2⟩
  · have hv : srvD σ.n k = true := by cases hq : srvD σ.n k with
      | true => rfl
      | false => exact absurd (.inl hq) hno
    have hr : σ.ready = false := by cases hq : σ.ready with
      | false => rfl
      | true => exact absurd (.inr (.inl hq)) hno
    have hk : k ∉ σ.who := fun q => hno (.inr (.inr q))
    have hid := ok.idle hr
    have hbl := best_last ok hs
    refine (rpromise_yes h1 k ad cap es (fun w h => hl w h.dropA) hn (by omega) (by omega) (by omega) hv hr hk hid.2 hid.1 ok.f1 ok.f2 hbl.2).mono ?_
    rintro _ _ ⟨rfl, h2⟩
    exact ⟨rfl, hb _ _ _ h2⟩
theorem t_accepted (h : TwoSt w0 w p σ x τ R) (ok : σ.ok K) (hK : K ≤ 900) (k s : Int) (hn : σ.n ≤ 1000000000000) :
    Calls Try.prog 13 #[.pointer (some ⟨p, 0, none⟩), .int .i64 k, .int .i64 s] w fun e w' => e = .returned (.bool (acceptedD σ k s).1) ∧ TwoSt w0 w' p (acceptedD σ k s).2 x τ R := by
  obtain ⟨E, h1, hb⟩ := h.onP
  refine (accepted_c h1 k s hn (fun x hx => by have := ok.ow x hx; omega)).mono ?_
  rintro _ _ ⟨rfl, h2⟩
  exact ⟨rfl, hb _ _ _ h2⟩
theorem t_raccepted (h : TwoSt w0 w p τ x σ R) (ok : σ.ok K) (hK : K ≤ 900) (k s : Int) (hn : σ.n ≤ 1000000000000) :
    Calls Try.prog 17 #[.pointer (some ⟨x, 0, none⟩), .int .i64 k, .int .i64 s] w fun e w' => e = .returned (.bool (acceptedD σ k s).1) ∧ TwoSt w0 w' p τ x (acceptedD σ k s).2 R := by
  obtain ⟨D, h1, hb⟩ := h.onX
  have := ok.opn
  refine (raccepted_c h1 k s ok.rise hn (by omega) (fun x hx => by have := ok.ow x hx; omega)).mono ?_
  rintro _ _ ⟨rfl, h2⟩
  exact ⟨rfl, hb _ _ _ h2⟩
theorem t_propose (h : TwoSt w0 w p σ x τ R) (ok : σ.ok K) (hK : K ≤ 900) (c : CmdS) :
    Calls Try.prog 18 #[.pointer (some ⟨p, 0, none⟩), .agg #[.int .i64 c.kind, .int .i64 c.session, .int .i64 c.seq, .string c.name, .int .i64 c.n]] w fun e w' => e = .returned (.agg #[.int .i64 (proposeD σ c).1.slot, .int .i64 (proposeD σ c).1.ballot, .int .i64 (proposeD σ c).1.cmd.kind, .int .i64 (proposeD σ c).1.cmd.session, .int .i64 (proposeD σ c).1.cmd.seq, .string (proposeD σ c).1.cmd.name, .int .i64 (proposeD σ c).1.cmd.n]) ∧ TwoSt w0 w' p (proposeD σ c).2 x τ R := by
  obtain ⟨E, h1, hb⟩ := h.onP
  have h3 := ok.next
  have h4 := ok.f2
  have h5 := ok.nlow
  refine (propose_c h1 c ok.below (by omega) (by omega)).mono ?_
  rintro _ _ ⟨rfl, h2⟩
  exact ⟨rfl, hb _ _ _ h2⟩
theorem t_rpropose (h : TwoSt w0 w p τ x σ R) (ok : σ.ok K) (hK : K ≤ 900) (c : CmdS) :
    Calls Try.prog 19 #[.pointer (some ⟨x, 0, none⟩), .agg #[.int .i64 c.kind, .int .i64 c.session, .int .i64 c.seq, .string c.name, .int .i64 c.n]] w fun e w' => e = .returned (.agg #[.int .i64 (proposeD σ c).1.slot, .int .i64 (proposeD σ c).1.ballot, .int .i64 (proposeD σ c).1.cmd.kind, .int .i64 (proposeD σ c).1.cmd.session, .int .i64 (proposeD σ c).1.cmd.seq, .string (proposeD σ c).1.cmd.name, .int .i64 (proposeD σ c).1.cmd.n]) ∧ TwoSt w0 w' p τ x (proposeD σ c).2 R := by
  obtain ⟨D, h1, hb⟩ := h.onX
  have h3 := ok.next
  have h4 := ok.f2
  have h5 := ok.nlow
  have h6 := ok.opn
  refine (rpropose_c h1 c (by omega) (by omega) (by omega)).mono ?_
  rintro _ _ ⟨rfl, h2⟩
  exact ⟨rfl, hb _ _ _ h2⟩
theorem t_chosen (h : TwoSt w0 w p σ x τ R) (ok : σ.ok K) (s : Int) :
    Calls Try.prog 20 #[.pointer (some ⟨p, 0, none⟩), .int .i64 s] w fun e w' => (∃ v, e = .returned v) ∧ TwoSt w0 w' p (chosenD σ s) x τ R := by
  obtain ⟨E, h1, hb⟩ := h.onP
  refine (chosen_c h1 s ok.rise).mono ?_
  rintro _ _ ⟨⟨v, rfl⟩, h2⟩
  exact ⟨⟨v, rfl⟩, hb _ _ _ h2⟩
theorem t_rchosen (h : TwoSt w0 w p τ x σ R) (ok : σ.ok K) (hK : K ≤ 900) (s : Int) :
    Calls Try.prog 21 #[.pointer (some ⟨x, 0, none⟩), .int .i64 s] w fun e w' => (∃ v, e = .returned v) ∧ TwoSt w0 w' p τ x (chosenD σ s) R := by
  obtain ⟨D, h1, hb⟩ := h.onX
  have h6 := ok.opn
  refine (rchosen_c h1 s (by omega)).mono ?_
  rintro _ _ ⟨⟨v, rfl⟩, h2⟩
  exact ⟨⟨v, rfl⟩, hb _ _ _ h2⟩
theorem t_ready (h : TwoSt w0 w p σ x τ R) :
    Calls Try.prog 12 #[.pointer (some ⟨p, 0, none⟩)] w fun e w' => e = .returned (.bool σ.ready) ∧ TwoSt w0 w' p σ x τ R := by
  obtain ⟨E, h1, hb⟩ := h.onP
  refine (ready_c h1).mono ?_
  rintro _ _ ⟨rfl, h2⟩
  exact ⟨rfl, hb _ _ _ h2⟩
theorem t_values (h : TwoSt w0 w p σ x τ R) (ok : σ.ok K) :
    Calls Try.prog 11 #[.pointer (some ⟨p, 0, none⟩)] w fun e w' => ∃ ao cap, e = .returned (.slice ao σ.vals.length cap) ∧ TwoSt w0 w' p σ x τ (vrow ao cap σ.vals :: R) := by
  obtain ⟨E, h1, hb⟩ := h.onP
  have := ok.vals
  refine (values_c h1 (by omega)).mono ?_
  rintro _ _ ⟨ao, cap, rfl, h2⟩
  exact ⟨ao, cap, rfl, hb _ _ (_ :: _) (h2.perm List.perm_middle.symm)⟩
theorem t_open (h : TwoSt w0 w p σ x τ R) (ok : σ.ok K) (lw : σ.low) (hK : K ≤ 900) :
    Calls Try.prog 23 #[.pointer (some ⟨p, 0, none⟩)] w fun e w' => ∃ ao cap, e = .returned (.slice ao (σ.opn.map (·.e)).length cap) ∧ TwoSt w0 w' p σ x τ (vrow ao cap (σ.opn.map (·.e)) :: R) := by
  obtain ⟨E, h1, hb⟩ := h.onP
  have := ok.opn
  have h3 := ok.next
  have h4 := ok.f2
  refine (open_c h1 ok.rise (by omega) (fun z hz => ⟨by have := lw z hz; omega, by have := ok.below z hz; omega⟩)).mono ?_
  rintro _ _ ⟨ao, cap, rfl, h2⟩
  exact ⟨ao, cap, rfl, hb _ _ (_ :: _) (h2.perm List.perm_middle.symm)⟩
theorem t_ropen (h : TwoSt w0 w p τ x σ R) (ok : σ.ok K) (hK : K ≤ 900) :
    Calls Try.prog 24 #[.pointer (some ⟨x, 0, none⟩)] w fun e w' => ∃ ao cap, e = .returned (.slice ao (σ.opn.map (·.e)).length cap) ∧ TwoSt w0 w' p τ x σ (vrow ao cap (σ.opn.map (·.e)) :: R) := by
  obtain ⟨D, h1, hb⟩ := h.onX
  have := ok.opn
  refine (ropen_c h1 (by omega)).mono ?_
  rintro _ _ ⟨ao, cap, rfl, h2⟩
  exact ⟨ao, cap, rfl, hb _ _ (_ :: _) (h2.perm List.perm_middle.symm)⟩
theorem t_rnew {H : List Hp} (h : PropSt w0 w p σ H) (n b f : Int) : Calls Try.prog 15 #[.int .i64 n, .int .i64 b, .int .i64 f] w fun e w' => ∃ g, e = .returned (.pointer (some ⟨g, 0, none⟩)) ∧ TwoSt w0 w' p σ g ⟨n, b, f, 0, [], [], false, [], []⟩ H := by
  obtain ⟨D, hS, hp⟩ := h.use
  refine (rnew_c w0 _ _ hS n b f).mono ?_
  rintro _ _ ⟨g, rfl, h2⟩
  obtain ⟨E, hE, hb⟩ := h2.use
  exact ⟨g, rfl, D, E, hE.perm (List.perm_append_comm_assoc E D H), hp, hb⟩
end Go.Proofs.Ytkhjkicnalnibaa
