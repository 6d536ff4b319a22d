/-
  Sessions: plain; SessionGoesOn, walked.
-/
import Derived.Test.YtodojllclghoiaaSesGp
import Derived.Test.YtodojllclghoiaaSlIn
namespace Go.Proofs.Ytodojllclghoiaa
set_option linter.unusedVariables false
set_option linter.unusedSimpArgs false
open Go.RowKit

section
variable {w0 w : World} {H : List Hp}
theorem plain_b (hS : St w0 w H) {dk dn dq r1 r2 r3 r4 r5 : Int} {b : Bool} (hb : decide (plainD ⟨dk, dn, dq, ⟨r1, r2, r3, r4, r5⟩⟩) = b) : Calls Try.prog 13 #[.agg #[.int .i64 dk, .int .i64 dn, .int .i64 dq, .int .i64 r1, .int .i64 r2, .int .i64 r3, .int .u64 r4, .int .i64 r5]] w fun e w' => e = .returned (.bool b) ∧ St w0 w' H := by
  subst hb
  exact plain_c hS ⟨dk, dn, dq, ⟨r1, r2, r3, r4, r5⟩⟩
end

theorem encS_len {n : Nat} {σ : SesS} (h : SG n σ) (hn : n ≤ 1000) : (encS σ).length ≤ 1000000 := by
  have ok := h.ok hn
  have h1 := ones_len ok.l ok.n σ.l.length (Nat.le_refl _)
  rw [List.take_of_length_le (by rw [List.length_mapIdx]; exact Nat.le_refl _)] at h1
  have h2 := clis_len ok (cs := clisE σ) (clisE_ok ok)
  have h3 := (clisE_perm σ).length_eq
  rw [List.length_map] at h3
  have h4 := intB_len (n := σ.l.length) (by unfold I64; have := h.len; omega)
  have h5 := intB_len (n := σ.c.length) (by unfold I64; have := h.clen; omega)
  have := h.len
  have := h.clen
  unfold encS
  rw [List.length_append, List.length_append, List.length_append]
  omega

/-- Both, beside R. -/
def TwoS (w0 w : World) (p : Nat) (σ : SesS) (q : Nat) (τ : SesS) (R : List Hp) : Prop :=
  ∃ D E : List Hp, St w0 w (D ++ (E ++ R)) ∧ (∀ w' R', St w0 w' (D ++ R') → SesSt w0 w' p σ R') ∧ (∀ w' R', St w0 w' (E ++ R') → SesSt w0 w' q τ R')
section
variable {w0 w : World} {p q x : Nat} {σ τ : SesS} {R A : List Hp}
theorem TwoS.onP (h : TwoS w0 w p σ q τ R) : ∃ E, SesSt w0 w p σ (E ++ R) ∧ ∀ w' σ' R', SesSt w0 w' p σ' (E ++ R') → TwoS w0 w' p σ' q τ R' := by
  obtain ⟨D, E, hS, hp, hx⟩ := h
  refine ⟨E, hp _ _ hS, fun w' σ' R' h' => ?_⟩
  obtain ⟨D', hS', hp'⟩ := h'.use
  exact ⟨D', E, hS', hp', hx⟩
theorem TwoS.onX (h : TwoS w0 w p σ q τ R) : ∃ D, SesSt w0 w q τ (D ++ R) ∧ ∀ w' τ' R', SesSt w0 w' q τ' (D ++ R') → TwoS w0 w' p σ q τ' R' := by
  obtain ⟨D, E, hS, hp, hx⟩ := h
  refine ⟨D, hx _ _ (hS.perm (List.perm_append_comm_assoc D E R)), fun w' τ' R' h' => ?_⟩
  obtain ⟨E', hS', hx'⟩ := h'.use
  exact ⟨D, E', hS'.perm (List.perm_append_comm_assoc E' D R'), hp, hx'⟩
theorem TwoS.use (h : TwoS w0 w p σ q τ R) : ∃ D : List Hp, St w0 w (D ++ R) ∧ ∀ w' R', St w0 w' (D ++ R') → TwoS w0 w' p σ q τ R' := by
  obtain ⟨D, E, hS, hp, hx⟩ := h
  exact ⟨D ++ E, by simpa using hS, fun w' R' h' => ⟨D, E, by simpa using h', hp, hx⟩⟩
theorem TwoS.rest (h : TwoS w0 w p σ q τ R) : St w0 w R := by
  obtain ⟨D, hS, _⟩ := h.use
  exact hS.dropA
theorem TwoS.opn (h : TwoS w0 w p σ q τ (A ++ R)) : ∃ D : List Hp, St w0 w (A ++ D) ∧ ∀ w' A', St w0 w' (A' ++ D) → TwoS w0 w' p σ q τ (A' ++ R) := opn_of_use h.use

theorem k_do {dk dn dq r1 r2 r3 r4 r5 : Int} (h : SesSt w0 w p σ (xc x :: R)) {n : Nat} (hg : SG n σ) (hn : n ≤ 1000) : Calls Try.prog 14 #[.pointer (some ⟨p, 0, none⟩), .pointer (some ⟨x, 0, none⟩), .agg #[.int .i64 dk, .int .i64 dn, .int .i64 dq, .int .i64 r1, .int .i64 r2, .int .i64 r3, .int .u64 r4, .int .i64 r5]] w fun e w' => (∃ v, e = .returned v) ∧ SesSt w0 w' p (doG σ ⟨dk, dn, dq, ⟨r1, r2, r3, r4, r5⟩⟩) R :=
  do_f h hg hn ⟨dk, dn, dq, ⟨r1, r2, r3, r4, r5⟩⟩
theorem t_do1 {dk dn dq r1 r2 r3 r4 r5 : Int} (h : TwoS w0 w p σ q τ (xc x :: R)) {n : Nat} (hg : SG n σ) (hn : n ≤ 1000) : Calls Try.prog 14 #[.pointer (some ⟨p, 0, none⟩), .pointer (some ⟨x, 0, none⟩), .agg #[.int .i64 dk, .int .i64 dn, .int .i64 dq, .int .i64 r1, .int .i64 r2, .int .i64 r3, .int .u64 r4, .int .i64 r5]] w fun e w' => (∃ v, e = .returned v) ∧ TwoS w0 w' p (doG σ ⟨dk, dn, dq, ⟨r1, r2, r3, r4, r5⟩⟩) q τ R := by
  obtain ⟨E, h1, hb⟩ := h.onP
  refine (k_do (R := E ++ R) (h1.perm List.perm_middle) hg hn).mono ?_
  rintro _ _ ⟨⟨v, rfl⟩, h2⟩
  exact ⟨⟨v, rfl⟩, hb _ _ _ h2⟩
theorem t_do2 {dk dn dq r1 r2 r3 r4 r5 : Int} (h : TwoS w0 w p σ q τ (xc x :: R)) {n : Nat} (hg : SG n τ) (hn : n ≤ 1000) : Calls Try.prog 14 #[.pointer (some ⟨q, 0, none⟩), .pointer (some ⟨x, 0, none⟩), .agg #[.int .i64 dk, .int .i64 dn, .int .i64 dq, .int .i64 r1, .int .i64 r2, .int .i64 r3, .int .u64 r4, .int .i64 r5]] w fun e w' => (∃ v, e = .returned v) ∧ TwoS w0 w' p σ q (doG τ ⟨dk, dn, dq, ⟨r1, r2, r3, r4, r5⟩⟩) R := by
  obtain ⟨E, h1, hb⟩ := h.onX
  refine (k_do (R := E ++ R) (h1.perm List.perm_middle) hg hn).mono ?_
  rintro _ _ ⟨⟨v, rfl⟩, h2⟩
  exact ⟨⟨v, rfl⟩, hb _ _ _ h2⟩
theorem t_do1e {dk dn dq r1 r2 r3 r4 r5 : Int} {σ' : SesS} (h : TwoS w0 w p σ q τ (xc x :: R)) {n : Nat} (hg : SG n σ) (hn : n ≤ 1000) (e : doG σ ⟨dk, dn, dq, ⟨r1, r2, r3, r4, r5⟩⟩ = σ') : Calls Try.prog 14 #[.pointer (some ⟨p, 0, none⟩), .pointer (some ⟨x, 0, none⟩), .agg #[.int .i64 dk, .int .i64 dn, .int .i64 dq, .int .i64 r1, .int .i64 r2, .int .i64 r3, .int .u64 r4, .int .i64 r5]] w fun e w' => (∃ v, e = .returned v) ∧ TwoS w0 w' p σ' q τ R := by
  subst e
  exact t_do1 h hg hn
theorem t_do2e {dk dn dq r1 r2 r3 r4 r5 : Int} {τ' : SesS} (h : TwoS w0 w p σ q τ (xc x :: R)) {n : Nat} (hg : SG n τ) (hn : n ≤ 1000) (e : doG τ ⟨dk, dn, dq, ⟨r1, r2, r3, r4, r5⟩⟩ = τ') : Calls Try.prog 14 #[.pointer (some ⟨q, 0, none⟩), .pointer (some ⟨x, 0, none⟩), .agg #[.int .i64 dk, .int .i64 dn, .int .i64 dq, .int .i64 r1, .int .i64 r2, .int .i64 r3, .int .u64 r4, .int .i64 r5]] w fun e w' => (∃ v, e = .returned v) ∧ TwoS w0 w' p σ q τ' R := by
  subst e
  exact t_do2 h hg hn
theorem t_enc1 {bs : List UInt8} (h : TwoS w0 w p σ q τ R) (ok : σ.ok) (e : encS σ = bs) : Calls Try.prog 16 #[.pointer (some ⟨p, 0, none⟩)] w fun e w' => e = .returned (.string ⟨bs.toArray⟩) ∧ TwoS w0 w' p σ q τ R := by
  obtain ⟨E, h1, hb⟩ := h.onP
  refine (enc_c w0 w _ p σ h1 ok).mono ?_
  rw [e]
  rintro _ _ ⟨rfl, h2⟩
  exact ⟨rfl, hb _ _ _ h2⟩
theorem t_enc2 {bs : List UInt8} (h : TwoS w0 w p σ q τ R) (ok : τ.ok) (e : encS τ = bs) : Calls Try.prog 16 #[.pointer (some ⟨q, 0, none⟩)] w fun e w' => e = .returned (.string ⟨bs.toArray⟩) ∧ TwoS w0 w' p σ q τ R := by
  obtain ⟨E, h1, hb⟩ := h.onX
  refine (enc_c w0 w _ q τ h1 ok).mono ?_
  rw [e]
  rintro _ _ ⟨rfl, h2⟩
  exact ⟨rfl, hb _ _ _ h2⟩
theorem k_enc {bs : List UInt8} (h : SesSt w0 w p σ R) (ok : σ.ok) (e : encS σ = bs) : Calls Try.prog 16 #[.pointer (some ⟨p, 0, none⟩)] w fun e w' => e = .returned (.string ⟨bs.toArray⟩) ∧ SesSt w0 w' p σ R := by
  have h1 := enc_c w0 w R p σ h ok
  rw [e] at h1
  exact h1
theorem k_dec {bs : List UInt8} (hS : St w0 w R) (hl : bs.length ≤ 1000000) (e : decS bs = some τ) : Calls Try.prog 15 #[.string ⟨bs.toArray⟩] w fun e w' => ∃ p2, e = .returned (.tuple #[.pointer (some ⟨p2, 0, none⟩), .int .i64 0]) ∧ SesSt w0 w' p2 τ R := by
  have h1 := decode_c w0 w R ⟨bs.toArray⟩ hS (by simpa using hl)
  have e2 : decS (⟨bs.toArray⟩ : ByteArray).data.toList = some τ := by simpa using e
  rw [e2] at h1
  exact h1
theorem TwoS.mk_ {D : List Hp} (h : SesSt w0 w q τ D) (hf : ∀ w' A', St w0 w' (A' ++ D) → SesSt w0 w' p σ (A' ++ [])) : TwoS w0 w p σ q τ [] := by
  obtain ⟨E, hE, hb⟩ := h.use
  refine ⟨D, E, ?_, fun w' R' h' => ?_, hb⟩
  · rw [List.append_nil]
    exact hE.perm List.perm_append_comm
  · have := hf w' R' (h'.perm List.perm_append_comm)
    rwa [List.append_nil] at this
end

theorem DeedG_in {w : World} {cs : List Value} (h : Rd Try.prog w 40 cs) : ∃ d : DeedG, cs = [.int .i64 d.k, .int .i64 d.n, .int .i64 d.q, .int .i64 d.r.session, .int .i64 d.r.seq, .int .i64 d.r.err, .int .u64 d.r.token, .int .i64 d.r.n] ∧ d.r.ok := by
  obtain ⟨hl, hf⟩ := h.fields Try.underlying40
  have hc : Try.prog.cellsOf 40 = 8 := by kernel_rfl
  rw [hc] at hl
  obtain ⟨c0, r0, rfl, l0⟩ := cons_of_len hl
  obtain ⟨c1, r1, rfl, l1⟩ := cons_of_len l0
  obtain ⟨c2, r2, rfl, l2⟩ := cons_of_len l1
  obtain ⟨c3, r3, rfl, l3⟩ := cons_of_len l2
  obtain ⟨c4, r4, rfl, l4⟩ := cons_of_len l3
  obtain ⟨c5, r5, rfl, l5⟩ := cons_of_len l4
  obtain ⟨c6, r6, rfl, l6⟩ := cons_of_len l5
  obtain ⟨c7, r7, rfl, l7⟩ := cons_of_len l6
  obtain rfl := List.length_eq_zero_iff.1 l7
  have hk : Try.prog.cellsOf 3 = 1 := by kernel_rfl
  have hkr : Try.prog.cellsOf 30 = 5 := by kernel_rfl
  have f0 : Rd Try.prog w 3 [c0] := by simpa [hk] using hf 0 _ rfl
  have f1 : Rd Try.prog w 3 [c1] := by simpa [hk] using hf 1 _ rfl
  have f2 : Rd Try.prog w 3 [c2] := by simpa [hk] using hf 2 _ rfl
  have f3 : Rd Try.prog w 30 [c3, c4, c5, c6, c7] := by simpa [hkr] using hf 3 _ rfl
  obtain ⟨x0, e0, _⟩ := f0.int Try.underlying3
  obtain ⟨x1, e1, _⟩ := f1.int Try.underlying3
  obtain ⟨x2, e2, _⟩ := f2.int Try.underlying3
  obtain ⟨r, _, _, hr, er⟩ := reply_cs f3
  simp only [RepS.cells, List.cons.injEq, and_true] at e0 e1 e2 er
  obtain ⟨rfl, rfl, rfl, rfl, rfl⟩ := er
  subst e0 e1 e2
  exact ⟨⟨x0, x1, x2, r⟩, rfl, hr⟩
def DeedG.cells (d : DeedG) : List Value := [.int .i64 d.k, .int .i64 d.n, .int .i64 d.q, .int .i64 d.r.session, .int .i64 d.r.seq, .int .i64 d.r.err, .int .u64 d.r.token, .int .i64 d.r.n]
end Go.Proofs.Ytodojllclghoiaa
