/-
  Sessions: plain; a deed that is read.
-/
import Derived.Test.YtodojllclghoiaaSesGp
import Derived.Test.YtodojllclghoiaaSlIn
namespace Go.Proofs.Ytodojllclghoiaa
set_option linter.unusedVariables false
set_option linter.unusedSimpArgs false
open Go.RowKit

section
variable {w0 w : World} {H : List Hp}
theorem plain_b (hS : St w0 w H) {dk dn dq r1 r2 r3 r4 r5 : Int} {b : Bool} (hb : decide (plainD ⟨dk, dn, dq, ⟨r1, r2, r3, r4, r5⟩⟩) = b) : Calls Try.prog 13 #[.agg #[.int .i64 dk, .int .i64 dn, .int .i64 dq, .int .i64 r1, .int .i64 r2, .int .i64 r3, .int .u64 r4, .int .i64 r5]] w fun e w' => e = .returned (.bool b) ∧ St w0 w' H := by
  subst hb
  exact plain_c hS ⟨dk, dn, dq, ⟨r1, r2, r3, r4, r5⟩⟩
end

theorem encS_len {n : Nat} {σ : SesS} (h : SG n σ) (hn : n ≤ 1000) : (encS σ).length ≤ 1000000 := by
  have ok := h.ok hn
  have h1 := ones_len ok.l ok.n σ.l.length (Nat.le_refl _)
  rw [List.take_of_length_le (by rw [List.length_mapIdx]; exact Nat.le_refl _)] at h1
  have h2 := clis_len ok (cs := clisE σ) (clisE_ok ok)
  have h3 := (clisE_perm σ).length_eq
  rw [List.length_map] at h3
  have h4 := intB_len (n := σ.l.length) (by unfold I64; have := h.len; omega)
  have h5 := intB_len (n := σ.c.length) (by unfold I64; have := h.clen; omega)
  have := h.len
  have := h.clen
  unfold encS
  rw [List.length_append, List.length_append, List.length_append]
  omega

theorem DeedG_in {w : World} {cs : List Value} (h : Rd Try.prog w 40 cs) : ∃ d : DeedG, cs = [.int .i64 d.k, .int .i64 d.n, .int .i64 d.q, .int .i64 d.r.session, .int .i64 d.r.seq, .int .i64 d.r.err, .int .u64 d.r.token, .int .i64 d.r.n] ∧ d.r.ok := by
  obtain ⟨hl, hf⟩ := h.fields Try.underlying40
  have hc : Try.prog.cellsOf 40 = 8 := by kernel_rfl
  rw [hc] at hl
  obtain ⟨c0, r0, rfl, l0⟩ := cons_of_len hl
  obtain ⟨c1, r1, rfl, l1⟩ := cons_of_len l0
  obtain ⟨c2, r2, rfl, l2⟩ := cons_of_len l1
  obtain ⟨c3, r3, rfl, l3⟩ := cons_of_len l2
  obtain ⟨c4, r4, rfl, l4⟩ := cons_of_len l3
  obtain ⟨c5, r5, rfl, l5⟩ := cons_of_len l4
  obtain ⟨c6, r6, rfl, l6⟩ := cons_of_len l5
  obtain ⟨c7, r7, rfl, l7⟩ := cons_of_len l6
  obtain rfl := List.length_eq_zero_iff.1 l7
  have hk : Try.prog.cellsOf 3 = 1 := by kernel_rfl
  have hkr : Try.prog.cellsOf 30 = 5 := by kernel_rfl
  have f0 : Rd Try.prog w 3 [c0] := by simpa [hk] using hf 0 _ rfl
  have f1 : Rd Try.prog w 3 [c1] := by simpa [hk] using hf 1 _ rfl
  have f2 : Rd Try.prog w 3 [c2] := by simpa [hk] using hf 2 _ rfl
  have f3 : Rd Try.prog w 30 [c3, c4, c5, c6, c7] := by simpa [hkr] using hf 3 _ rfl
  obtain ⟨x0, e0, _⟩ := f0.int Try.underlying3
  obtain ⟨x1, e1, _⟩ := f1.int Try.underlying3
  obtain ⟨x2, e2, _⟩ := f2.int Try.underlying3
  obtain ⟨r, _, _, hr, er⟩ := reply_cs f3
  simp only [RepS.cells, List.cons.injEq, and_true] at e0 e1 e2 er
  obtain ⟨rfl, rfl, rfl, rfl, rfl⟩ := er
  subst e0 e1 e2
  exact ⟨⟨x0, x1, x2, r⟩, rfl, hr⟩
def DeedG.cells (d : DeedG) : List Value := [.int .i64 d.k, .int .i64 d.n, .int .i64 d.q, .int .i64 d.r.session, .int .i64 d.r.seq, .int .i64 d.r.err, .int .u64 d.r.token, .int .i64 d.r.n]
end Go.Proofs.Ytodojllclghoiaa
