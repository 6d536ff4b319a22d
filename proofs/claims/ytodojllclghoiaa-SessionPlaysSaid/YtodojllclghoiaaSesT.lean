/-
  Sessions and the reference's, side by side: each deed on either.
-/
import Derived.Test.YtodojllclghoiaaSesPp
import Derived.Test.YtodojllclghoiaaSesR5
import Derived.Test.YtodojllclghoiaaSesCo2
namespace Go.Proofs.Ytodojllclghoiaa
set_option linter.unusedVariables false
set_option linter.unusedSimpArgs false
open Go.RowKit

/-- Both, beside R. -/
def TwoG (w0 w : World) (p : Nat) (σ : SesS) (x : Nat) (ρ : SesS) (R : List Hp) : Prop :=
  ∃ D E : List Hp, St w0 w (D ++ (E ++ R)) ∧ (∀ w' R', St w0 w' (D ++ R') → SesSt w0 w' p σ R') ∧ (∀ w' R', St w0 w' (E ++ R') → RefG w0 w' x ρ R')
section
variable {w0 w : World} {p x : Nat} {σ σ' ρ ρ' : SesS} {R A : List Hp}
theorem TwoG.onP (h : TwoG w0 w p σ x ρ R) : ∃ E, SesSt w0 w p σ (E ++ R) ∧ ∀ w' σ' R', SesSt w0 w' p σ' (E ++ R') → TwoG w0 w' p σ' x ρ R' := by
  obtain ⟨D, E, hS, hp, hx⟩ := h
  refine ⟨E, hp _ _ hS, fun w' σ' R' h' => ?_⟩
  obtain ⟨D', hS', hp'⟩ := h'.use
  exact ⟨D', E, hS', hp', hx⟩
theorem TwoG.onX (h : TwoG w0 w p σ x ρ R) : ∃ D, RefG w0 w x ρ (D ++ R) ∧ ∀ w' ρ' R', RefG w0 w' x ρ' (D ++ R') → TwoG w0 w' p σ x ρ' R' := by
  obtain ⟨D, E, hS, hp, hx⟩ := h
  refine ⟨D, hx _ _ (hS.perm (List.perm_append_comm_assoc D E R)), fun w' ρ' R' h' => ?_⟩
  obtain ⟨E', hS', hx'⟩ := h'.use
  exact ⟨D, E', hS'.perm (List.perm_append_comm_assoc E' D R'), hp, hx'⟩
theorem TwoG.use (h : TwoG w0 w p σ x ρ R) : ∃ D : List Hp, St w0 w (D ++ R) ∧ ∀ w' R', St w0 w' (D ++ R') → TwoG w0 w' p σ x ρ R' := by
  obtain ⟨D, E, hS, hp, hx⟩ := h
  exact ⟨D ++ E, by simpa using hS, fun w' R' h' => ⟨D, E, by simpa using h', hp, hx⟩⟩
theorem TwoG.rest (h : TwoG w0 w p σ x ρ R) : St w0 w R := by
  obtain ⟨D, hS, _⟩ := h.use
  exact hS.dropA
theorem TwoG.opn (h : TwoG w0 w p σ x ρ (A ++ R)) : ∃ D : List Hp, St w0 w (A ++ D) ∧ ∀ w' A', St w0 w' (A' ++ D) → TwoG w0 w' p σ x ρ (A' ++ R) := opn_of_use h.use
theorem TwoG.sub {R' : List Hp} (h : TwoG w0 w p σ x ρ R) (hs : R'.Sublist R) : TwoG w0 w p σ x ρ R' := by
  obtain ⟨D, hS, hb⟩ := h.use
  exact hb _ _ (St.sub hS (hs.append_left D))

theorem g_open (h : TwoG w0 w p σ x ρ R) {n q a c : Int} {b : Bool} (hl : σ.l.length ≤ 1000000) (e : openS σ n q = ((a, b, c), σ')) :
    Calls Try.prog 9 #[.pointer (some ⟨p, 0, none⟩), .int .i64 n, .int .i64 q] w fun e w' => e = .returned (.tuple #[.int .i64 a, .bool b, .int .i64 c]) ∧ TwoG w0 w' p σ' x ρ R := by
  obtain ⟨E, h1, hb⟩ := h.onP
  refine (open_c w0 w _ p σ n q h1 (by omega)).mono ?_
  rw [e]
  rintro _ _ ⟨rfl, h2⟩
  exact ⟨rfl, hb _ _ _ h2⟩
theorem g_ropen (h : TwoG w0 w p σ x ρ R) {n q a c : Int} {b : Bool} (hl : ρ.l.length ≤ 1000000) (e : openS ρ n q = ((a, b, c), ρ')) :
    Calls Try.prog 25 #[.pointer (some ⟨x, 0, none⟩), .int .i64 n, .int .i64 q] w fun e w' => e = .returned (.tuple #[.int .i64 a, .bool b, .int .i64 c]) ∧ TwoG w0 w' p σ x ρ' R := by
  obtain ⟨E, h1, hb⟩ := h.onX
  refine (ropen_c h1 hl n q).mono ?_
  rw [e]
  rintro _ _ ⟨rfl, h2⟩
  exact ⟨rfl, hb _ _ _ h2⟩
theorem g_close (h : TwoG w0 w p σ x ρ R) {n : Int} {b : Bool} (e : closeS σ n = (b, σ')) :
    Calls Try.prog 23 #[.pointer (some ⟨p, 0, none⟩), .int .i64 n] w fun e w' => e = .returned (.bool b) ∧ TwoG w0 w' p σ' x ρ R := by
  obtain ⟨E, h1, hb⟩ := h.onP
  refine (close_c w0 w _ p σ n h1).mono ?_
  rw [e]
  rintro _ _ ⟨rfl, h2⟩
  exact ⟨rfl, hb _ _ _ h2⟩
theorem g_rclose (h : TwoG w0 w p σ x ρ R) {n : Int} {b : Bool} (hl : ρ.l.length ≤ 1000000) (e : closeS ρ n = (b, ρ')) :
    Calls Try.prog 26 #[.pointer (some ⟨x, 0, none⟩), .int .i64 n] w fun e w' => e = .returned (.bool b) ∧ TwoG w0 w' p σ x ρ' R := by
  obtain ⟨E, h1, hb⟩ := h.onX
  refine (rclose_c h1 hl n).mono ?_
  rw [e]
  rintro _ _ ⟨rfl, h2⟩
  exact ⟨rfl, hb _ _ _ h2⟩
theorem g_begin (h : TwoG w0 w p σ x ρ R) {n q m s1 s2 s3 s4 s5 : Int} (e : beginS σ n q = (⟨s1, s2, s3, s4, s5⟩, m, σ')) :
    Calls Try.prog 10 #[.pointer (some ⟨p, 0, none⟩), .int .i64 n, .int .i64 q] w fun e w' => e = .returned (.tuple #[.agg #[.int .i64 s1, .int .i64 s2, .int .i64 s3, .int .u64 s4, .int .i64 s5], .int .i64 m]) ∧ TwoG w0 w' p σ' x ρ R := by
  obtain ⟨E, h1, hb⟩ := h.onP
  refine (begin_c w0 w _ p σ n q h1).mono ?_
  rw [e]
  rintro _ _ ⟨rfl, h2⟩
  exact ⟨rfl, hb _ _ _ h2⟩
theorem g_rbegin (h : TwoG w0 w p σ x ρ R) {n q m s1 s2 s3 s4 s5 : Int} (hl : ρ.l.length ≤ 1000000) (e : beginS ρ n q = (⟨s1, s2, s3, s4, s5⟩, m, ρ')) :
    Calls Try.prog 27 #[.pointer (some ⟨x, 0, none⟩), .int .i64 n, .int .i64 q] w fun e w' => e = .returned (.tuple #[.agg #[.int .i64 s1, .int .i64 s2, .int .i64 s3, .int .u64 s4, .int .i64 s5], .int .i64 m]) ∧ TwoG w0 w' p σ x ρ' R := by
  obtain ⟨E, h1, hb⟩ := h.onX
  refine (rbegin_c h1 hl n q).mono ?_
  rw [e]
  rintro _ _ ⟨rfl, h2⟩
  exact ⟨rfl, hb _ _ _ h2⟩
theorem g_end (h : TwoG w0 w p σ x ρ R) {s1 s2 s3 s4 s5 : Int} {b : Bool} (e : endS σ ⟨s1, s2, s3, s4, s5⟩ = (b, σ')) :
    Calls Try.prog 11 #[.pointer (some ⟨p, 0, none⟩), .agg #[.int .i64 s1, .int .i64 s2, .int .i64 s3, .int .u64 s4, .int .i64 s5]] w fun e w' => e = .returned (.bool b) ∧ TwoG w0 w' p σ' x ρ R := by
  obtain ⟨E, h1, hb⟩ := h.onP
  refine (end_c w0 w _ p σ ⟨s1, s2, s3, s4, s5⟩ h1).mono ?_
  rw [e]
  rintro _ _ ⟨rfl, h2⟩
  exact ⟨rfl, hb _ _ _ h2⟩
theorem g_rend (h : TwoG w0 w p σ x ρ R) {s1 s2 s3 s4 s5 : Int} {b : Bool} (hl : ρ.l.length ≤ 1000000) (e : endS ρ ⟨s1, s2, s3, s4, s5⟩ = (b, ρ')) :
    Calls Try.prog 28 #[.pointer (some ⟨x, 0, none⟩), .agg #[.int .i64 s1, .int .i64 s2, .int .i64 s3, .int .u64 s4, .int .i64 s5]] w fun e w' => e = .returned (.bool b) ∧ TwoG w0 w' p σ x ρ' R := by
  obtain ⟨E, h1, hb⟩ := h.onX
  refine (rend_c h1 hl s1 s2 s3 s4 s5).mono ?_
  rw [e]
  rintro _ _ ⟨rfl, h2⟩
  exact ⟨rfl, hb _ _ _ h2⟩
theorem g_client (h : TwoG w0 w p σ x ρ R) {n a c : Int} {b : Bool} (e : clientS σ n = (a, c, b)) :
    Calls Try.prog 21 #[.pointer (some ⟨p, 0, none⟩), .int .i64 n] w fun e w' => e = .returned (.tuple #[.int .i64 a, .int .i64 c, .bool b]) ∧ TwoG w0 w' p σ x ρ R := by
  obtain ⟨E, h1, hb⟩ := h.onP
  refine (client_c w0 w _ p σ n h1).mono ?_
  rw [e]
  rintro _ _ ⟨rfl, h2⟩
  exact ⟨rfl, hb _ _ _ h2⟩
theorem g_rclient (h : TwoG w0 w p σ x ρ R) {n a c : Int} {b : Bool} (hl : ρ.l.length ≤ 1000000) (e : clientS ρ n = (a, c, b)) :
    Calls Try.prog 22 #[.pointer (some ⟨x, 0, none⟩), .int .i64 n] w fun e w' => e = .returned (.tuple #[.int .i64 a, .int .i64 c, .bool b]) ∧ TwoG w0 w' p σ x ρ R := by
  obtain ⟨E, h1, hb⟩ := h.onX
  refine (rclient_c h1 hl n).mono ?_
  rw [e]
  rintro _ _ ⟨rfl, h2⟩
  exact ⟨rfl, hb _ _ _ h2⟩
theorem g_enc {n : Nat} {bs : List UInt8} (h : TwoG w0 w p σ x ρ R) (hg : SG n σ) (hn : n ≤ 1000) (e : encS σ = bs) : Calls Try.prog 16 #[.pointer (some ⟨p, 0, none⟩)] w fun e w' => e = .returned (.string ⟨bs.toArray⟩) ∧ TwoG w0 w' p σ x ρ R := by
  obtain ⟨E, h1, hb⟩ := h.onP
  refine (enc_c w0 w _ p σ h1 (hg.ok hn)).mono ?_
  rw [e]
  rintro _ _ ⟨rfl, h2⟩
  exact ⟨rfl, hb _ _ _ h2⟩
theorem g_renc {n : Nat} {bs : List UInt8} (h : TwoG w0 w p σ x ρ R) (hg : SG n ρ) (hn : n ≤ 1000) (e : encS ρ = bs) : Calls Try.prog 20 #[.pointer (some ⟨x, 0, none⟩)] w fun e w' => e = .returned (.string ⟨bs.toArray⟩) ∧ TwoG w0 w' p σ x ρ R := by
  obtain ⟨E, h1, hb⟩ := h.onX
  have := hg.len
  refine (renc_c h1 (hg.ok hn) (by omega) (latS_ok (hg.ok hn))).mono ?_
  rw [enc_same hg, e]
  rintro _ _ ⟨rfl, h2⟩
  exact ⟨rfl, hb _ _ _ h2⟩
theorem SesSt.swapR {w0 w : World} {p : Nat} {σ : SesS} {a : Hp} {E R : List Hp} (h : SesSt w0 w p σ (a :: (E ++ R))) : SesSt w0 w p σ (E ++ (a :: R)) := by
  obtain ⟨D, hS, hb⟩ := h.use
  exact hb _ _ (hS.perm (List.Perm.append_left D List.perm_middle.symm))
theorem RefG.swapR {w0 w : World} {x : Nat} {σ : SesS} {a : Hp} {E R : List Hp} (h : RefG w0 w x σ (a :: (E ++ R))) : RefG w0 w x σ (E ++ (a :: R)) := by
  obtain ⟨D, hS, hb⟩ := h.use
  exact hb _ _ (hS.perm (List.Perm.append_left D List.perm_middle.symm))
theorem g_all {n : Nat} {L : List Int} (h : TwoG w0 w p σ x ρ R) (hl : σ.l.length ≤ 1000000) (hn : (allS σ).length = n) (e : allS σ = L) : Calls Try.prog 18 #[.pointer (some ⟨p, 0, none⟩)] w fun e w' => ∃ ao cap, e = .returned (.slice ao n cap) ∧ TwoG w0 w' p σ x ρ (.row 3 1 ao n cap (L.map (Value.int .i64)) :: R) := by
  obtain ⟨E, h1, hb⟩ := h.onP
  refine (all_c w0 w _ p σ h1 (by omega)).mono ?_
  rw [hn, e]
  rintro _ _ ⟨ao, cap, rfl, h2⟩
  exact ⟨ao, cap, rfl, hb _ _ (_ :: _) h2.swapR⟩
theorem g_rall {n : Nat} {L : List Int} (h : TwoG w0 w p σ x ρ R) (hl : ρ.l.length ≤ 1000000) (hn : (allS ρ).length = n) (e : allS ρ = L) : Calls Try.prog 19 #[.pointer (some ⟨x, 0, none⟩)] w fun e w' => ∃ ao cap, e = .returned (.slice ao n cap) ∧ TwoG w0 w' p σ x ρ (.row 3 1 ao n cap (L.map (Value.int .i64)) :: R) := by
  obtain ⟨E, h1, hb⟩ := h.onX
  refine (rall_c h1 hl).mono ?_
  rw [hn, e]
  rintro _ _ ⟨ao, cap, rfl, h2⟩
  exact ⟨ao, cap, rfl, hb _ _ (_ :: _) h2.swapR⟩
end

/-- Two rows of the same numbers. -/
theorem ints_s {w0 w : World} {H : List Hp} (hS : St w0 w H) (i j : Nat) (a1 a2 : Option Addr) (n c1 c2 : Nat) (l : List Int) (hi : H[i]? = some (.row 3 1 a1 n c1 (l.map (Value.int .i64)))) (hj : H[j]? = some (.row 3 1 a2 n c2 (l.map (Value.int .i64)))) (hn : l.length = n) (hl : n ≤ 1000000000) :
    Calls Try.prog 17 #[.slice a1 n c1, .slice a2 n c2] w fun e w' => e = .returned (.bool true) ∧ St w0 w' H := by
  have HI := Lib.hid hi
  have HJ := Lib.hid hj
  clear hi hj
  go_enter Try.func17, Try.ntmps17
  go_wp2_with (first | ((with_reducible show WGd ..); (with_reducible apply wpA_guard); exact rfl; skip) | ((with_reducible show WLd ..); (with_reducible apply wpA_load); exact rfl; (first | ((with_reducible apply St.cellI hS); (focus repeat constructor); exact rfl) | assumption); kernel_rfl) | ((with_reducible show WSt ..); (with_reducible apply wpA_store1I hS); exact rfl; (focus repeat constructor); exact rfl; exact rfl; exact rfl; exact rfl; kernel_rfl; intro wx hS; (try simp only [Act.put, List.setIfInBounds_toArray, List.set_cons_zero, List.set_cons_succ]); (try simp only [Act.eval, Array.getD_eq_getD_getElem?, List.getElem?_toArray, List.getElem?_cons_succ, List.getElem?_cons_zero, Option.getD_some, List.set_cons_succ, List.set_cons_zero, Value.cells, List.toList_toArray] at hS)) | ((with_reducible show WBx ..); (with_reducible apply wpA_box hS); exact rfl; exact rfl; intro _ wx hS; (try simp only [Act.put, List.setIfInBounds_toArray, List.set_cons_zero, List.set_cons_succ]); (try simp only [Act.eval, Array.getD_eq_getD_getElem?, List.getElem?_toArray, List.getElem?_cons_succ, List.getElem?_cons_zero, Option.getD_some, List.set_cons_succ, List.set_cons_zero, Value.cells, List.toList_toArray] at hS)))
  go_loopw [5] (fun c wr => ∃ k : Nat, k ≤ n ∧ c = .int .i64 k ∧ St w0 wr H) (fun c _ => n - (intOf c).toNat)
  case atStart => exact ⟨0, Nat.zero_le _, rfl, hS⟩
  case round =>
    clear hS
    obtain ⟨k, hk, rfl, hS⟩ := hrel
    by_cases hlt : k < n
    · obtain ⟨y, hy⟩ : ∃ y, l[k]? = some y := ⟨_, List.getElem?_eq_getElem (by omega)⟩
      rcases row_head (hS.at_ i HI.out) with ⟨_, hh, _⟩ | ⟨⟨g1, rfl⟩, _⟩
      · omega
      rcases row_head (hS.at_ j HJ.out) with ⟨_, hh, _⟩ | ⟨⟨g2, rfl⟩, _⟩
      · omega
      have HY : Hid ((l.map (Value.int .i64))[k]? = some (.int .i64 y)) := Lib.hid (by rw [List.getElem?_map, hy]; rfl)
      clear hy
      go_upto_region 6 with (first | ((with_reducible show WGd ..); (with_reducible apply wpA_guard); exact rfl; skip) | ((with_reducible show WLd ..); (with_reducible apply wpA_load); exact rfl; (first | ((with_reducible apply St.cellI hS); (focus repeat constructor); exact rfl) | assumption); kernel_rfl) | ((with_reducible show WSt ..); (with_reducible apply wpA_store1I hS); exact rfl; (focus repeat constructor); exact rfl; exact rfl; exact rfl; exact rfl; kernel_rfl; intro wx hS; (try simp only [Act.put, List.setIfInBounds_toArray, List.set_cons_zero, List.set_cons_succ]); (try simp only [Act.eval, Array.getD_eq_getD_getElem?, List.getElem?_toArray, List.getElem?_cons_succ, List.getElem?_cons_zero, Option.getD_some, List.set_cons_succ, List.set_cons_zero, Value.cells, List.toList_toArray] at hS)) | ((with_reducible show WBx ..); (with_reducible apply wpA_box hS); exact rfl; exact rfl; intro _ wx hS; (try simp only [Act.put, List.setIfInBounds_toArray, List.set_cons_zero, List.set_cons_succ]); (try simp only [Act.eval, Array.getD_eq_getD_getElem?, List.getElem?_toArray, List.getElem?_cons_succ, List.getElem?_cons_zero, Option.getD_some, List.set_cons_succ, List.set_cons_zero, Value.cells, List.toList_toArray] at hS)))
      refine wp_region_St hS (by kernel_rfl) (by kernel_rfl) (Bx.out ?_)
      refine bQ_val ?_ rfl ?_ ?_
      rotate_left
      · intro w hS; go_simp; (first | done | (with_reducible rfl) | (refine (if_pos ?_).trans ?_; (focus omega); with_reducible rfl) | skip)
      (simp only [Act.put, List.setIfInBounds_toArray, List.set_cons_zero, List.set_cons_succ])
      refine bQ_val ?_ rfl ?_ ?_
      rotate_left
      · intro w hS; go_simp; (first | done | (with_reducible rfl) | (refine (if_pos ?_).trans ?_; (focus omega); with_reducible rfl) | skip)
      (simp only [Act.put, List.setIfInBounds_toArray, List.set_cons_zero, List.set_cons_succ])
      refine bQ_val ?_ rfl ?_ ?_
      rotate_left
      · intro w hS; go_simp; (first | done | (with_reducible rfl) | (refine (if_pos ?_).trans ?_; (focus omega); with_reducible rfl) | skip)
      (simp only [Act.put, List.setIfInBounds_toArray, List.set_cons_zero, List.set_cons_succ])
      refine bQ_load rfl (fun w hS => by exact row_cell (hS.at_ i HI.out) k HY.out) (by kernel_rfl) ?_
      (simp only [Act.put, List.setIfInBounds_toArray, List.set_cons_zero, List.set_cons_succ])
      refine bQ_val ?_ rfl ?_ ?_
      rotate_left
      · intro w hS; go_simp; (first | done | (with_reducible rfl) | (refine (if_pos ?_).trans ?_; (focus omega); with_reducible rfl) | skip)
      (simp only [Act.put, List.setIfInBounds_toArray, List.set_cons_zero, List.set_cons_succ])
      refine bQ_val ?_ rfl ?_ ?_
      rotate_left
      · intro w hS; go_simp; (first | done | (with_reducible rfl) | (refine (if_pos ?_).trans ?_; (focus omega); with_reducible rfl) | skip)
      (simp only [Act.put, List.setIfInBounds_toArray, List.set_cons_zero, List.set_cons_succ])
      refine bQ_val ?_ rfl ?_ ?_
      rotate_left
      · intro w hS; go_simp; (first | done | (with_reducible rfl) | (refine (if_pos ?_).trans ?_; (focus omega); with_reducible rfl) | skip)
      (simp only [Act.put, List.setIfInBounds_toArray, List.set_cons_zero, List.set_cons_succ])
      refine bQ_load rfl (fun w hS => by exact row_cell (hS.at_ j HJ.out) k HY.out) (by kernel_rfl) ?_
      (simp only [Act.put, List.setIfInBounds_toArray, List.set_cons_zero, List.set_cons_succ])
      refine bQ_val ?_ rfl ?_ ?_
      rotate_left
      · intro w hS; go_simp; (first | done | (with_reducible rfl) | (refine (if_pos ?_).trans ?_; (focus omega); with_reducible rfl) | skip)
      (simp only [Act.put, List.setIfInBounds_toArray, List.set_cons_zero, List.set_cons_succ])
      refine ⟨wpQuiet_nil ?_⟩
      intro wx hS
      go_wp2_with (first | ((with_reducible show WGd ..); (with_reducible apply wpA_guard); exact rfl; skip) | ((with_reducible show WLd ..); (with_reducible apply wpA_load); exact rfl; (first | ((with_reducible apply St.cellI hS); (focus repeat constructor); exact rfl) | assumption); kernel_rfl) | ((with_reducible show WSt ..); (with_reducible apply wpA_store1I hS); exact rfl; (focus repeat constructor); exact rfl; exact rfl; exact rfl; exact rfl; kernel_rfl; intro wx hS; (try simp only [Act.put, List.setIfInBounds_toArray, List.set_cons_zero, List.set_cons_succ]); (try simp only [Act.eval, Array.getD_eq_getD_getElem?, List.getElem?_toArray, List.getElem?_cons_succ, List.getElem?_cons_zero, Option.getD_some, List.set_cons_succ, List.set_cons_zero, Value.cells, List.toList_toArray] at hS)) | ((with_reducible show WBx ..); (with_reducible apply wpA_box hS); exact rfl; exact rfl; intro _ wx hS; (try simp only [Act.put, List.setIfInBounds_toArray, List.set_cons_zero, List.set_cons_succ]); (try simp only [Act.eval, Array.getD_eq_getD_getElem?, List.getElem?_toArray, List.getElem?_cons_succ, List.getElem?_cons_zero, Option.getD_some, List.set_cons_succ, List.set_cons_zero, Value.cells, List.toList_toArray] at hS)))
      go_roundw
      case rel => exact ⟨k + 1, by omega, by go_num, hS⟩
      case measure => simp [intOf]; omega
    · obtain rfl : k = n := by omega
      go_wp2_with (first | ((with_reducible show WGd ..); (with_reducible apply wpA_guard); exact rfl; skip) | ((with_reducible show WLd ..); (with_reducible apply wpA_load); exact rfl; (first | ((with_reducible apply St.cellI hS); (focus repeat constructor); exact rfl) | assumption); kernel_rfl) | ((with_reducible show WSt ..); (with_reducible apply wpA_store1I hS); exact rfl; (focus repeat constructor); exact rfl; exact rfl; exact rfl; exact rfl; kernel_rfl; intro wx hS; (try simp only [Act.put, List.setIfInBounds_toArray, List.set_cons_zero, List.set_cons_succ]); (try simp only [Act.eval, Array.getD_eq_getD_getElem?, List.getElem?_toArray, List.getElem?_cons_succ, List.getElem?_cons_zero, Option.getD_some, List.set_cons_succ, List.set_cons_zero, Value.cells, List.toList_toArray] at hS)) | ((with_reducible show WBx ..); (with_reducible apply wpA_box hS); exact rfl; exact rfl; intro _ wx hS; (try simp only [Act.put, List.setIfInBounds_toArray, List.set_cons_zero, List.set_cons_succ]); (try simp only [Act.eval, Array.getD_eq_getD_getElem?, List.getElem?_toArray, List.getElem?_cons_succ, List.getElem?_cons_zero, Option.getD_some, List.set_cons_succ, List.set_cons_zero, Value.cells, List.toList_toArray] at hS)))
      go_ret
      exact ⟨rfl, hS⟩
end Go.Proofs.Ytodojllclghoiaa
