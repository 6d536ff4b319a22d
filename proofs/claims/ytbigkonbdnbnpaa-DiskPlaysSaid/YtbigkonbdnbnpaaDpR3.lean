/-
  The reference's disk: Read, Unsynced, Sync, walked.
-/
import Derived.Test.YtbigkonbdnbnpaaDpR2
namespace Go.Proofs.Ytbigkonbdnbnpaa
set_option linter.unusedVariables false
set_option linter.unusedSimpArgs false
open Go.RowKit

section
variable {w0 w : World} {D : List Hp} {x : Nat} {a : Option Addr} {c : Nat} {clk : Int} {L : List FileR}
theorem rfind_e (hS : St w0 w (rdc x a L.length c clk :: frow a c L :: D)) (s : ByteArray) (hl : L.length ≤ 1000000000) {v : Int} (hv : fnd L s = v) :
    Calls Try.prog 40 #[.pointer (some ⟨x, 0, none⟩), .string s] w fun e w' => e = .returned (.int .i64 v) ∧ St w0 w' (rdc x a L.length c clk :: frow a c L :: D) := by
  subst hv
  exact rfind_s hS s hl
end
section
variable {w0 w : World} {x : Nat} {R : List Hp} {ρ : RefD} {s : ByteArray} {i : Nat}
theorem rat_idx {L : List FileR} (hL : L.map FileR.d = ρ.l) (s : ByteArray) : rat ρ s = L.findIdx? (fun z => decide (z.nm = s)) := by
  unfold rat
  rw [← hL, List.findIdx?_map]; rfl
theorem fnd_of_none {L : List FileR} (hL : L.map FileR.d = ρ.l) (hr : rat ρ s = none) : fnd L s = -1 := by
  rw [rat_idx hL] at hr; unfold fnd; rw [hr]
theorem fnd_of_some {L : List FileR} (hL : L.map FileR.d = ρ.l) (hr : rat ρ s = some i) : fnd L s = i := by
  rw [rat_idx hL] at hr; unfold fnd; rw [hr]
theorem file_of {L : List FileR} (hL : L.map FileR.d = ρ.l) (hr : rat ρ s = some i) : ∃ ia ic b, L[i]? = some ⟨s, ia, ic, b⟩ ∧ ρ.l[i]? = some (s, b) := by
  obtain ⟨b, hb⟩ := rat_some hr
  have h1 := hb
  rw [← hL, List.getElem?_map] at h1
  cases hz : L[i]? with
  | none => rw [hz] at h1; cases h1
  | some z =>
    rw [hz] at h1
    obtain ⟨nm, za, zc, zl⟩ := z
    simp [FileR.d] at h1
    obtain ⟨rfl, rfl⟩ := h1
    exact ⟨za, zc, _, rfl, hb⟩
theorem len_of {L : List FileR} (hL : L.map FileR.d = ρ.l) : L.length = ρ.l.length := by rw [← hL, List.length_map]
/-- One file out of the others. -/
theorem RefDSt.file (h : RefDSt w0 w x ρ R) (hr : rat ρ s = some i) : ∃ (a : Option Addr) (c : Nat) (L : List FileR) (ia : Option Addr) (ic : Nat) (b : List BR) (D : List Hp), L.length = ρ.l.length ∧ L[i]? = some ⟨s, ia, ic, b⟩ ∧ ρ.l[i]? = some (s, b) ∧ fnd L s = i ∧
    St w0 w (rdc x a L.length c ρ.clock :: frow a c L :: brow ia ic b :: D) ∧ (∀ w', St w0 w' (rdc x a L.length c ρ.clock :: frow a c L :: brow ia ic b :: D) → RefDSt w0 w' x ρ R) ∧
    ∀ w' clk' ia' ic' b', St w0 w' (rdc x a L.length c clk' :: frow a c (L.set i ⟨s, ia', ic', b'⟩) :: brow ia' ic' b' :: D) → RefDSt w0 w' x ⟨ρ.l.set i (s, b'), clk'⟩ R := by
  obtain ⟨a, c, L, hL, hS⟩ := h
  obtain ⟨ia, ic, b, hz, hb⟩ := file_of hL hr
  have hS2 := St.takeOut (f := fhp) (A := [_, _]) (R := R) hz hS
  have key : ∀ w' clk' ia' ic' b', St w0 w' (rdc x a L.length c clk' :: frow a c (L.set i ⟨s, ia', ic', b'⟩) :: brow ia' ic' b' :: ((L.eraseIdx i).flatMap fhp ++ R)) → RefDSt w0 w' x ⟨ρ.l.set i (s, b'), clk'⟩ R := by
    intro w' clk' ia' ic' b' h'
    have h2 := St.putIn (w0 := w0) (f := fhp) (A := [rdc x a L.length c clk', frow a c (L.set i ⟨s, ia', ic', b'⟩)]) (R := R) (z' := ⟨s, ia', ic', b'⟩) hz h'
    refine ⟨a, c, L.set i ⟨s, ia', ic', b'⟩, by rw [List.map_set, hL]; rfl, ?_⟩
    rw [List.length_set]
    exact h2
  refine ⟨a, c, L, ia, ic, b, (L.eraseIdx i).flatMap fhp ++ R, len_of hL, hz, hb, fnd_of_some hL hr, hS2, fun w' h' => ?_, key⟩
  have h3 := key w' ρ.clock ia ic b (by rw [set_getElem hz]; exact h')
  rw [set_getElem hb] at h3
  exact h3

structure RefD.ok (ρ : RefD) : Prop where
  len : ρ.l.length ≤ 1000000
  bytes : ∀ y ∈ ρ.l, y.2.length ≤ 4194304
  c0 : 0 ≤ ρ.clock
  c1 : ρ.clock ≤ 1000000000

set_option maxHeartbeats 4000000 in
theorem rread_c (h : RefDSt w0 w x ρ R) (ok : ρ.ok) (s : ByteArray) :
    Calls Try.prog 26 #[.pointer (some ⟨x, 0, none⟩), .string s] w fun e w' => e = .returned (.tuple #[.string (readR ρ s).1, .int .i64 (readR ρ s).2]) ∧ RefDSt w0 w' x ρ R := by
  unfold readR rfile
  cases hr : rat ρ s with
  | none =>
    obtain ⟨a, c, L, hL, hS⟩ := h
    have hf := fnd_of_none hL hr
    have hl : L.length ≤ 1000000000 := by rw [len_of hL]; have := ok.len; omega
    have HL := Lib.hid hL
    clear hL hr ok
    go_enter Try.func26, Try.ntmps26
    go_wp2_with (first | ((with_reducible show WGd ..); (with_reducible apply wpA_guard); exact rfl; skip) | (go_at_call 40; go_loud (skip); go_loud (with_reducible refine (rfind_e hS s hl hf).mono ?_); go_loud (rintro _ _ ⟨rfl, hS⟩); go_loud (skip)) | ((with_reducible show WLd ..); (with_reducible apply wpA_load); exact rfl; (first | ((with_reducible apply St.cellI hS); (focus repeat constructor); exact rfl) | assumption); kernel_rfl) | ((with_reducible show WSt ..); (with_reducible apply wpA_store1I hS); exact rfl; (focus repeat constructor); exact rfl; exact rfl; exact rfl; exact rfl; kernel_rfl; intro wx hS; (try simp only [Act.put, List.setIfInBounds_toArray, List.set_cons_zero, List.set_cons_succ]); (try simp only [Act.eval, Array.getD_eq_getD_getElem?, List.getElem?_toArray, List.getElem?_cons_succ, List.getElem?_cons_zero, Option.getD_some, List.set_cons_succ, List.set_cons_zero, Value.cells, List.toList_toArray] at hS)) | ((with_reducible show WBx ..); (with_reducible apply wpA_box hS); exact rfl; exact rfl; intro _ wx hS; (try simp only [Act.put, List.setIfInBounds_toArray, List.set_cons_zero, List.set_cons_succ]); (try simp only [Act.eval, Array.getD_eq_getD_getElem?, List.getElem?_toArray, List.getElem?_cons_succ, List.getElem?_cons_zero, Option.getD_some, List.set_cons_succ, List.set_cons_zero, Value.cells, List.toList_toArray] at hS)))
    go_ret2
    exact ⟨rfl, a, c, L, HL.out, hS⟩
  | some i =>
    obtain ⟨a, c, L, ia, ic, b, D, hll, hz, hb, hf, hS, hbk, _⟩ := h.file hr
    have hl : L.length ≤ 1000000000 := by rw [hll]; have := ok.len; omega
    have hbl : b.length ≤ 4194304 := ok.bytes _ (List.mem_of_getElem? hb)
    have hi : i < L.length := (List.getElem?_eq_some_iff.1 hz).1
    have hd0 : decide ((i : Int) < 0) = false := by simp
    rcases row_head (hS.at_ 1 rfl) with ⟨_, hh, _⟩ | ⟨⟨gF, rfl⟩, _⟩
    · omega
    simp only [Option.bind_some, hb, Option.map_some]
    have HZ := Lib.hid hz
    have HB := Lib.hid hbk
    clear hz hbk hb hr ok h
    go_enter Try.func26, Try.ntmps26
    go_upto_block 0 with (first | ((with_reducible show WGd ..); (with_reducible apply wpA_guard); exact rfl; skip) | (go_at_call 40; go_loud (skip); go_loud (with_reducible refine (rfind_e hS s hl hf).mono ?_); go_loud (rintro _ _ ⟨rfl, hS⟩); go_loud (skip)) | ((with_reducible show WLd ..); (with_reducible apply wpA_load); exact rfl; (first | ((with_reducible apply St.cellI hS); (focus repeat constructor); exact rfl) | assumption); kernel_rfl) | ((with_reducible show WSt ..); (with_reducible apply wpA_store1I hS); exact rfl; (focus repeat constructor); exact rfl; exact rfl; exact rfl; exact rfl; kernel_rfl; intro wx hS; (try simp only [Act.put, List.setIfInBounds_toArray, List.set_cons_zero, List.set_cons_succ]); (try simp only [Act.eval, Array.getD_eq_getD_getElem?, List.getElem?_toArray, List.getElem?_cons_succ, List.getElem?_cons_zero, Option.getD_some, List.set_cons_succ, List.set_cons_zero, Value.cells, List.toList_toArray] at hS)) | ((with_reducible show WBx ..); (with_reducible apply wpA_box hS); exact rfl; exact rfl; intro _ wx hS; (try simp only [Act.put, List.setIfInBounds_toArray, List.set_cons_zero, List.set_cons_succ]); (try simp only [Act.eval, Array.getD_eq_getD_getElem?, List.getElem?_toArray, List.getElem?_cons_succ, List.getElem?_cons_zero, Option.getD_some, List.set_cons_succ, List.set_cons_zero, Value.cells, List.toList_toArray] at hS)))
    go_cut [7] (fun v7 wr => ∃ (ao : Option Addr) (cap : Nat), v7 = .slice ao b.length cap ∧ St w0 wr (.row 5 1 ao b.length cap ((b.map (·.1)).map u8v) :: rdc x (some ⟨gF, 0, none⟩) L.length c ρ.clock :: frow (some ⟨gF, 0, none⟩) c L :: brow ia ic b :: D))
    case first =>
      go_wp2_with (first | ((with_reducible show WGd ..); (with_reducible apply wpA_guard); exact rfl; skip) | ((with_reducible show WLd ..); (with_reducible apply wpA_load); exact rfl; (first | ((with_reducible apply St.cellI hS); (focus repeat constructor); exact rfl) | assumption); kernel_rfl) | ((with_reducible show WSt ..); (with_reducible apply wpA_store1I hS); exact rfl; (focus repeat constructor); exact rfl; exact rfl; exact rfl; exact rfl; kernel_rfl; intro wx hS; (try simp only [Act.put, List.setIfInBounds_toArray, List.set_cons_zero, List.set_cons_succ]); (try simp only [Act.eval, Array.getD_eq_getD_getElem?, List.getElem?_toArray, List.getElem?_cons_succ, List.getElem?_cons_zero, Option.getD_some, List.set_cons_succ, List.set_cons_zero, Value.cells, List.toList_toArray] at hS)) | ((with_reducible show WBx ..); (with_reducible apply wpA_box hS); exact rfl; exact rfl; intro _ wx hS; (try simp only [Act.put, List.setIfInBounds_toArray, List.set_cons_zero, List.set_cons_succ]); (try simp only [Act.eval, Array.getD_eq_getD_getElem?, List.getElem?_toArray, List.getElem?_cons_succ, List.getElem?_cons_zero, Option.getD_some, List.set_cons_succ, List.set_cons_zero, Value.cells, List.toList_toArray] at hS)))
      go_loopw [7, 8] (fun v7 v8 wr => ∃ (j : Nat) (ao : Option Addr) (cap : Nat), j ≤ b.length ∧ v8 = .int .i64 j ∧ v7 = .slice ao j cap ∧ St w0 wr (.row 5 1 ao j cap (((b.take j).map (·.1)).map u8v) :: rdc x (some ⟨gF, 0, none⟩) L.length c ρ.clock :: frow (some ⟨gF, 0, none⟩) c L :: brow ia ic b :: D)) (fun _ v8 _ => b.length - (intOf v8).toNat)
      case atStart => exact ⟨0, none, 0, Nat.zero_le _, rfl, rfl, hS.nilRow 5 1⟩
      case round =>
        clear hS
        obtain ⟨j, ao, cap, hj, rfl, rfl, hS⟩ := hrel
        by_cases hlt : j < b.length
        · obtain ⟨y, hy⟩ : ∃ y, b[j]? = some y := ⟨_, List.getElem?_eq_getElem hlt⟩
          rcases row_head (hS.at_ 3 rfl) with ⟨_, hh, _⟩ | ⟨⟨gB, rfl⟩, _⟩
          · omega
          have HT : Hid ((((b.take j).map (·.1)).map u8v) ++ [.int .u8 y.1.toNat] = ((b.take (j + 1)).map (·.1)).map u8v) := Lib.hid (by rw [List.take_add_one, hy]; simp [u8v])
          have HY := Lib.hid hy
          clear hy
          go_wp2_with (first | ((with_reducible show WGd ..); (with_reducible apply wpA_guard); exact rfl; skip) | ((with_reducible show WLd ..); (with_reducible apply wpA_load); exact rfl; exact (row_elem FileR.cells_length (hS.at_ 2 rfl) HZ.out) 1 _ rfl; kernel_rfl) | ((with_reducible show WLd ..); (with_reducible apply wpA_load); exact rfl; exact (row_elem bcells_length (hS.at_ 3 rfl) HY.out) 0 _ rfl; kernel_rfl) | ((first | ((with_reducible show WBs ..); (with_reducible apply wpA_oneN hS (z := .int .u8 0) (bytes := 1) (size := 1)); exact Try.underlying33; kernel_rfl; exact rfl; exact rfl; exact rfl; exact (by decide); exact (by decide); intro _ wx hS) | ((with_reducible show WBx ..); (with_reducible apply wpA_box hS); exact rfl; exact rfl; intro _ wx hS)); (try simp only [Act.put, List.setIfInBounds_toArray, List.set_cons_zero, List.set_cons_succ]); (try simp only [Act.eval, Array.getD_eq_getD_getElem?, List.getElem?_toArray, List.getElem?_cons_succ, List.getElem?_cons_zero, Option.getD_some, List.set_cons_succ, List.set_cons_zero, Value.cells, List.toList_toArray] at hS)) | ((with_reducible show WAp ..); (with_reducible apply wpA_appendI hS (e := 5) (z := .int .u8 0) (size := 1) (bytes := 1)); exact rfl; exact rfl; exact Try.underlying33; (focus repeat constructor); exact .inr Try.underlying33; kernel_rfl; exact rfl; exact (Src.freshN (m := 1) hS 0 rfl rfl (by rfl)); exact (by unfold maxLen; omega); exact (by omega); intro ao2 cap2 wx hS; (try simp only [Act.put, List.setIfInBounds_toArray, List.set_cons_zero, List.set_cons_succ])) | ((with_reducible show WLd ..); (with_reducible apply wpA_load); exact rfl; (first | ((with_reducible apply St.cellI hS); (focus repeat constructor); exact rfl) | assumption); kernel_rfl) | ((with_reducible show WSt ..); (with_reducible apply wpA_store1I hS); exact rfl; (focus repeat constructor); exact rfl; exact rfl; exact rfl; exact rfl; kernel_rfl; intro wx hS; (try simp only [Act.put, List.setIfInBounds_toArray, List.set_cons_zero, List.set_cons_succ]); (try simp only [Act.eval, Array.getD_eq_getD_getElem?, List.getElem?_toArray, List.getElem?_cons_succ, List.getElem?_cons_zero, Option.getD_some, List.set_cons_succ, List.set_cons_zero, Value.cells, List.toList_toArray] at hS)))
          (try simp only [Act.put, Act.eval, Array.getD_eq_getD_getElem?, List.setIfInBounds_toArray, List.getElem?_toArray, List.getElem?_cons_succ, List.getElem?_cons_zero, Option.getD_some, List.set_cons_succ, List.set_cons_zero, Value.cells, List.toList_toArray] at hS)
          replace hS := hS.tail
          rw [HT.out] at hS
          go_roundw
          case rel => exact ⟨j + 1, _, _, by omega, by go_num, rfl, hS⟩
          case measure => simp [intOf]; omega
        · obtain rfl : j = b.length := by omega
          go_wp2_with (first | ((with_reducible show WGd ..); (with_reducible apply wpA_guard); exact rfl; skip) | ((with_reducible show WLd ..); (with_reducible apply wpA_load); exact rfl; exact (row_elem FileR.cells_length (hS.at_ 2 rfl) HZ.out) 1 _ rfl; kernel_rfl) | ((with_reducible show WLd ..); (with_reducible apply wpA_load); exact rfl; (first | ((with_reducible apply St.cellI hS); (focus repeat constructor); exact rfl) | assumption); kernel_rfl) | ((with_reducible show WSt ..); (with_reducible apply wpA_store1I hS); exact rfl; (focus repeat constructor); exact rfl; exact rfl; exact rfl; exact rfl; kernel_rfl; intro wx hS; (try simp only [Act.put, List.setIfInBounds_toArray, List.set_cons_zero, List.set_cons_succ]); (try simp only [Act.eval, Array.getD_eq_getD_getElem?, List.getElem?_toArray, List.getElem?_cons_succ, List.getElem?_cons_zero, Option.getD_some, List.set_cons_succ, List.set_cons_zero, Value.cells, List.toList_toArray] at hS)) | ((with_reducible show WBx ..); (with_reducible apply wpA_box hS); exact rfl; exact rfl; intro _ wx hS; (try simp only [Act.put, List.setIfInBounds_toArray, List.set_cons_zero, List.set_cons_succ]); (try simp only [Act.eval, Array.getD_eq_getD_getElem?, List.getElem?_toArray, List.getElem?_cons_succ, List.getElem?_cons_zero, Option.getD_some, List.set_cons_succ, List.set_cons_zero, Value.cells, List.toList_toArray] at hS)))
          go_meet
          rw [List.take_length] at hS
          exact ⟨_, _, rfl, hS⟩
    case rest =>
      clear hS
      obtain ⟨ao, cap, rfl, hS⟩ := hcut
      go_wp2_with (first | ((with_reducible show WGd ..); (with_reducible apply wpA_guard); exact rfl; skip) | ((with_reducible show wpList _ _ _ (⟨_, .convert _ _ _, _, _, _, none⟩ :: _) _ _); (with_reducible apply wpA_toString hS 0); exact rfl; exact rfl; exact Try.underlying33; exact Try.underlying5; exact Try.underlying9) | ((with_reducible show WLd ..); (with_reducible apply wpA_load); exact rfl; (first | ((with_reducible apply St.cellI hS); (focus repeat constructor); exact rfl) | assumption); kernel_rfl) | ((with_reducible show WSt ..); (with_reducible apply wpA_store1I hS); exact rfl; (focus repeat constructor); exact rfl; exact rfl; exact rfl; exact rfl; kernel_rfl; intro wx hS; (try simp only [Act.put, List.setIfInBounds_toArray, List.set_cons_zero, List.set_cons_succ]); (try simp only [Act.eval, Array.getD_eq_getD_getElem?, List.getElem?_toArray, List.getElem?_cons_succ, List.getElem?_cons_zero, Option.getD_some, List.set_cons_succ, List.set_cons_zero, Value.cells, List.toList_toArray] at hS)) | ((with_reducible show WBx ..); (with_reducible apply wpA_box hS); exact rfl; exact rfl; intro _ wx hS; (try simp only [Act.put, List.setIfInBounds_toArray, List.set_cons_zero, List.set_cons_succ]); (try simp only [Act.eval, Array.getD_eq_getD_getElem?, List.getElem?_toArray, List.getElem?_cons_succ, List.getElem?_cons_zero, Option.getD_some, List.set_cons_succ, List.set_cons_zero, Value.cells, List.toList_toArray] at hS)))
      go_ret2
      refine ⟨?_, HB.out _ hS.tail⟩
      simp
set_option maxHeartbeats 4000000 in
theorem runsynced_c (h : RefDSt w0 w x ρ R) (ok : ρ.ok) (s : ByteArray) :
    Calls Try.prog 30 #[.pointer (some ⟨x, 0, none⟩), .string s] w fun e w' => e = .returned (.int .i64 (unsyncedR ρ s)) ∧ RefDSt w0 w' x ρ R := by
  unfold unsyncedR rfile
  cases hr : rat ρ s with
  | none =>
    obtain ⟨a, c, L, hL, hS⟩ := h
    have hf := fnd_of_none hL hr
    have hl : L.length ≤ 1000000000 := by rw [len_of hL]; have := ok.len; omega
    have HL := Lib.hid hL
    clear hL hr ok
    go_enter Try.func30, Try.ntmps30
    go_wp2_with (first | ((with_reducible show WGd ..); (with_reducible apply wpA_guard); exact rfl; skip) | (go_at_call 40; go_loud (skip); go_loud (with_reducible refine (rfind_e hS s hl hf).mono ?_); go_loud (rintro _ _ ⟨rfl, hS⟩); go_loud (skip)) | ((with_reducible show WLd ..); (with_reducible apply wpA_load); exact rfl; (first | ((with_reducible apply St.cellI hS); (focus repeat constructor); exact rfl) | assumption); kernel_rfl) | ((with_reducible show WSt ..); (with_reducible apply wpA_store1I hS); exact rfl; (focus repeat constructor); exact rfl; exact rfl; exact rfl; exact rfl; kernel_rfl; intro wx hS; (try simp only [Act.put, List.setIfInBounds_toArray, List.set_cons_zero, List.set_cons_succ]); (try simp only [Act.eval, Array.getD_eq_getD_getElem?, List.getElem?_toArray, List.getElem?_cons_succ, List.getElem?_cons_zero, Option.getD_some, List.set_cons_succ, List.set_cons_zero, Value.cells, List.toList_toArray] at hS)) | ((with_reducible show WBx ..); (with_reducible apply wpA_box hS); exact rfl; exact rfl; intro _ wx hS; (try simp only [Act.put, List.setIfInBounds_toArray, List.set_cons_zero, List.set_cons_succ]); (try simp only [Act.eval, Array.getD_eq_getD_getElem?, List.getElem?_toArray, List.getElem?_cons_succ, List.getElem?_cons_zero, Option.getD_some, List.set_cons_succ, List.set_cons_zero, Value.cells, List.toList_toArray] at hS)))
    go_loopw [6] (fun v6 wr => v6 = .int .i64 0 ∧ St w0 wr (rdc x a L.length c ρ.clock :: frow a c L :: (L.flatMap fhp ++ R))) (fun _ _ => 0)
    case atStart => exact ⟨rfl, hS⟩
    case round =>
      clear hS
      obtain ⟨rfl, hS⟩ := hrel
      go_wp2_with (first | ((with_reducible show WGd ..); (with_reducible apply wpA_guard); exact rfl; skip) | ((with_reducible show WLd ..); (with_reducible apply wpA_load); exact rfl; (first | ((with_reducible apply St.cellI hS); (focus repeat constructor); exact rfl) | assumption); kernel_rfl) | ((with_reducible show WSt ..); (with_reducible apply wpA_store1I hS); exact rfl; (focus repeat constructor); exact rfl; exact rfl; exact rfl; exact rfl; kernel_rfl; intro wx hS; (try simp only [Act.put, List.setIfInBounds_toArray, List.set_cons_zero, List.set_cons_succ]); (try simp only [Act.eval, Array.getD_eq_getD_getElem?, List.getElem?_toArray, List.getElem?_cons_succ, List.getElem?_cons_zero, Option.getD_some, List.set_cons_succ, List.set_cons_zero, Value.cells, List.toList_toArray] at hS)) | ((with_reducible show WBx ..); (with_reducible apply wpA_box hS); exact rfl; exact rfl; intro _ wx hS; (try simp only [Act.put, List.setIfInBounds_toArray, List.set_cons_zero, List.set_cons_succ]); (try simp only [Act.eval, Array.getD_eq_getD_getElem?, List.getElem?_toArray, List.getElem?_cons_succ, List.getElem?_cons_zero, Option.getD_some, List.set_cons_succ, List.set_cons_zero, Value.cells, List.toList_toArray] at hS)))
      go_ret
      exact ⟨rfl, a, c, L, HL.out, hS⟩
  | some i =>
    obtain ⟨a, c, L, ia, ic, b, D, hll, hz, hb, hf, hS, hbk, _⟩ := h.file hr
    have hl : L.length ≤ 1000000000 := by rw [hll]; have := ok.len; omega
    have hbl : b.length ≤ 4194304 := ok.bytes _ (List.mem_of_getElem? hb)
    have hi : i < L.length := (List.getElem?_eq_some_iff.1 hz).1
    have hd0 : decide (0 ≤ (i : Int)) = true := by simp
    rcases row_head (hS.at_ 1 rfl) with ⟨_, hh, _⟩ | ⟨⟨gF, rfl⟩, _⟩
    · omega
    simp only [Option.bind_some, hb, Option.map_some]
    have HZ := Lib.hid hz
    have HB := Lib.hid hbk
    clear hz hbk hb hr ok h
    go_enter Try.func30, Try.ntmps30
    go_wp2_with (first | ((with_reducible show WGd ..); (with_reducible apply wpA_guard); exact rfl; skip) | (go_at_call 40; go_loud (skip); go_loud (with_reducible refine (rfind_e hS s hl hf).mono ?_); go_loud (rintro _ _ ⟨rfl, hS⟩); go_loud (skip)) | ((with_reducible show WLd ..); (with_reducible apply wpA_load); exact rfl; (first | ((with_reducible apply St.cellI hS); (focus repeat constructor); exact rfl) | assumption); kernel_rfl) | ((with_reducible show WSt ..); (with_reducible apply wpA_store1I hS); exact rfl; (focus repeat constructor); exact rfl; exact rfl; exact rfl; exact rfl; kernel_rfl; intro wx hS; (try simp only [Act.put, List.setIfInBounds_toArray, List.set_cons_zero, List.set_cons_succ]); (try simp only [Act.eval, Array.getD_eq_getD_getElem?, List.getElem?_toArray, List.getElem?_cons_succ, List.getElem?_cons_zero, Option.getD_some, List.set_cons_succ, List.set_cons_zero, Value.cells, List.toList_toArray] at hS)) | ((with_reducible show WBx ..); (with_reducible apply wpA_box hS); exact rfl; exact rfl; intro _ wx hS; (try simp only [Act.put, List.setIfInBounds_toArray, List.set_cons_zero, List.set_cons_succ]); (try simp only [Act.eval, Array.getD_eq_getD_getElem?, List.getElem?_toArray, List.getElem?_cons_succ, List.getElem?_cons_zero, Option.getD_some, List.set_cons_succ, List.set_cons_zero, Value.cells, List.toList_toArray] at hS)))
    go_loopw [6, 7] (fun v6 v7 wr => ∃ (j : Nat), j ≤ b.length ∧ v7 = .int .i64 j ∧ v6 = .int .i64 ((b.take j).countP fun y => decide (0 < y.2)) ∧ St w0 wr (rdc x (some ⟨gF, 0, none⟩) L.length c ρ.clock :: frow (some ⟨gF, 0, none⟩) c L :: brow ia ic b :: D)) (fun _ v7 _ => b.length - (intOf v7).toNat)
    case atStart => exact ⟨0, Nat.zero_le _, rfl, rfl, hS⟩
    case round =>
      clear hS
      obtain ⟨j, hj, rfl, rfl, hS⟩ := hrel
      by_cases hlt : j < b.length
      · have hdj : decide ((j : Int) < (b.length : Int)) = true := by simpa using hlt
        obtain ⟨y, hy⟩ : ∃ y, b[j]? = some y := ⟨_, List.getElem?_eq_getElem hlt⟩
        rcases row_head (hS.at_ 2 rfl) with ⟨_, hh, _⟩ | ⟨⟨gB, rfl⟩, _⟩
        · omega
        obtain ⟨n, hn⟩ : ∃ n, (b.take j).countP (fun y => decide (0 < y.2)) = n := ⟨_, rfl⟩
        have hnl : n ≤ j := by rw [← hn]; exact Nat.le_trans List.countP_le_length (by rw [List.length_take]; omega)
        by_cases hw : 0 < y.2
        · have HT : Hid ((b.take (j + 1)).countP (fun y => decide (0 < y.2)) = n + 1) := Lib.hid (by rw [List.take_add_one, hy, List.countP_append, hn]; simp [hw])
          have hd : decide (0 < y.2) = true := by simpa using hw
          rw [hn]
          have HY := Lib.hid hy
          obtain ⟨y1, y2⟩ := y
          simp only at hd
          clear hy hn hw
          go_wp2_with (first | ((with_reducible show WGd ..); (with_reducible apply wpA_guard); exact rfl; skip) | ((with_reducible show WLd ..); (with_reducible apply wpA_load); exact rfl; exact (row_elem FileR.cells_length (hS.at_ 1 rfl) HZ.out) 1 _ rfl; kernel_rfl) | ((with_reducible show WLd ..); (with_reducible apply wpA_load); exact rfl; exact (row_elem bcells_length (hS.at_ 2 rfl) HY.out) 1 _ rfl; kernel_rfl) | ((with_reducible show WLd ..); (with_reducible apply wpA_load); exact rfl; (first | ((with_reducible apply St.cellI hS); (focus repeat constructor); exact rfl) | assumption); kernel_rfl) | ((with_reducible show WSt ..); (with_reducible apply wpA_store1I hS); exact rfl; (focus repeat constructor); exact rfl; exact rfl; exact rfl; exact rfl; kernel_rfl; intro wx hS; (try simp only [Act.put, List.setIfInBounds_toArray, List.set_cons_zero, List.set_cons_succ]); (try simp only [Act.eval, Array.getD_eq_getD_getElem?, List.getElem?_toArray, List.getElem?_cons_succ, List.getElem?_cons_zero, Option.getD_some, List.set_cons_succ, List.set_cons_zero, Value.cells, List.toList_toArray] at hS)) | ((with_reducible show WBx ..); (with_reducible apply wpA_box hS); exact rfl; exact rfl; intro _ wx hS; (try simp only [Act.put, List.setIfInBounds_toArray, List.set_cons_zero, List.set_cons_succ]); (try simp only [Act.eval, Array.getD_eq_getD_getElem?, List.getElem?_toArray, List.getElem?_cons_succ, List.getElem?_cons_zero, Option.getD_some, List.set_cons_succ, List.set_cons_zero, Value.cells, List.toList_toArray] at hS)))
          go_roundw
          case rel => exact ⟨j + 1, by omega, by go_num, by rw [HT.out]; go_num, hS⟩
          case measure => simp [intOf]; omega
        · have HT : Hid ((b.take (j + 1)).countP (fun y => decide (0 < y.2)) = n) := Lib.hid (by rw [List.take_add_one, hy, List.countP_append, hn]; simp [hw])
          have hd : decide (0 < y.2) = false := by simpa using hw
          rw [hn]
          have HY := Lib.hid hy
          obtain ⟨y1, y2⟩ := y
          simp only at hd
          clear hy hn hw
          go_wp2_with (first | ((with_reducible show WGd ..); (with_reducible apply wpA_guard); exact rfl; skip) | ((with_reducible show WLd ..); (with_reducible apply wpA_load); exact rfl; exact (row_elem FileR.cells_length (hS.at_ 1 rfl) HZ.out) 1 _ rfl; kernel_rfl) | ((with_reducible show WLd ..); (with_reducible apply wpA_load); exact rfl; exact (row_elem bcells_length (hS.at_ 2 rfl) HY.out) 1 _ rfl; kernel_rfl) | ((with_reducible show WLd ..); (with_reducible apply wpA_load); exact rfl; (first | ((with_reducible apply St.cellI hS); (focus repeat constructor); exact rfl) | assumption); kernel_rfl) | ((with_reducible show WSt ..); (with_reducible apply wpA_store1I hS); exact rfl; (focus repeat constructor); exact rfl; exact rfl; exact rfl; exact rfl; kernel_rfl; intro wx hS; (try simp only [Act.put, List.setIfInBounds_toArray, List.set_cons_zero, List.set_cons_succ]); (try simp only [Act.eval, Array.getD_eq_getD_getElem?, List.getElem?_toArray, List.getElem?_cons_succ, List.getElem?_cons_zero, Option.getD_some, List.set_cons_succ, List.set_cons_zero, Value.cells, List.toList_toArray] at hS)) | ((with_reducible show WBx ..); (with_reducible apply wpA_box hS); exact rfl; exact rfl; intro _ wx hS; (try simp only [Act.put, List.setIfInBounds_toArray, List.set_cons_zero, List.set_cons_succ]); (try simp only [Act.eval, Array.getD_eq_getD_getElem?, List.getElem?_toArray, List.getElem?_cons_succ, List.getElem?_cons_zero, Option.getD_some, List.set_cons_succ, List.set_cons_zero, Value.cells, List.toList_toArray] at hS)))
          go_roundw
          case rel => exact ⟨j + 1, by omega, by go_num, by rw [HT.out], hS⟩
          case measure => simp [intOf]; omega
      · obtain rfl : j = b.length := by omega
        have hdj : decide ((b.length : Int) < (b.length : Int)) = false := by simp
        go_wp2_with (first | ((with_reducible show WGd ..); (with_reducible apply wpA_guard); exact rfl; skip) | ((with_reducible show WLd ..); (with_reducible apply wpA_load); exact rfl; exact (row_elem FileR.cells_length (hS.at_ 1 rfl) HZ.out) 1 _ rfl; kernel_rfl) | ((with_reducible show WLd ..); (with_reducible apply wpA_load); exact rfl; (first | ((with_reducible apply St.cellI hS); (focus repeat constructor); exact rfl) | assumption); kernel_rfl) | ((with_reducible show WSt ..); (with_reducible apply wpA_store1I hS); exact rfl; (focus repeat constructor); exact rfl; exact rfl; exact rfl; exact rfl; kernel_rfl; intro wx hS; (try simp only [Act.put, List.setIfInBounds_toArray, List.set_cons_zero, List.set_cons_succ]); (try simp only [Act.eval, Array.getD_eq_getD_getElem?, List.getElem?_toArray, List.getElem?_cons_succ, List.getElem?_cons_zero, Option.getD_some, List.set_cons_succ, List.set_cons_zero, Value.cells, List.toList_toArray] at hS)) | ((with_reducible show WBx ..); (with_reducible apply wpA_box hS); exact rfl; exact rfl; intro _ wx hS; (try simp only [Act.put, List.setIfInBounds_toArray, List.set_cons_zero, List.set_cons_succ]); (try simp only [Act.eval, Array.getD_eq_getD_getElem?, List.getElem?_toArray, List.getElem?_cons_succ, List.getElem?_cons_zero, Option.getD_some, List.set_cons_succ, List.set_cons_zero, Value.cells, List.toList_toArray] at hS)))
        go_ret
        exact ⟨rfl, HB.out _ hS⟩
theorem sure_step {b : List BR} {j : Nat} {y : BR} (hy : b[j]? = some y) : (sureB (b.take j) ++ b.drop j).set j (y.1, 0) = sureB (b.take (j + 1)) ++ b.drop (j + 1) := by
  have hl := (List.getElem?_eq_some_iff.1 hy).1
  have hlen : (sureB (b.take j)).length = j := by unfold sureB; rw [List.length_map, List.length_take]; omega
  rw [List.set_append_right _ _ (by omega), hlen, Nat.sub_self, List.drop_eq_getElem_cons hl, List.set_cons_zero, List.take_add_one, hy]
  simp [sureB]
set_option maxHeartbeats 4000000 in
theorem rsync_c (h : RefDSt w0 w x ρ R) (ok : ρ.ok) (s : ByteArray) :
    Calls Try.prog 25 #[.pointer (some ⟨x, 0, none⟩), .string s] w fun e w' => e = .returned (.int .i64 (syncR ρ s).2) ∧ RefDSt w0 w' x (syncR ρ s).1 R := by
  unfold syncR
  cases hr : rat ρ s with
  | none =>
    obtain ⟨a, c, L, hL, hS⟩ := h
    have hf := fnd_of_none hL hr
    have hl : L.length ≤ 1000000000 := by rw [len_of hL]; have := ok.len; omega
    have HL := Lib.hid hL
    clear hL hr ok
    go_enter Try.func25, Try.ntmps25
    go_wp2_with (first | ((with_reducible show WGd ..); (with_reducible apply wpA_guard); exact rfl; skip) | (go_at_call 40; go_loud (skip); go_loud (with_reducible refine (rfind_e hS s hl hf).mono ?_); go_loud (rintro _ _ ⟨rfl, hS⟩); go_loud (skip)) | ((with_reducible show WLd ..); (with_reducible apply wpA_load); exact rfl; (first | ((with_reducible apply St.cellI hS); (focus repeat constructor); exact rfl) | assumption); kernel_rfl) | ((with_reducible show WSt ..); (with_reducible apply wpA_store1I hS); exact rfl; (focus repeat constructor); exact rfl; exact rfl; exact rfl; exact rfl; kernel_rfl; intro wx hS; (try simp only [Act.put, List.setIfInBounds_toArray, List.set_cons_zero, List.set_cons_succ]); (try simp only [Act.eval, Array.getD_eq_getD_getElem?, List.getElem?_toArray, List.getElem?_cons_succ, List.getElem?_cons_zero, Option.getD_some, List.set_cons_succ, List.set_cons_zero, Value.cells, List.toList_toArray] at hS)) | ((with_reducible show WBx ..); (with_reducible apply wpA_box hS); exact rfl; exact rfl; intro _ wx hS; (try simp only [Act.put, List.setIfInBounds_toArray, List.set_cons_zero, List.set_cons_succ]); (try simp only [Act.eval, Array.getD_eq_getD_getElem?, List.getElem?_toArray, List.getElem?_cons_succ, List.getElem?_cons_zero, Option.getD_some, List.set_cons_succ, List.set_cons_zero, Value.cells, List.toList_toArray] at hS)))
    go_ret
    exact ⟨rfl, a, c, L, HL.out, hS⟩
  | some i =>
    obtain ⟨a, c, L, ia, ic, b, D, hll, hz, hb, hf, hS, _, hbk⟩ := h.file hr
    have hl : L.length ≤ 1000000000 := by rw [hll]; have := ok.len; omega
    have hbl : b.length ≤ 4194304 := ok.bytes _ (List.mem_of_getElem? hb)
    have hi : i < L.length := (List.getElem?_eq_some_iff.1 hz).1
    have hd0 : decide ((i : Int) < 0) = false := by simp
    rcases row_head (hS.at_ 1 rfl) with ⟨_, hh, _⟩ | ⟨⟨gF, rfl⟩, _⟩
    · omega
    simp only [hb]
    have HZ := Lib.hid hz
    have HB := Lib.hid hbk
    clear hz hbk hb hr ok h
    go_enter Try.func25, Try.ntmps25
    go_upto_block 0 with (first | ((with_reducible show WGd ..); (with_reducible apply wpA_guard); exact rfl; skip) | (go_at_call 40; go_loud (skip); go_loud (with_reducible refine (rfind_e hS s hl hf).mono ?_); go_loud (rintro _ _ ⟨rfl, hS⟩); go_loud (skip)) | ((with_reducible show WLd ..); (with_reducible apply wpA_load); exact rfl; (first | ((with_reducible apply St.cellI hS); (focus repeat constructor); exact rfl) | assumption); kernel_rfl) | ((with_reducible show WSt ..); (with_reducible apply wpA_store1I hS); exact rfl; (focus repeat constructor); exact rfl; exact rfl; exact rfl; exact rfl; kernel_rfl; intro wx hS; (try simp only [Act.put, List.setIfInBounds_toArray, List.set_cons_zero, List.set_cons_succ]); (try simp only [Act.eval, Array.getD_eq_getD_getElem?, List.getElem?_toArray, List.getElem?_cons_succ, List.getElem?_cons_zero, Option.getD_some, List.set_cons_succ, List.set_cons_zero, Value.cells, List.toList_toArray] at hS)) | ((with_reducible show WBx ..); (with_reducible apply wpA_box hS); exact rfl; exact rfl; intro _ wx hS; (try simp only [Act.put, List.setIfInBounds_toArray, List.set_cons_zero, List.set_cons_succ]); (try simp only [Act.eval, Array.getD_eq_getD_getElem?, List.getElem?_toArray, List.getElem?_cons_succ, List.getElem?_cons_zero, Option.getD_some, List.set_cons_succ, List.set_cons_zero, Value.cells, List.toList_toArray] at hS)))
    go_cut [] (fun wr => St w0 wr (rdc x (some ⟨gF, 0, none⟩) L.length c ρ.clock :: frow (some ⟨gF, 0, none⟩) c L :: brow ia ic (sureB b) :: D))
    case first =>
      go_wp2_with (first | ((with_reducible show WGd ..); (with_reducible apply wpA_guard); exact rfl; skip) | ((with_reducible show WLd ..); (with_reducible apply wpA_load); exact rfl; (first | ((with_reducible apply St.cellI hS); (focus repeat constructor); exact rfl) | assumption); kernel_rfl) | ((with_reducible show WSt ..); (with_reducible apply wpA_store1I hS); exact rfl; (focus repeat constructor); exact rfl; exact rfl; exact rfl; exact rfl; kernel_rfl; intro wx hS; (try simp only [Act.put, List.setIfInBounds_toArray, List.set_cons_zero, List.set_cons_succ]); (try simp only [Act.eval, Array.getD_eq_getD_getElem?, List.getElem?_toArray, List.getElem?_cons_succ, List.getElem?_cons_zero, Option.getD_some, List.set_cons_succ, List.set_cons_zero, Value.cells, List.toList_toArray] at hS)) | ((with_reducible show WBx ..); (with_reducible apply wpA_box hS); exact rfl; exact rfl; intro _ wx hS; (try simp only [Act.put, List.setIfInBounds_toArray, List.set_cons_zero, List.set_cons_succ]); (try simp only [Act.eval, Array.getD_eq_getD_getElem?, List.getElem?_toArray, List.getElem?_cons_succ, List.getElem?_cons_zero, Option.getD_some, List.set_cons_succ, List.set_cons_zero, Value.cells, List.toList_toArray] at hS)))
      go_loopw [6] (fun v6 wr => ∃ (j : Nat), j ≤ b.length ∧ v6 = .int .i64 j ∧ St w0 wr (rdc x (some ⟨gF, 0, none⟩) L.length c ρ.clock :: frow (some ⟨gF, 0, none⟩) c L :: .row 79 2 ia b.length ic ((sureB (b.take j) ++ b.drop j).flatMap bcells) :: D)) (fun v6 _ => b.length - (intOf v6).toNat)
      case atStart => exact ⟨0, Nat.zero_le _, rfl, by simpa [sureB] using hS⟩
      case round =>
        clear hS
        obtain ⟨j, hj, rfl, hS⟩ := hrel
        by_cases hlt : j < b.length
        · obtain ⟨y, hy⟩ : ∃ y, b[j]? = some y := ⟨_, List.getElem?_eq_getElem hlt⟩
          rcases row_head (hS.at_ 2 rfl) with ⟨_, hh, _⟩ | ⟨⟨gB, rfl⟩, _⟩
          · omega
          have hmid : (sureB (b.take j) ++ b.drop j)[j]? = some y := by
            have hlen : (sureB (b.take j)).length = j := by unfold sureB; rw [List.length_map, List.length_take]; omega
            rw [List.getElem?_append_right (by omega), hlen, Nat.sub_self, List.getElem?_drop, Nat.add_zero, hy]
          have hml : (sureB (b.take j) ++ b.drop j).length = b.length := by unfold sureB; rw [List.length_append, List.length_map, ← List.length_append, List.take_append_drop]
          obtain ⟨cur, c1, c2, c3, c4, hS⟩ := hS.rowCells 2 rfl
          simp only [List.set_cons_succ, List.set_cons_zero] at hS
          have hcl : b.length * 2 ≤ cur.length := by rw [c1]; exact Nat.mul_le_mul_right _ c3
          have hj2 : j * 2 + 2 ≤ cur.length := by omega
          have hfit : (cur[j * 2 + 1]?).isSome = true := by rw [List.getElem?_eq_getElem (by omega)]; rfl
          have hrow := row_set1 (f := bcells) bcells_length (v := .int .i64 0) (q := 1) (y := (y.1, 0)) hmid (by rw [hml]; exact c2) (by rw [hml]; exact hcl) (by decide) rfl
          rw [hml, sure_step hy] at hrow
          have HR := Lib.hid (And.intro hrow (And.intro c1 (And.intro c3 c4)))
          clear hmid hml c1 c2 c3 c4 hrow hcl hy
          go_wp2_with (first | ((with_reducible show WGd ..); (with_reducible apply wpA_guard); exact rfl; skip) | ((with_reducible show WLd ..); (with_reducible apply wpA_load); exact rfl; exact (row_elem FileR.cells_length (hS.at_ 1 rfl) HZ.out) 1 _ rfl; kernel_rfl) | ((with_reducible show WSt ..); (with_reducible apply wpA_store1 hS 2); exact rfl; exact rfl; exact rfl; exact rfl; exact rfl; exact hfit; kernel_rfl; intro wx hS; (try simp only [Act.put, List.setIfInBounds_toArray, List.set_cons_zero, List.set_cons_succ]); (try simp only [Act.eval, Array.getD_eq_getD_getElem?, List.getElem?_toArray, List.getElem?_cons_succ, List.getElem?_cons_zero, Option.getD_some, List.set_cons_succ, List.set_cons_zero, Value.cells, List.toList_toArray] at hS)) | ((with_reducible show WLd ..); (with_reducible apply wpA_load); exact rfl; (first | ((with_reducible apply St.cellI hS); (focus repeat constructor); exact rfl) | assumption); kernel_rfl) | ((with_reducible show WSt ..); (with_reducible apply wpA_store1I hS); exact rfl; (focus repeat constructor); exact rfl; exact rfl; exact rfl; exact rfl; kernel_rfl; intro wx hS; (try simp only [Act.put, List.setIfInBounds_toArray, List.set_cons_zero, List.set_cons_succ]); (try simp only [Act.eval, Array.getD_eq_getD_getElem?, List.getElem?_toArray, List.getElem?_cons_succ, List.getElem?_cons_zero, Option.getD_some, List.set_cons_succ, List.set_cons_zero, Value.cells, List.toList_toArray] at hS)) | ((with_reducible show WBx ..); (with_reducible apply wpA_box hS); exact rfl; exact rfl; intro _ wx hS; (try simp only [Act.put, List.setIfInBounds_toArray, List.set_cons_zero, List.set_cons_succ]); (try simp only [Act.eval, Array.getD_eq_getD_getElem?, List.getElem?_toArray, List.getElem?_cons_succ, List.getElem?_cons_zero, Option.getD_some, List.set_cons_succ, List.set_cons_zero, Value.cells, List.toList_toArray] at hS)))
          have hS2 := St.cellsRow hS 2 rfl (n := b.length) (cap := ic) (by rw [List.length_set]; exact HR.out.2.1) HR.out.1 HR.out.2.2.1 HR.out.2.2.2
          simp only [List.set_cons_succ, List.set_cons_zero] at hS2
          clear hS
          have hS := hS2
          clear hS2
          go_roundw
          case rel => exact ⟨j + 1, by omega, by go_num, hS⟩
          case measure => simp [intOf]; omega
        · obtain rfl : j = b.length := by omega
          go_wp2_with (first | ((with_reducible show WGd ..); (with_reducible apply wpA_guard); exact rfl; skip) | ((with_reducible show WLd ..); (with_reducible apply wpA_load); exact rfl; exact (row_elem FileR.cells_length (hS.at_ 1 rfl) HZ.out) 1 _ rfl; kernel_rfl) | ((with_reducible show WLd ..); (with_reducible apply wpA_load); exact rfl; (first | ((with_reducible apply St.cellI hS); (focus repeat constructor); exact rfl) | assumption); kernel_rfl) | ((with_reducible show WSt ..); (with_reducible apply wpA_store1I hS); exact rfl; (focus repeat constructor); exact rfl; exact rfl; exact rfl; exact rfl; kernel_rfl; intro wx hS; (try simp only [Act.put, List.setIfInBounds_toArray, List.set_cons_zero, List.set_cons_succ]); (try simp only [Act.eval, Array.getD_eq_getD_getElem?, List.getElem?_toArray, List.getElem?_cons_succ, List.getElem?_cons_zero, Option.getD_some, List.set_cons_succ, List.set_cons_zero, Value.cells, List.toList_toArray] at hS)) | ((with_reducible show WBx ..); (with_reducible apply wpA_box hS); exact rfl; exact rfl; intro _ wx hS; (try simp only [Act.put, List.setIfInBounds_toArray, List.set_cons_zero, List.set_cons_succ]); (try simp only [Act.eval, Array.getD_eq_getD_getElem?, List.getElem?_toArray, List.getElem?_cons_succ, List.getElem?_cons_zero, Option.getD_some, List.set_cons_succ, List.set_cons_zero, Value.cells, List.toList_toArray] at hS)))
          go_meet
          rw [List.take_length, List.drop_length, List.append_nil] at hS
          rw [show b.length = (sureB b).length from (List.length_map _).symm] at hS
          exact hS
    case rest =>
      clear hS
      have hS := hcut
      go_wp2_with (first | ((with_reducible show WGd ..); (with_reducible apply wpA_guard); exact rfl; skip) | ((with_reducible show WLd ..); (with_reducible apply wpA_load); exact rfl; (first | ((with_reducible apply St.cellI hS); (focus repeat constructor); exact rfl) | assumption); kernel_rfl) | ((with_reducible show WSt ..); (with_reducible apply wpA_store1I hS); exact rfl; (focus repeat constructor); exact rfl; exact rfl; exact rfl; exact rfl; kernel_rfl; intro wx hS; (try simp only [Act.put, List.setIfInBounds_toArray, List.set_cons_zero, List.set_cons_succ]); (try simp only [Act.eval, Array.getD_eq_getD_getElem?, List.getElem?_toArray, List.getElem?_cons_succ, List.getElem?_cons_zero, Option.getD_some, List.set_cons_succ, List.set_cons_zero, Value.cells, List.toList_toArray] at hS)) | ((with_reducible show WBx ..); (with_reducible apply wpA_box hS); exact rfl; exact rfl; intro _ wx hS; (try simp only [Act.put, List.setIfInBounds_toArray, List.set_cons_zero, List.set_cons_succ]); (try simp only [Act.eval, Array.getD_eq_getD_getElem?, List.getElem?_toArray, List.getElem?_cons_succ, List.getElem?_cons_zero, Option.getD_some, List.set_cons_succ, List.set_cons_zero, Value.cells, List.toList_toArray] at hS)))
      go_ret
      refine ⟨rfl, HB.out _ _ ia ic _ ?_⟩
      have e : L.set i ⟨s, ia, ic, sureB b⟩ = L.set i ⟨s, ia, ic, sureB b⟩ := rfl
      have e2 : (L.set i ⟨s, ia, ic, sureB b⟩).flatMap FileR.cells = L.flatMap FileR.cells := by
        have : FileR.cells ⟨s, ia, ic, sureB b⟩ = FileR.cells ⟨s, ia, ic, b⟩ := by simp [FileR.cells, sureB]
        rw [List.flatMap_def, List.flatMap_def, List.map_set, this, set_getElem (by rw [List.getElem?_map, HZ.out]; rfl)]
      show St w0 _ (_ :: .row 76 2 _ (L.set i ⟨s, ia, ic, sureB b⟩).length c ((L.set i ⟨s, ia, ic, sureB b⟩).flatMap FileR.cells) :: _)
      rw [e2, List.length_set]
      exact hS
end
end Go.Proofs.Ytbigkonbdnbnpaa
