/-
  The codec's writer: what it writes.
-/
import Derived.Test.YtodojllclghoiaaSlMore
import Derived.Test.YtodojllclghoiaaRegA
import Derived.Test.YtodojllclghoiaaOpen
import Derived.Test.YtodojllclghoiaaProg
import Derived.Deep.DeepCutAuto
import Derived.Deep.CutBlock
import Derived.WalkLawsBesides
import Derived.WalkSpells
import Derived.Lib.Zigzag
import Derived.Lib.VarintBits
namespace Go.Proofs.Ytodojllclghoiaa
set_option linter.unusedVariables false
set_option linter.unusedSimpArgs false
open Go.RowKit

def bv (b : UInt8) : Value := .int .u8 b.toNat

/-- A number's bytes. -/
def uvB (n : Nat) : List UInt8 := if n ≤ 127 then [UInt8.ofNat n] else UInt8.ofNat (128 + n % 128) :: uvB (n / 128)
termination_by n
def zig (n : Int) : Nat := if 0 ≤ n then (2 * n).toNat else (-2 * n - 1).toNat
def intB (n : Int) : List UInt8 := uvB (zig n)

theorem uvB_small {n : Nat} (h : n ≤ 127) : uvB n = [UInt8.ofNat n] := by rw [uvB, if_pos h]
theorem uvB_big {n : Nat} (h : 127 < n) : uvB n = UInt8.ofNat (128 + n % 128) :: uvB (n / 128) := by rw [uvB, if_neg (by omega)]

theorem uvB_len : ∀ (k n : Nat), n < 128 ^ (k + 1) → (uvB n).length ≤ k + 1
  | 0, n, h => by rw [uvB_small (by omega)]; simp
  | k + 1, n, h => by
    by_cases h1 : n ≤ 127
    · rw [uvB_small h1]; simp
    · rw [uvB_big (by omega), List.length_cons]
      have := uvB_len k (n / 128) (by rw [Nat.pow_succ] at h; omega)
      omega
theorem uvB_len64 {n : Nat} (h : n < 18446744073709551616) : (uvB n).length ≤ 10 := uvB_len 9 n (by omega)

/-- The writer at block g has written bs. -/
def WrSt (w0 w : World) (g : Nat) (bs : List UInt8) (R : List Hp) : Prop :=
  ∃ ao cap, St w0 w (.cells g [.slice ao bs.length cap] 101 :: .row 5 1 ao bs.length cap (bs.map bv) :: R)

theorem wrnew_c (w0 w : World) (H : List Hp) (hS : St w0 w H) : Calls Try.prog 35 #[] w fun e w' => ∃ g, e = .returned (.pointer (some ⟨g, 0, none⟩)) ∧ WrSt w0 w' g [] H := by
  go_enter Try.func35, Try.ntmps35
  go_wp2_with (first | ((with_reducible show WGd ..); (with_reducible apply wpA_guard); exact rfl; skip) | ((with_reducible show WLd ..); (with_reducible apply wpA_load); exact rfl; (first | ((with_reducible apply St.cellI hS); (focus repeat constructor); exact rfl) | assumption); kernel_rfl) | ((with_reducible show WSt ..); (with_reducible apply wpA_store1I hS); exact rfl; (focus repeat constructor); exact rfl; exact rfl; exact rfl; exact rfl; kernel_rfl; intro wx hS; (try simp only [Act.put, List.setIfInBounds_toArray, List.set_cons_zero, List.set_cons_succ]); (try simp only [Act.eval, Array.getD_eq_getD_getElem?, List.getElem?_toArray, List.getElem?_cons_succ, List.getElem?_cons_zero, Option.getD_some, List.set_cons_succ, List.set_cons_zero, Value.cells, List.toList_toArray] at hS)) | ((with_reducible show WBx ..); (with_reducible apply wpA_box hS); exact rfl; exact rfl; intro _ wx hS; (try simp only [Act.put, List.setIfInBounds_toArray, List.set_cons_zero, List.set_cons_succ]); (try simp only [Act.eval, Array.getD_eq_getD_getElem?, List.getElem?_toArray, List.getElem?_cons_succ, List.getElem?_cons_zero, Option.getD_some, List.set_cons_succ, List.set_cons_zero, Value.cells, List.toList_toArray] at hS)))
  go_ret
  exact ⟨_, rfl, none, 0, (hS.nilRow 5 1).perm (.swap _ _ _)⟩

set_option maxRecDepth 100000 in
theorem or128 : ∀ x : Fin 256, bits BinOp.or IntKind.u8 128 ((x.val : Nat) : Int) = ((128 + x.val % 128 : Nat) : Int) := by decide
theorem or128' (m : Nat) : bits BinOp.or IntKind.u8 128 ((m : Int) % 256) = ((128 + m % 128 : Nat) : Int) := by
  have := or128 ⟨m % 256, by omega⟩
  simp only at this
  rw [show ((m : Int) % 256) = ((m % 256 : Nat) : Int) by omega, this]
  omega
theorem bv_ofNat {n : Nat} (h : n < 256) : bv (UInt8.ofNat n) = .int .u8 n := by
  unfold bv
  rw [UInt8.toNat_ofNat_of_lt' (by simpa using h)]

set_option maxRecDepth 100000 in
set_option maxHeartbeats 4000000 in
theorem wru64_c (w0 w : World) (R : List Hp) (g : Nat) (bs : List UInt8) (n : Nat) (h : WrSt w0 w g bs R) (hn : n < 18446744073709551616) (hb : bs.length ≤ 1000000000000) :
    Calls Try.prog 38 #[.pointer (some ⟨g, 0, none⟩), .int .u64 n] w fun e w' => e = .returned (.tuple #[]) ∧ WrSt w0 w' g (bs ++ uvB n) R := by
  obtain ⟨ao, cap, hS⟩ := h
  go_enter Try.func38, Try.ntmps38
  go_wp2_with (first | ((with_reducible show WGd ..); (with_reducible apply wpA_guard); exact rfl; skip) | ((with_reducible show WLd ..); (with_reducible apply wpA_load); exact rfl; (first | ((with_reducible apply St.cellI hS); (focus repeat constructor); exact rfl) | assumption); kernel_rfl) | ((with_reducible show WSt ..); (with_reducible apply wpA_store1I hS); exact rfl; (focus repeat constructor); exact rfl; exact rfl; exact rfl; exact rfl; kernel_rfl; intro wx hS; (try simp only [Act.put, List.setIfInBounds_toArray, List.set_cons_zero, List.set_cons_succ]); (try simp only [Act.eval, Array.getD_eq_getD_getElem?, List.getElem?_toArray, List.getElem?_cons_succ, List.getElem?_cons_zero, Option.getD_some, List.set_cons_succ, List.set_cons_zero, Value.cells, List.toList_toArray] at hS)) | ((with_reducible show WBx ..); (with_reducible apply wpA_box hS); exact rfl; exact rfl; intro _ wx hS; (try simp only [Act.put, List.setIfInBounds_toArray, List.set_cons_zero, List.set_cons_succ]); (try simp only [Act.eval, Array.getD_eq_getD_getElem?, List.getElem?_toArray, List.getElem?_cons_succ, List.getElem?_cons_zero, Option.getD_some, List.set_cons_succ, List.set_cons_zero, Value.cells, List.toList_toArray] at hS)))
  go_loopw [1] (fun v wr => ∃ (m : Nat) (cs : List UInt8) (ao : Option Addr) (cap : Nat), v = .int .u64 m ∧ Hid (uvB n = cs ++ uvB m) ∧ m < 18446744073709551616 ∧ cs.length ≤ 10 ∧ St w0 wr (.cells g [.slice ao (bs ++ cs).length cap] 101 :: .row 5 1 ao (bs ++ cs).length cap ((bs ++ cs).map bv) :: R)) (fun v _ => (intOf v).toNat)
  case atStart => exact ⟨n, [], ao, cap, rfl, Lib.hid rfl, hn, by simp, by simpa using hS⟩
  case round =>
    clear hS
    obtain ⟨m, cs, ao, cap, rfl, HU, hm, hk, hS⟩ := hrel
    by_cases h1 : 127 < m
    · simp only [List.length_append] at hS
      go_wp2_with (first | ((with_reducible show WGd ..); (with_reducible apply wpA_guard); exact rfl; skip) | ((first | ((with_reducible show WBs ..); (with_reducible apply wpA_oneN hS (z := .int .u8 0) (bytes := 1) (size := 1)); exact Try.underlying99; kernel_rfl; exact rfl; exact rfl; exact rfl; exact (by decide); exact (by decide); intro _ wx hS) | ((with_reducible show WBx ..); (with_reducible apply wpA_box hS); exact rfl; exact rfl; intro _ wx hS)); (try simp only [Act.put, List.setIfInBounds_toArray, List.set_cons_zero, List.set_cons_succ]); (try simp only [Act.eval, Array.getD_eq_getD_getElem?, List.getElem?_toArray, List.getElem?_cons_succ, List.getElem?_cons_zero, Option.getD_some, List.set_cons_succ, List.set_cons_zero, Value.cells, List.toList_toArray] at hS)) | ((with_reducible show WAp ..); (with_reducible apply wpA_appendI hS (e := 5) (z := .int .u8 0) (size := 1) (bytes := 1)); exact rfl; exact rfl; exact Try.underlying99; (focus repeat constructor); exact .inr Try.underlying99; kernel_rfl; exact rfl; exact (Src.freshN (m := 1) hS 0 rfl rfl (by rfl)); exact (by unfold maxLen; omega); exact (by omega); intro ao2 cap2 wx hS; (try simp only [Act.put, List.setIfInBounds_toArray, List.set_cons_zero, List.set_cons_succ])) | ((with_reducible show WLd ..); (with_reducible apply wpA_load); exact rfl; (first | ((with_reducible apply St.cellI hS); (focus repeat constructor); exact rfl) | assumption); kernel_rfl) | ((with_reducible show WSt ..); (with_reducible apply wpA_store1I hS); exact rfl; (focus repeat constructor); exact rfl; exact rfl; exact rfl; exact rfl; kernel_rfl; intro wx hS; (try simp only [Act.put, List.setIfInBounds_toArray, List.set_cons_zero, List.set_cons_succ]); (try simp only [Act.eval, Array.getD_eq_getD_getElem?, List.getElem?_toArray, List.getElem?_cons_succ, List.getElem?_cons_zero, Option.getD_some, List.set_cons_succ, List.set_cons_zero, Value.cells, List.toList_toArray] at hS)))
      go_roundw
      case rel =>
        have hl := uvB_len64 hn
        have hU := HU.out
        rw [uvB_big (n := m) h1] at hU
        have hcl : cs.length + 1 ≤ 10 := by
          rw [hU, List.length_append, List.length_cons] at hl
          omega
        refine ⟨m / 128, cs ++ [UInt8.ofNat (128 + m % 128)], ao2, cap2, by rw [Int.natCast_ediv]; rfl, Lib.hid (by rw [hU]; simp), by omega, by simpa using hcl, ?_⟩
        rw [or128'] at hS
        have e1 : (bs ++ (cs ++ [UInt8.ofNat (128 + m % 128)])).length = bs.length + cs.length + 1 := by simp; omega
        have e2 : (bs ++ (cs ++ [UInt8.ofNat (128 + m % 128)])).map bv = (bs ++ cs).map bv ++ [.int .u8 ((128 + m % 128 : Nat) : Int)] := by
          rw [← List.append_assoc, List.map_append, List.map_cons, List.map_nil, bv_ofNat (by omega)]
        rw [e1, e2]
        exact hS.tail
      case measure => simp [intOf]; omega
    · simp only [List.length_append] at hS
      go_wp2_with (first | ((with_reducible show WGd ..); (with_reducible apply wpA_guard); exact rfl; skip) | ((first | ((with_reducible show WBs ..); (with_reducible apply wpA_oneN hS (z := .int .u8 0) (bytes := 1) (size := 1)); exact Try.underlying99; kernel_rfl; exact rfl; exact rfl; exact rfl; exact (by decide); exact (by decide); intro _ wx hS) | ((with_reducible show WBx ..); (with_reducible apply wpA_box hS); exact rfl; exact rfl; intro _ wx hS)); (try simp only [Act.put, List.setIfInBounds_toArray, List.set_cons_zero, List.set_cons_succ]); (try simp only [Act.eval, Array.getD_eq_getD_getElem?, List.getElem?_toArray, List.getElem?_cons_succ, List.getElem?_cons_zero, Option.getD_some, List.set_cons_succ, List.set_cons_zero, Value.cells, List.toList_toArray] at hS)) | ((with_reducible show WAp ..); (with_reducible apply wpA_appendI hS (e := 5) (z := .int .u8 0) (size := 1) (bytes := 1)); exact rfl; exact rfl; exact Try.underlying99; (focus repeat constructor); exact .inr Try.underlying99; kernel_rfl; exact rfl; exact (Src.freshN (m := 1) hS 0 rfl rfl (by rfl)); exact (by unfold maxLen; omega); exact (by omega); intro ao2 cap2 wx hS; (try simp only [Act.put, List.setIfInBounds_toArray, List.set_cons_zero, List.set_cons_succ])) | ((with_reducible show WLd ..); (with_reducible apply wpA_load); exact rfl; (first | ((with_reducible apply St.cellI hS); (focus repeat constructor); exact rfl) | assumption); kernel_rfl) | ((with_reducible show WSt ..); (with_reducible apply wpA_store1I hS); exact rfl; (focus repeat constructor); exact rfl; exact rfl; exact rfl; exact rfl; kernel_rfl; intro wx hS; (try simp only [Act.put, List.setIfInBounds_toArray, List.set_cons_zero, List.set_cons_succ]); (try simp only [Act.eval, Array.getD_eq_getD_getElem?, List.getElem?_toArray, List.getElem?_cons_succ, List.getElem?_cons_zero, Option.getD_some, List.set_cons_succ, List.set_cons_zero, Value.cells, List.toList_toArray] at hS)))
      (first | go_end0 | (refine bodyPost_ret (results_none rfl _ _ _) rfl ?_))
      have hU := HU.out
      rw [uvB_small (n := m) (by omega)] at hU
      refine ⟨rfl, ao2, cap2, ?_⟩
      rw [hU]
      have e1 : (bs ++ (cs ++ [UInt8.ofNat m])).length = bs.length + cs.length + 1 := by simp; omega
      have e2 : (bs ++ (cs ++ [UInt8.ofNat m])).map bv = (bs ++ cs).map bv ++ [.int .u8 (m : Int)] := by
        rw [← List.append_assoc, List.map_append, List.map_cons, List.map_nil, bv_ofNat (by omega)]
      rw [e1, e2]
      exact hS.tail

theorem WrSt.use {w0 w : World} {g : Nat} {bs : List UInt8} {R : List Hp} (h : WrSt w0 w g bs R) : ∃ D : List Hp, St w0 w (D ++ R) ∧ ∀ w' R', St w0 w' (D ++ R') → WrSt w0 w' g bs R' := by
  obtain ⟨ao, cap, hS⟩ := h
  exact ⟨[_, _], hS, fun w' R' h' => ⟨ao, cap, h'⟩⟩
theorem WrSt.rest {w0 w : World} {g : Nat} {bs : List UInt8} {R : List Hp} (h : WrSt w0 w g bs R) : St w0 w R := by
  obtain ⟨D, hS, _⟩ := h.use
  exact hS.dropA
theorem WrSt.perm {w0 w : World} {g : Nat} {bs : List UInt8} {R R' : List Hp} (h : WrSt w0 w g bs R) (hp : R.Perm R') : WrSt w0 w g bs R' := by
  obtain ⟨D, hS, hb⟩ := h.use
  exact hb _ _ (hS.perm (hp.append_left D))
theorem WrSt.sub {w0 w : World} {g : Nat} {bs : List UInt8} {R R' : List Hp} (h : WrSt w0 w g bs R) (hp : R'.Sublist R) : WrSt w0 w g bs R' := by
  obtain ⟨D, hS, hb⟩ := h.use
  exact hb _ _ (St.sub hS (hp.append_left D))

theorem zig_xor {n : Int} (h0 : -9223372036854775808 ≤ n) (h1 : n ≤ 9223372036854775807) : bits BinOp.xor IntKind.u64 (IntKind.u64.wrap (wrap64 (n * 2))) (IntKind.u64.wrap (n / 9223372036854775808)) = ((zig n : Nat) : Int) := by
  have e1 : IntKind.u64.wrap (wrap64 (n * 2)) = (((n * 2 % 18446744073709551616).toNat : Nat) : Int) := by
    rw [IntKind.wrap_u64]; unfold wrap64; omega
  by_cases hn : 0 ≤ n
  · have e2 : IntKind.u64.wrap (n / 9223372036854775808) = ((0 : Nat) : Int) := by
      rw [show n / 9223372036854775808 = 0 by omega]; decide
    rw [e1, e2, bits_xor_u64_nat _ _ (by omega) (by decide), Nat.xor_zero]
    unfold zig
    rw [if_pos hn]
    omega
  · have e2 : IntKind.u64.wrap (n / 9223372036854775808) = ((2 ^ 64 - 1 : Nat) : Int) := by
      rw [show n / 9223372036854775808 = -1 by omega]; decide
    rw [e1, e2, bits_xor_u64_nat _ _ (by omega) (by decide), Nat.xor_comm, Lib.xor_ones64 _ (by omega)]
    unfold zig
    rw [if_neg hn]
    omega

set_option maxRecDepth 100000 in
theorem wrint_c (w0 w : World) (R : List Hp) (g : Nat) (bs : List UInt8) (n : Int) (h : WrSt w0 w g bs R) (hn : -9223372036854775808 ≤ n ∧ n ≤ 9223372036854775807) (hb : bs.length ≤ 1000000000000) :
    Calls Try.prog 36 #[.pointer (some ⟨g, 0, none⟩), .int .i64 n] w fun e w' => e = .returned (.tuple #[]) ∧ WrSt w0 w' g (bs ++ intB n) R := by
  obtain ⟨n1, n2⟩ := hn
  have hz : zig n < 18446744073709551616 := by unfold zig; split <;> omega
  have hx := zig_xor n1 n2
  go_enter Try.func36, Try.ntmps36
  go_wp2_with (first | ((with_reducible show WGd ..); (with_reducible apply wpA_guard); exact rfl; skip) | (go_at_call 38; (try rw [hx]); with_reducible refine (wru64_c w0 w R g bs (zig n) h hz hb).mono ?_; rintro _ _ ⟨rfl, h⟩) | ((with_reducible show WLd ..); (with_reducible apply wpA_load); exact rfl; (first | ((with_reducible apply St.cellI hS); (focus repeat constructor); exact rfl) | assumption); kernel_rfl) | ((with_reducible show WSt ..); (with_reducible apply wpA_store1I hS); exact rfl; (focus repeat constructor); exact rfl; exact rfl; exact rfl; exact rfl; kernel_rfl; intro wx hS; (try simp only [Act.put, List.setIfInBounds_toArray, List.set_cons_zero, List.set_cons_succ]); (try simp only [Act.eval, Array.getD_eq_getD_getElem?, List.getElem?_toArray, List.getElem?_cons_succ, List.getElem?_cons_zero, Option.getD_some, List.set_cons_succ, List.set_cons_zero, Value.cells, List.toList_toArray] at hS)) | ((with_reducible show WBx ..); (with_reducible apply wpA_box hS); exact rfl; exact rfl; intro _ wx hS; (try simp only [Act.put, List.setIfInBounds_toArray, List.set_cons_zero, List.set_cons_succ]); (try simp only [Act.eval, Array.getD_eq_getD_getElem?, List.getElem?_toArray, List.getElem?_cons_succ, List.getElem?_cons_zero, Option.getD_some, List.set_cons_succ, List.set_cons_zero, Value.cells, List.toList_toArray] at hS)))
  (first | go_end0 | (refine bodyPost_ret (results_none rfl _ _ _) rfl ?_))
  exact ⟨rfl, h⟩

theorem wrstr_c (w0 w : World) (R : List Hp) (g : Nat) (bs : List UInt8) (h : WrSt w0 w g bs R) :
    Calls Try.prog 39 #[.pointer (some ⟨g, 0, none⟩)] w fun e w' => e = .returned (.string ⟨bs.toArray⟩) ∧ WrSt w0 w' g bs R := by
  obtain ⟨ao, cap, hS⟩ := h
  go_enter Try.func39, Try.ntmps39
  go_wp2_with (first | ((with_reducible show WGd ..); (with_reducible apply wpA_guard); exact rfl; skip) | ((with_reducible show wpList _ _ _ (⟨_, .convert _ _ _, _, _, _, none⟩ :: _) _ _); (with_reducible apply wpA_toString hS 1); exact rfl; exact rfl; exact Try.underlying99; exact Try.underlying5; exact Try.underlying9) | ((with_reducible show WLd ..); (with_reducible apply wpA_load); exact rfl; (first | ((with_reducible apply St.cellI hS); (focus repeat constructor); exact rfl) | assumption); kernel_rfl) | ((with_reducible show WSt ..); (with_reducible apply wpA_store1I hS); exact rfl; (focus repeat constructor); exact rfl; exact rfl; exact rfl; exact rfl; kernel_rfl; intro wx hS; (try simp only [Act.put, List.setIfInBounds_toArray, List.set_cons_zero, List.set_cons_succ]); (try simp only [Act.eval, Array.getD_eq_getD_getElem?, List.getElem?_toArray, List.getElem?_cons_succ, List.getElem?_cons_zero, Option.getD_some, List.set_cons_succ, List.set_cons_zero, Value.cells, List.toList_toArray] at hS)) | ((with_reducible show WBx ..); (with_reducible apply wpA_box hS); exact rfl; exact rfl; intro _ wx hS; (try simp only [Act.put, List.setIfInBounds_toArray, List.set_cons_zero, List.set_cons_succ]); (try simp only [Act.eval, Array.getD_eq_getD_getElem?, List.getElem?_toArray, List.getElem?_cons_succ, List.getElem?_cons_zero, Option.getD_some, List.set_cons_succ, List.set_cons_zero, Value.cells, List.toList_toArray] at hS)))
  go_ret
  exact ⟨rfl, ao, cap, hS⟩


end Go.Proofs.Ytodojllclghoiaa
