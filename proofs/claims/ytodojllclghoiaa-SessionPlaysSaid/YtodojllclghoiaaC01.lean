/-
  The reference's codec: U64, Int.
-/
import Derived.Test.YtodojllclghoiaaCodecW
namespace Go.Proofs.Ytodojllclghoiaa
set_option linter.unusedVariables false
set_option linter.unusedSimpArgs false
open Go.RowKit

set_option maxRecDepth 100000 in
theorem or128r : ∀ x : Fin 128, bits BinOp.or IntKind.u8 ((x.val : Nat) : Int) 128 = ((128 + x.val : Nat) : Int) := by decide

set_option maxRecDepth 100000 in
set_option maxHeartbeats 4000000 in
theorem ru64_c {w0 w : World} {H : List Hp} (hS : St w0 w H) (n : Nat) (hn : n < 18446744073709551616) :
    Calls Try.prog 43 #[.int .u64 n] w fun e w' => e = .returned (.string ⟨(uvB n).toArray⟩) ∧ St w0 w' H := by
  go_enter Try.func43, Try.ntmps43
  go_upto_block 0 with (first | ((with_reducible show WGd ..); (with_reducible apply wpA_guard); exact rfl; skip) | ((with_reducible show WLd ..); (with_reducible apply wpA_load); exact rfl; (first | ((with_reducible apply St.cellI hS); (focus repeat constructor); exact rfl) | assumption); kernel_rfl) | ((with_reducible show WSt ..); (with_reducible apply wpA_store1I hS); exact rfl; (focus repeat constructor); exact rfl; exact rfl; exact rfl; exact rfl; kernel_rfl; intro wx hS; (try simp only [Act.put, List.setIfInBounds_toArray, List.set_cons_zero, List.set_cons_succ]); (try simp only [Act.eval, Array.getD_eq_getD_getElem?, List.getElem?_toArray, List.getElem?_cons_succ, List.getElem?_cons_zero, Option.getD_some, List.set_cons_succ, List.set_cons_zero, Value.cells, List.toList_toArray] at hS)) | ((with_reducible show WBx ..); (with_reducible apply wpA_box hS); exact rfl; exact rfl; intro _ wx hS; (try simp only [Act.put, List.setIfInBounds_toArray, List.set_cons_zero, List.set_cons_succ]); (try simp only [Act.eval, Array.getD_eq_getD_getElem?, List.getElem?_toArray, List.getElem?_cons_succ, List.getElem?_cons_zero, Option.getD_some, List.set_cons_succ, List.set_cons_zero, Value.cells, List.toList_toArray] at hS)))
  go_cut [0, 3] (fun v0 v3 wr => ∃ (m : Nat) (cs : List UInt8) (ao : Option Addr) (cap : Nat), m ≤ 127 ∧ v0 = .int .u64 m ∧ v3 = .slice ao cs.length cap ∧ Hid (uvB n = cs ++ uvB m) ∧ cs.length ≤ 10 ∧ St w0 wr (.row 5 1 ao cs.length cap (cs.map bv) :: H))
  case first =>
    go_wp2_with (first | ((with_reducible show WGd ..); (with_reducible apply wpA_guard); exact rfl; skip) | ((with_reducible show WLd ..); (with_reducible apply wpA_load); exact rfl; (first | ((with_reducible apply St.cellI hS); (focus repeat constructor); exact rfl) | assumption); kernel_rfl) | ((with_reducible show WSt ..); (with_reducible apply wpA_store1I hS); exact rfl; (focus repeat constructor); exact rfl; exact rfl; exact rfl; exact rfl; kernel_rfl; intro wx hS; (try simp only [Act.put, List.setIfInBounds_toArray, List.set_cons_zero, List.set_cons_succ]); (try simp only [Act.eval, Array.getD_eq_getD_getElem?, List.getElem?_toArray, List.getElem?_cons_succ, List.getElem?_cons_zero, Option.getD_some, List.set_cons_succ, List.set_cons_zero, Value.cells, List.toList_toArray] at hS)) | ((with_reducible show WBx ..); (with_reducible apply wpA_box hS); exact rfl; exact rfl; intro _ wx hS; (try simp only [Act.put, List.setIfInBounds_toArray, List.set_cons_zero, List.set_cons_succ]); (try simp only [Act.eval, Array.getD_eq_getD_getElem?, List.getElem?_toArray, List.getElem?_cons_succ, List.getElem?_cons_zero, Option.getD_some, List.set_cons_succ, List.set_cons_zero, Value.cells, List.toList_toArray] at hS)))
    go_loopw [0, 3] (fun v0 v3 wr => ∃ (m : Nat) (cs : List UInt8) (ao : Option Addr) (cap : Nat), v0 = .int .u64 m ∧ v3 = .slice ao cs.length cap ∧ Hid (uvB n = cs ++ uvB m) ∧ m < 18446744073709551616 ∧ cs.length ≤ 10 ∧ St w0 wr (.row 5 1 ao cs.length cap (cs.map bv) :: H)) (fun v0 _ _ => (intOf v0).toNat)
    case atStart => exact ⟨n, [], none, 0, rfl, rfl, Lib.hid rfl, hn, by simp, hS.nilRow 5 1⟩
    case round =>
      clear hS
      obtain ⟨m, cs, ao, cap, rfl, rfl, HU, hm, hk, hS⟩ := hrel
      by_cases h1 : 127 < m
      · have hd : decide ((128 : Int) ≤ (m : Int)) = true := by simp; omega
        go_wp2_with (first | ((with_reducible show WGd ..); (with_reducible apply wpA_guard); exact rfl; skip) | ((first | ((with_reducible show WBs ..); (with_reducible apply wpA_oneN hS (z := .int .u8 0) (bytes := 1) (size := 1)); exact Try.underlying99; kernel_rfl; exact rfl; exact rfl; exact rfl; exact (by decide); exact (by decide); intro _ wx hS) | ((with_reducible show WBx ..); (with_reducible apply wpA_box hS); exact rfl; exact rfl; intro _ wx hS)); (try simp only [Act.put, List.setIfInBounds_toArray, List.set_cons_zero, List.set_cons_succ]); (try simp only [Act.eval, Array.getD_eq_getD_getElem?, List.getElem?_toArray, List.getElem?_cons_succ, List.getElem?_cons_zero, Option.getD_some, List.set_cons_succ, List.set_cons_zero, Value.cells, List.toList_toArray] at hS)) | ((with_reducible show WAp ..); (with_reducible apply wpA_appendI hS (e := 5) (z := .int .u8 0) (size := 1) (bytes := 1)); exact rfl; exact rfl; exact Try.underlying99; (focus repeat constructor); exact .inr Try.underlying99; kernel_rfl; exact rfl; exact (Src.freshN (m := 1) hS 0 rfl rfl (by rfl)); exact (by unfold maxLen; omega); exact (by omega); intro ao2 cap2 wx hS; (try simp only [Act.put, List.setIfInBounds_toArray, List.set_cons_zero, List.set_cons_succ])) | ((with_reducible show WLd ..); (with_reducible apply wpA_load); exact rfl; (first | ((with_reducible apply St.cellI hS); (focus repeat constructor); exact rfl) | assumption); kernel_rfl) | ((with_reducible show WSt ..); (with_reducible apply wpA_store1I hS); exact rfl; (focus repeat constructor); exact rfl; exact rfl; exact rfl; exact rfl; kernel_rfl; intro wx hS; (try simp only [Act.put, List.setIfInBounds_toArray, List.set_cons_zero, List.set_cons_succ]); (try simp only [Act.eval, Array.getD_eq_getD_getElem?, List.getElem?_toArray, List.getElem?_cons_succ, List.getElem?_cons_zero, Option.getD_some, List.set_cons_succ, List.set_cons_zero, Value.cells, List.toList_toArray] at hS)))
        (try simp only [Act.put, Act.eval, Array.getD_eq_getD_getElem?, List.setIfInBounds_toArray, List.getElem?_toArray, List.getElem?_cons_succ, List.getElem?_cons_zero, Option.getD_some, List.set_cons_succ, List.set_cons_zero, Value.cells, List.toList_toArray] at hS)
        replace hS := hS.tail
        have hb : bits BinOp.or IntKind.u8 (bits BinOp.and IntKind.u64 (m : Int) 127 % 256) 128 = ((128 + m % 128 : Nat) : Int) := by
          rw [show (127 : Int) = ((127 : Nat) : Int) from rfl, bits_and_u64_nat m 127 hm (by decide), show m &&& 127 = m % 128 from Nat.and_two_pow_sub_one_eq_mod m 7]
          have := or128r ⟨m % 128, by omega⟩
          simp only at this
          rw [show (((m % 128 : Nat) : Int) % 256) = ((m % 128 : Nat) : Int) by omega, this]
        rw [hb] at hS
        have hU := HU.out
        rw [uvB_big (n := m) h1] at hU
        have hcl : cs.length + 1 ≤ 10 := by
          have hl := uvB_len64 hn
          rw [hU, List.length_append, List.length_cons] at hl
          omega
        have HU2 : Hid (uvB n = (cs ++ [UInt8.ofNat (128 + m % 128)]) ++ uvB (m / 128)) := Lib.hid (by rw [hU]; simp)
        clear hU hb
        go_roundw
        case rel =>
          refine ⟨m / 128, cs ++ [UInt8.ofNat (128 + m % 128)], ao2, cap2, by rw [Int.natCast_ediv]; rfl, by rw [List.length_append]; rfl, HU2, by omega, by simpa using hcl, ?_⟩
          rw [List.length_append, List.map_append, List.map_cons, List.map_nil, bv_ofNat (by omega)]
          exact hS
        case measure => simp [intOf]; omega
      · have hd : decide ((128 : Int) ≤ (m : Int)) = false := by simp; omega
        go_wp2_with (first | ((with_reducible show WGd ..); (with_reducible apply wpA_guard); exact rfl; skip) | ((with_reducible show WLd ..); (with_reducible apply wpA_load); exact rfl; (first | ((with_reducible apply St.cellI hS); (focus repeat constructor); exact rfl) | assumption); kernel_rfl) | ((with_reducible show WSt ..); (with_reducible apply wpA_store1I hS); exact rfl; (focus repeat constructor); exact rfl; exact rfl; exact rfl; exact rfl; kernel_rfl; intro wx hS; (try simp only [Act.put, List.setIfInBounds_toArray, List.set_cons_zero, List.set_cons_succ]); (try simp only [Act.eval, Array.getD_eq_getD_getElem?, List.getElem?_toArray, List.getElem?_cons_succ, List.getElem?_cons_zero, Option.getD_some, List.set_cons_succ, List.set_cons_zero, Value.cells, List.toList_toArray] at hS)) | ((with_reducible show WBx ..); (with_reducible apply wpA_box hS); exact rfl; exact rfl; intro _ wx hS; (try simp only [Act.put, List.setIfInBounds_toArray, List.set_cons_zero, List.set_cons_succ]); (try simp only [Act.eval, Array.getD_eq_getD_getElem?, List.getElem?_toArray, List.getElem?_cons_succ, List.getElem?_cons_zero, Option.getD_some, List.set_cons_succ, List.set_cons_zero, Value.cells, List.toList_toArray] at hS)))
        go_meet
        exact ⟨m, cs, ao, cap, by omega, rfl, rfl, HU, hk, hS⟩
  case rest =>
    clear hS
    obtain ⟨m, cs, ao, cap, hm, rfl, rfl, HU, hk, hS⟩ := hcut
    have HE : Hid (cs.map bv ++ [.int .u8 (m : Int)] = (cs ++ [UInt8.ofNat m]).map fun b => Value.int .u8 b.toNat) := Lib.hid (by rw [List.map_append, List.map_cons, List.map_nil, ← bv_ofNat (show m < 256 by omega)]; rfl)
    go_wp2_with (first | ((with_reducible show WGd ..); (with_reducible apply wpA_guard); exact rfl; skip) | ((with_reducible show WAp ..); (with_reducible apply wpA_appendI hS (e := 5) (z := .int .u8 0) (size := 1) (bytes := 1)); exact rfl; exact rfl; exact Try.underlying99; (focus repeat constructor); exact .inr Try.underlying99; kernel_rfl; exact rfl; exact (Src.freshN (m := 1) hS 0 rfl rfl (by rfl)); exact (by unfold maxLen; omega); exact (by omega); intro ao2 cap2 wx hS; (try simp only [Act.put, List.setIfInBounds_toArray, List.set_cons_zero, List.set_cons_succ]); (try simp only [Act.put, Act.eval, Array.getD_eq_getD_getElem?, List.setIfInBounds_toArray, List.getElem?_toArray, List.getElem?_cons_succ, List.getElem?_cons_zero, Option.getD_some, List.set_cons_succ, List.set_cons_zero, Value.cells, List.toList_toArray] at hS); replace hS := hS.tail; rw [HE.out] at hS) | ((with_reducible show wpList _ _ _ (⟨_, .convert _ _ _, _, _, _, none⟩ :: _) _ _); (with_reducible apply wpA_toString hS 0); go_loud (exact rfl); go_loud (exact rfl); go_loud (exact Try.underlying99); go_loud (exact Try.underlying5); go_loud (exact Try.underlying9)) | ((first | ((with_reducible show WBs ..); (with_reducible apply wpA_oneN hS (z := .int .u8 0) (bytes := 1) (size := 1)); exact Try.underlying99; kernel_rfl; exact rfl; exact rfl; exact rfl; exact (by decide); exact (by decide); intro _ wx hS) | ((with_reducible show WBx ..); (with_reducible apply wpA_box hS); exact rfl; exact rfl; intro _ wx hS)); (try simp only [Act.put, List.setIfInBounds_toArray, List.set_cons_zero, List.set_cons_succ]); (try simp only [Act.eval, Array.getD_eq_getD_getElem?, List.getElem?_toArray, List.getElem?_cons_succ, List.getElem?_cons_zero, Option.getD_some, List.set_cons_succ, List.set_cons_zero, Value.cells, List.toList_toArray] at hS)) | ((with_reducible show WLd ..); (with_reducible apply wpA_load); exact rfl; (first | ((with_reducible apply St.cellI hS); (focus repeat constructor); exact rfl) | assumption); kernel_rfl) | ((with_reducible show WSt ..); (with_reducible apply wpA_store1I hS); exact rfl; (focus repeat constructor); exact rfl; exact rfl; exact rfl; exact rfl; kernel_rfl; intro wx hS; (try simp only [Act.put, List.setIfInBounds_toArray, List.set_cons_zero, List.set_cons_succ]); (try simp only [Act.eval, Array.getD_eq_getD_getElem?, List.getElem?_toArray, List.getElem?_cons_succ, List.getElem?_cons_zero, Option.getD_some, List.set_cons_succ, List.set_cons_zero, Value.cells, List.toList_toArray] at hS)))
    go_ret
    have hU := HU.out
    rw [uvB_small hm] at hU
    rw [hU]
    exact ⟨rfl, hS.tail⟩

theorem ru64_v {w0 w : World} {H : List Hp} (hS : St w0 w H) {v : Int} (n : Nat) (hv : v = (n : Int)) (hn : n < 18446744073709551616) :
    Calls Try.prog 43 #[.int .u64 v] w fun e w' => e = .returned (.string ⟨(uvB n).toArray⟩) ∧ St w0 w' H := by
  subst hv
  exact ru64_c hS n hn
theorem zig_neg {n : Int} (h : n < 0) (h1 : -9223372036854775808 ≤ n) : bits BinOp.xor IntKind.u64 (if IntKind.u64.signed = true then -1 else IntKind.u64.max) (IntKind.u64.wrap (IntKind.u64.wrap n * 2)) = ((zig n : Nat) : Int) := by
  have e1 : IntKind.u64.wrap (IntKind.u64.wrap n * 2) = (((n * 2 % 18446744073709551616).toNat : Nat) : Int) := by
    rw [IntKind.wrap_u64, IntKind.wrap_u64]; omega
  have e2 : (if IntKind.u64.signed = true then (-1 : Int) else IntKind.u64.max) = ((2 ^ 64 - 1 : Nat) : Int) := by decide
  rw [e1, e2, bits_xor_u64_nat _ _ (by decide) (by omega), Lib.xor_ones64 _ (by omega)]
  unfold zig
  rw [if_neg (by omega)]
  omega
set_option maxRecDepth 100000 in
theorem rint_c {w0 w : World} {H : List Hp} (hS : St w0 w H) (n : Int) (hn : -9223372036854775808 ≤ n ∧ n ≤ 9223372036854775807) :
    Calls Try.prog 41 #[.int .i64 n] w fun e w' => e = .returned (.string ⟨(intB n).toArray⟩) ∧ St w0 w' H := by
  obtain ⟨n1, n2⟩ := hn
  have hz : zig n < 18446744073709551616 := by unfold zig; split <;> omega
  by_cases h0 : n < 0
  · have hd : decide (n < 0) = true := by simpa using h0
    have HZ := Lib.hid (zig_neg h0 n1)
    go_enter Try.func41, Try.ntmps41
    go_wp2_with (first | ((with_reducible show WGd ..); (with_reducible apply wpA_guard); exact rfl; skip) | (go_at_call 43; with_reducible refine (ru64_v hS (zig n) HZ.out hz).mono ?_; rintro _ _ ⟨rfl, hS⟩) | ((with_reducible show WLd ..); (with_reducible apply wpA_load); exact rfl; (first | ((with_reducible apply St.cellI hS); (focus repeat constructor); exact rfl) | assumption); kernel_rfl) | ((with_reducible show WSt ..); (with_reducible apply wpA_store1I hS); exact rfl; (focus repeat constructor); exact rfl; exact rfl; exact rfl; exact rfl; kernel_rfl; intro wx hS; (try simp only [Act.put, List.setIfInBounds_toArray, List.set_cons_zero, List.set_cons_succ]); (try simp only [Act.eval, Array.getD_eq_getD_getElem?, List.getElem?_toArray, List.getElem?_cons_succ, List.getElem?_cons_zero, Option.getD_some, List.set_cons_succ, List.set_cons_zero, Value.cells, List.toList_toArray] at hS)) | ((with_reducible show WBx ..); (with_reducible apply wpA_box hS); exact rfl; exact rfl; intro _ wx hS; (try simp only [Act.put, List.setIfInBounds_toArray, List.set_cons_zero, List.set_cons_succ]); (try simp only [Act.eval, Array.getD_eq_getD_getElem?, List.getElem?_toArray, List.getElem?_cons_succ, List.getElem?_cons_zero, Option.getD_some, List.set_cons_succ, List.set_cons_zero, Value.cells, List.toList_toArray] at hS)))
    go_ret
    exact ⟨rfl, hS⟩
  · have hd : decide (n < 0) = false := by simpa using h0
    have HZ : Hid (n * 2 = ((zig n : Nat) : Int)) := Lib.hid (by unfold zig; rw [if_pos (by omega)]; omega)
    go_enter Try.func41, Try.ntmps41
    go_wp2_with (first | ((with_reducible show WGd ..); (with_reducible apply wpA_guard); exact rfl; skip) | (go_at_call 43; with_reducible refine (ru64_v hS (zig n) HZ.out hz).mono ?_; rintro _ _ ⟨rfl, hS⟩) | ((with_reducible show WLd ..); (with_reducible apply wpA_load); exact rfl; (first | ((with_reducible apply St.cellI hS); (focus repeat constructor); exact rfl) | assumption); kernel_rfl) | ((with_reducible show WSt ..); (with_reducible apply wpA_store1I hS); exact rfl; (focus repeat constructor); exact rfl; exact rfl; exact rfl; exact rfl; kernel_rfl; intro wx hS; (try simp only [Act.put, List.setIfInBounds_toArray, List.set_cons_zero, List.set_cons_succ]); (try simp only [Act.eval, Array.getD_eq_getD_getElem?, List.getElem?_toArray, List.getElem?_cons_succ, List.getElem?_cons_zero, Option.getD_some, List.set_cons_succ, List.set_cons_zero, Value.cells, List.toList_toArray] at hS)) | ((with_reducible show WBx ..); (with_reducible apply wpA_box hS); exact rfl; exact rfl; intro _ wx hS; (try simp only [Act.put, List.setIfInBounds_toArray, List.set_cons_zero, List.set_cons_succ]); (try simp only [Act.eval, Array.getD_eq_getD_getElem?, List.getElem?_toArray, List.getElem?_cons_succ, List.getElem?_cons_zero, Option.getD_some, List.set_cons_succ, List.set_cons_zero, Value.cells, List.toList_toArray] at hS)))
    go_ret
    exact ⟨rfl, hS⟩
end Go.Proofs.Ytodojllclghoiaa
