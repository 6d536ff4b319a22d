/-
  The codec's reader as plain data; what was written is read again.
-/
import Derived.Test.YtodojllclghoiaaCodecR
namespace Go.Proofs.Ytodojllclghoiaa
set_option linter.unusedVariables false
set_option linter.unusedSimpArgs false
open Go.RowKit

abbrev RS := List UInt8 × Bool
def pU (st : RS) : Nat × RS := if st.2 then (0, st) else match decU 10 0 st.1 with
  | none => (0, st.1, true)
  | some (n, r) => (n, r, false)
def unz (u : Nat) : Int := if u % 2 = 0 then ((u / 2 : Nat) : Int) else -((u / 2 : Nat) : Int) - 1
def pI (st : RS) : Int × RS := (unz (pU st).1, (pU st).2)
def pT (st : RS) : ByteArray × RS :=
  if (pU st).2.2 = true then (⟨#[]⟩, (pU st).2)
  else if 524288 < (pU st).1 ∨ (pU st).2.1.length < (pU st).1 then (⟨#[]⟩, (pU st).2.1, true)
  else (⟨((pU st).2.1.take (pU st).1).toArray⟩, (pU st).2.1.drop (pU st).1, false)
def pD (st : RS) : Int := if st.2 = true ∨ st.1 ≠ [] then 2 else 0

/-- The reader at block g, as plain data. -/
def RdS (w0 w : World) (g : Nat) (st : RS) (R : List Hp) : Prop := RdSt w0 w g ⟨st.1.toArray⟩ st.2 R

theorem RdS.use {w0 w : World} {g : Nat} {st : RS} {R : List Hp} (h : RdS w0 w g st R) : ∃ D : List Hp, St w0 w (D ++ R) ∧ ∀ w' R', St w0 w' (D ++ R') → RdS w0 w' g st R' := ⟨[_], h, fun _ _ h => h⟩
theorem RdS.rest {w0 w : World} {g : Nat} {st : RS} {R : List Hp} (h : RdS w0 w g st R) : St w0 w R := St.tail h
theorem RdS.perm {w0 w : World} {g : Nat} {st : RS} {R R' : List Hp} (h : RdS w0 w g st R) (hp : R.Perm R') : RdS w0 w g st R' := St.perm h (.cons _ hp)
theorem RdS.sub {w0 w : World} {g : Nat} {st : RS} {R R' : List Hp} (h : RdS w0 w g st R) (hp : R'.Sublist R) : RdS w0 w g st R' := St.sub h (.cons_cons _ hp)

theorem pof_c (w0 w : World) (H : List Hp) (s : ByteArray) (hS : St w0 w H) : Calls Try.prog 29 #[.string s] w fun e w' => ∃ g, e = .returned (.pointer (some ⟨g, 0, none⟩)) ∧ RdS w0 w' g (s.data.toList, false) H :=
  (of_c w0 w H s hS).mono fun e w' ⟨g, h1, h2⟩ => ⟨g, h1, by unfold RdS; exact h2⟩

theorem pu_c (w0 w : World) (R : List Hp) (g : Nat) (st : RS) (h : RdS w0 w g st R) : Calls Try.prog 45 #[.pointer (some ⟨g, 0, none⟩)] w fun e w' => e = .returned (.int .u64 (pU st).1) ∧ RdS w0 w' g (pU st).2 R := by
  obtain ⟨L, bad⟩ := st
  cases bad with
  | true =>
    have e : pU (L, true) = (0, L, true) := rfl
    rw [e]
    have hS : St w0 w (.cells g [.string ⟨L.toArray⟩, .bool true] 94 :: R) := h
    go_enter Try.func45, Try.ntmps45
    go_wp2_with (first | ((with_reducible show WGd ..); (with_reducible apply wpA_guard); exact rfl; skip) | ((with_reducible show WLd ..); (with_reducible apply wpA_load); exact rfl; (first | ((with_reducible apply St.cellI hS); (focus repeat constructor); exact rfl) | assumption); kernel_rfl) | ((with_reducible show WSt ..); (with_reducible apply wpA_store1I hS); exact rfl; (focus repeat constructor); exact rfl; exact rfl; exact rfl; exact rfl; kernel_rfl; intro wx hS; (try simp only [Act.put, List.setIfInBounds_toArray, List.set_cons_zero, List.set_cons_succ]); (try simp only [Act.eval, Array.getD_eq_getD_getElem?, List.getElem?_toArray, List.getElem?_cons_succ, List.getElem?_cons_zero, Option.getD_some, List.set_cons_succ, List.set_cons_zero, Value.cells, List.toList_toArray] at hS)) | ((with_reducible show WBx ..); (with_reducible apply wpA_box hS); exact rfl; exact rfl; intro _ wx hS; (try simp only [Act.put, List.setIfInBounds_toArray, List.set_cons_zero, List.set_cons_succ]); (try simp only [Act.eval, Array.getD_eq_getD_getElem?, List.getElem?_toArray, List.getElem?_cons_succ, List.getElem?_cons_zero, Option.getD_some, List.set_cons_succ, List.set_cons_zero, Value.cells, List.toList_toArray] at hS)))
    go_ret
    exact ⟨rfl, hS⟩
  | false =>
    refine (rdu64_c w0 w R g ⟨L.toArray⟩ L rfl h).mono ?_
    intro e w' h
    unfold pU
    rw [if_neg (by simp)]
    cases hd : decU 10 0 L with
    | none => rw [hd] at h; exact h
    | some x => rw [hd] at h; exact h

theorem unz_xor {u : Nat} (h : u < 18446744073709551616) : bits BinOp.xor IntKind.i64 (wrap64 ((u : Int) / 2)) (wrap64 (-wrap64 (bits BinOp.and IntKind.u64 (u : Int) 1))) = unz u := by
  rw [Lib.u64_and1 _ (by omega) (by omega)]
  unfold unz
  by_cases h2 : u % 2 = 0
  · rw [if_pos h2]
    have e1 : wrap64 (-wrap64 ((u : Int) % 2)) = 0 := by unfold wrap64; omega
    have e2 : wrap64 ((u : Int) / 2) = ((u / 2 : Nat) : Int) := by unfold wrap64; omega
    rw [e1, e2]
    show IntKind.i64.wrap ((BitVec.ofInt 64 ((u / 2 : Nat) : Int) ^^^ BitVec.ofInt 64 0).toNat : Int) = _
    have h3 : (BitVec.ofInt 64 ((u / 2 : Nat) : Int)).toNat = u / 2 := by
      rw [BitVec.ofInt_natCast, BitVec.toNat_ofNat]; exact Nat.mod_eq_of_lt (by omega)
    have h4 : (BitVec.ofInt 64 0).toNat = 0 := by decide
    rw [BitVec.toNat_xor, h3, h4, Nat.xor_zero, IntKind.wrap_i64]
    omega
  · rw [if_neg h2]
    have e1 : wrap64 (-wrap64 ((u : Int) % 2)) = -1 := by unfold wrap64; omega
    have e2 : wrap64 ((u : Int) / 2) = ((u / 2 : Nat) : Int) := by unfold wrap64; omega
    rw [e1, e2]
    have := Lib.i64_not (u / 2) (by omega)
    rw [← this]
    show IntKind.i64.wrap ((BitVec.ofInt 64 ((u / 2 : Nat) : Int) ^^^ BitVec.ofInt 64 (-1)).toNat : Int) = IntKind.i64.wrap ((BitVec.ofInt 64 (-1) ^^^ BitVec.ofInt 64 ((u / 2 : Nat) : Int)).toNat : Int)
    rw [BitVec.xor_comm]

theorem decU_lt : ∀ (f i : Nat) (L : List UInt8), i + f = 10 → ∀ x, decU f i L = some x → x.1 * 128 ^ i < 18446744073709551616
  | 0, i, L, hf, x, h => by simp [decU] at h
  | f + 1, i, [], hf, x, h => by simp [decU] at h
  | f + 1, i, c :: r, hf, x, h => by
    rw [decU] at h
    split at h
    · cases h
    · rename_i hn
      have hp : 128 ^ i ≤ 128 ^ 9 := Nat.pow_le_pow_right (by decide) (by omega)
      split at h
      · rename_i hc
        cases h
        show c.toNat * 128 ^ i < _
        by_cases h9 : i = 9
        · have : c.toNat ≤ 1 := by
            rcases Nat.lt_or_ge 1 c.toNat with h1 | h1
            · exact absurd (.inl ⟨h9, h1⟩) hn
            · exact h1
          exact Nat.lt_of_le_of_lt (Nat.mul_le_mul this hp) (by decide)
        · have hp2 : 128 ^ i ≤ 128 ^ 8 := Nat.pow_le_pow_right (by decide) (by omega)
          have : c.toNat ≤ 127 := by omega
          exact Nat.lt_of_le_of_lt (Nat.mul_le_mul this hp2) (by decide)
      · cases hd : decU f (i + 1) r with
        | none => rw [hd] at h; cases h
        | some y =>
          rw [hd] at h
          cases h
          have ih := decU_lt f (i + 1) r (by omega) y hd
          show (y.1 * 128 + c.toNat % 128) * 128 ^ i < _
          have e : y.1 * 128 ^ (i + 1) = y.1 * 128 * 128 ^ i := by rw [Nat.pow_succ, Nat.mul_assoc, Nat.mul_comm (128 ^ i) 128]
          rw [e] at ih
          -- 2^64 is a multiple of 128^i, when i ≤ 9
          have hdvd : ∃ k, 18446744073709551616 = k * (128 * 128 ^ i) ∨ i = 9 := by
            by_cases h9 : i = 9
            · exact ⟨0, .inr h9⟩
            · refine ⟨2 ^ (57 - 7 * i), .inl ?_⟩
              have h1 : (128 : Nat) * 128 ^ i = 2 ^ (7 * i + 7) := by
                rw [show (128 : Nat) = 2 ^ 7 from rfl, ← Nat.pow_mul, ← Nat.pow_add]; congr 1; omega
              rw [h1, ← Nat.pow_add, show 57 - 7 * i + (7 * i + 7) = 64 by omega]
          obtain ⟨k, hk | hk⟩ := hdvd
          · have hy : y.1 < k := by
              rw [hk, Nat.mul_assoc] at ih
              exact Nat.lt_of_mul_lt_mul_right ih
            have hlt : y.1 * 128 + c.toNat % 128 < k * 128 := by omega
            rw [hk, ← Nat.mul_assoc]
            exact Nat.mul_lt_mul_of_pos_right hlt (Nat.pow_pos (by decide))
          · subst hk
            obtain rfl : f = 0 := by omega
            simp [decU] at hd

theorem pU_lt (st : RS) : (pU st).1 < 18446744073709551616 := by
  unfold pU
  split
  · show 0 < _; decide
  · split
    · show 0 < _; decide
    · rename_i hd
      have := decU_lt 10 0 st.1 rfl _ hd
      simpa using this

theorem pi_c (w0 w : World) (R : List Hp) (g : Nat) (st : RS) (h : RdS w0 w g st R) : Calls Try.prog 30 #[.pointer (some ⟨g, 0, none⟩)] w fun e w' => e = .returned (.int .i64 (pI st).1) ∧ RdS w0 w' g (pI st).2 R := by
  have hu := pu_c w0 w R g st h
  have hx := unz_xor (pU_lt st)
  have HU := Lib.hid hu
  have HX := Lib.hid hx
  clear hu hx
  unfold pI
  generalize pU st = p at HU HX ⊢
  obtain ⟨u, st'⟩ := p
  simp only at HU HX ⊢
  go_enter Try.func30, Try.ntmps30
  go_wp2_with (first | ((with_reducible show WGd ..); (with_reducible apply wpA_guard); exact rfl; skip) | (go_at_call 45; with_reducible refine (HU.out).mono ?_; rintro _ _ ⟨rfl, h⟩) | ((with_reducible show WLd ..); (with_reducible apply wpA_load); exact rfl; (first | ((with_reducible apply St.cellI hS); (focus repeat constructor); exact rfl) | assumption); kernel_rfl) | ((with_reducible show WSt ..); (with_reducible apply wpA_store1I hS); exact rfl; (focus repeat constructor); exact rfl; exact rfl; exact rfl; exact rfl; kernel_rfl; intro wx hS; (try simp only [Act.put, List.setIfInBounds_toArray, List.set_cons_zero, List.set_cons_succ]); (try simp only [Act.eval, Array.getD_eq_getD_getElem?, List.getElem?_toArray, List.getElem?_cons_succ, List.getElem?_cons_zero, Option.getD_some, List.set_cons_succ, List.set_cons_zero, Value.cells, List.toList_toArray] at hS)) | ((with_reducible show WBx ..); (with_reducible apply wpA_box hS); exact rfl; exact rfl; intro _ wx hS; (try simp only [Act.put, List.setIfInBounds_toArray, List.set_cons_zero, List.set_cons_succ]); (try simp only [Act.eval, Array.getD_eq_getD_getElem?, List.getElem?_toArray, List.getElem?_cons_succ, List.getElem?_cons_zero, Option.getD_some, List.set_cons_succ, List.set_cons_zero, Value.cells, List.toList_toArray] at hS)))
  go_ret
  exact ⟨by rw [← HX.out]; rfl, h⟩

theorem pd_c (w0 w : World) (R : List Hp) (g : Nat) (st : RS) (h : RdS w0 w g st R) : Calls Try.prog 34 #[.pointer (some ⟨g, 0, none⟩)] w fun e w' => e = .returned (.int .i64 (pD st)) ∧ RdS w0 w' g st R := by
  refine (rddone_c w0 w R g ⟨st.1.toArray⟩ st.2 h).mono ?_
  rintro e w' ⟨rfl, h2⟩
  refine ⟨?_, h2⟩
  congr 2
  unfold doneE pD
  rw [ByteArray.toList_eq]
  simp only [List.isEmpty_eq_false_iff]
  try rfl

-- what was written is read again
theorem decU_uvB : ∀ (f i n : Nat) (r : List UInt8), i + f = 10 → (0 < n ∨ i = 0) → n * 128 ^ i < 18446744073709551616 → decU f i (uvB n ++ r) = some (n, r)
  | 0, i, n, r, hf, h0, hn => by
    obtain rfl : i = 10 := by omega
    rcases h0 with h | h
    · have : 1 * 128 ^ 10 ≤ n * 128 ^ 10 := Nat.mul_le_mul_right _ h
      omega
    · omega
  | f + 1, i, n, r, hf, h0, hn => by
    by_cases h1 : n ≤ 127
    · rw [uvB_small h1]
      have e : (UInt8.ofNat n).toNat = n := UInt8.toNat_ofNat_of_lt' (by show n < 256; omega)
      show decU (f + 1) i (UInt8.ofNat n :: r) = _
      rw [decU_last]
      · rw [e]
      · rw [e]
        rintro (⟨rfl, h2⟩ | ⟨h2, h3⟩)
        · have : 2 * 128 ^ 9 ≤ n * 128 ^ 9 := Nat.mul_le_mul_right _ h2
          omega
        · omega
      · rw [e]; omega
    · rw [uvB_big (by omega)]
      have e : (UInt8.ofNat (128 + n % 128)).toNat = 128 + n % 128 := UInt8.toNat_ofNat_of_lt' (by show 128 + n % 128 < 256; omega)
      show decU (f + 1) i (UInt8.ofNat (128 + n % 128) :: (uvB (n / 128) ++ r)) = _
      have h9 : i ≠ 9 := by
        rintro rfl
        have : 128 * 128 ^ 9 ≤ n * 128 ^ 9 := Nat.mul_le_mul_right _ (by omega)
        omega
      rw [decU_more]
      · rw [decU_uvB f (i + 1) (n / 128) r (by omega) (.inl (by omega)) ?_]
        · rw [e]
          simp only [Option.map_some, Option.some.injEq, Prod.mk.injEq, and_true]
          omega
        · have : n / 128 * 128 ^ (i + 1) ≤ n * 128 ^ i := by
            rw [Nat.pow_succ, Nat.mul_comm (128 ^ i) 128, ← Nat.mul_assoc]
            exact Nat.mul_le_mul_right _ (by omega)
          omega
      · rw [e]
        rintro (⟨h2, _⟩ | ⟨h2, _⟩)
        · exact h9 h2
        · omega
      · rw [e]; omega

theorem pU_uvB {n : Nat} (r : List UInt8) (h : n < 18446744073709551616) : pU (uvB n ++ r, false) = (n, r, false) := by
  unfold pU
  rw [if_neg (by simp)]
  simp only [decU_uvB 10 0 n r rfl (.inr rfl) (by simpa using h)]
theorem unz_zig (n : Int) : unz (zig n) = n := by unfold unz zig; split <;> split <;> omega
theorem zig_lt {n : Int} (h : -9223372036854775808 ≤ n ∧ n ≤ 9223372036854775807) : zig n < 18446744073709551616 := by unfold zig; split <;> omega
theorem pI_intB {n : Int} (r : List UInt8) (h : -9223372036854775808 ≤ n ∧ n ≤ 9223372036854775807) : pI (intB n ++ r, false) = (n, r, false) := by
  unfold pI intB
  rw [pU_uvB r (zig_lt h), unz_zig]


end Go.Proofs.Ytodojllclghoiaa
