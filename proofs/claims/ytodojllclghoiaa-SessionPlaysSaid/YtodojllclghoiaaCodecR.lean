/-
  The codec's reader: what it reads.
-/
import Derived.Test.YtodojllclghoiaaCodecW
namespace Go.Proofs.Ytodojllclghoiaa
set_option linter.unusedVariables false
set_option linter.unusedSimpArgs false
open Go.RowKit

/-- The reader at block g has s before it. -/
def RdSt (w0 w : World) (g : Nat) (s : ByteArray) (bad : Bool) (R : List Hp) : Prop := St w0 w (.cells g [.string s, .bool bad] 94 :: R)

/-- A number's bytes, the i-th first: the number and what is behind. -/
def decU : Nat → Nat → List UInt8 → Option (Nat × List UInt8)
  | 0, _, _ => none
  | _ + 1, _, [] => none
  | f + 1, i, c :: r =>
    if (i = 9 ∧ 1 < c.toNat) ∨ (c.toNat = 0 ∧ 0 < i) then none
    else if c.toNat < 128 then some (c.toNat, r)
    else (decU f (i + 1) r).map fun x => (x.1 * 128 + c.toNat % 128, x.2)

theorem of_c (w0 w : World) (H : List Hp) (s : ByteArray) (hS : St w0 w H) : Calls Try.prog 29 #[.string s] w fun e w' => ∃ g, e = .returned (.pointer (some ⟨g, 0, none⟩)) ∧ RdSt w0 w' g s false H := by
  go_enter Try.func29, Try.ntmps29
  go_wp2_with (first | ((with_reducible show WGd ..); (with_reducible apply wpA_guard); exact rfl; skip) | ((with_reducible show WLd ..); (with_reducible apply wpA_load); exact rfl; (first | ((with_reducible apply St.cellI hS); (focus repeat constructor); exact rfl) | assumption); kernel_rfl) | ((with_reducible show WSt ..); (with_reducible apply wpA_store1I hS); exact rfl; (focus repeat constructor); exact rfl; exact rfl; exact rfl; exact rfl; kernel_rfl; intro wx hS; (try simp only [Act.put, List.setIfInBounds_toArray, List.set_cons_zero, List.set_cons_succ]); (try simp only [Act.eval, Array.getD_eq_getD_getElem?, List.getElem?_toArray, List.getElem?_cons_succ, List.getElem?_cons_zero, Option.getD_some, List.set_cons_succ, List.set_cons_zero, Value.cells, List.toList_toArray] at hS)) | ((with_reducible show WBx ..); (with_reducible apply wpA_box hS); exact rfl; exact rfl; intro _ wx hS; (try simp only [Act.put, List.setIfInBounds_toArray, List.set_cons_zero, List.set_cons_succ]); (try simp only [Act.eval, Array.getD_eq_getD_getElem?, List.getElem?_toArray, List.getElem?_cons_succ, List.getElem?_cons_zero, Option.getD_some, List.set_cons_succ, List.set_cons_zero, Value.cells, List.toList_toArray] at hS)))
  go_ret
  exact ⟨_, rfl, hS⟩

theorem fail_c (w0 w : World) (R : List Hp) (g : Nat) (s : ByteArray) (bad : Bool) (h : RdSt w0 w g s bad R) : Calls Try.prog 51 #[.pointer (some ⟨g, 0, none⟩)] w fun e w' => e = .returned (.int .u64 0) ∧ RdSt w0 w' g s true R := by
  have hS : St w0 w (.cells g [.string s, .bool bad] 94 :: R) := h
  go_enter Try.func51, Try.ntmps51
  go_wp2_with (first | ((with_reducible show WGd ..); (with_reducible apply wpA_guard); exact rfl; skip) | ((with_reducible show WLd ..); (with_reducible apply wpA_load); exact rfl; (first | ((with_reducible apply St.cellI hS); (focus repeat constructor); exact rfl) | assumption); kernel_rfl) | ((with_reducible show WSt ..); (with_reducible apply wpA_store1I hS); exact rfl; (focus repeat constructor); exact rfl; exact rfl; exact rfl; exact rfl; kernel_rfl; intro wx hS; (try simp only [Act.put, List.setIfInBounds_toArray, List.set_cons_zero, List.set_cons_succ]); (try simp only [Act.eval, Array.getD_eq_getD_getElem?, List.getElem?_toArray, List.getElem?_cons_succ, List.getElem?_cons_zero, Option.getD_some, List.set_cons_succ, List.set_cons_zero, Value.cells, List.toList_toArray] at hS)) | ((with_reducible show WBx ..); (with_reducible apply wpA_box hS); exact rfl; exact rfl; intro _ wx hS; (try simp only [Act.put, List.setIfInBounds_toArray, List.set_cons_zero, List.set_cons_succ]); (try simp only [Act.eval, Array.getD_eq_getD_getElem?, List.getElem?_toArray, List.getElem?_cons_succ, List.getElem?_cons_zero, Option.getD_some, List.set_cons_succ, List.set_cons_zero, Value.cells, List.toList_toArray] at hS)))
  go_ret
  exact ⟨rfl, hS⟩

def doneE (bad : Bool) (s : ByteArray) : Int := if bad = true ∨ s.toList.isEmpty = false then 2 else 0
theorem rddone_c (w0 w : World) (R : List Hp) (g : Nat) (s : ByteArray) (bad : Bool) (h : RdSt w0 w g s bad R) : Calls Try.prog 34 #[.pointer (some ⟨g, 0, none⟩)] w fun e w' => e = .returned (.int .i64 (doneE bad s)) ∧ RdSt w0 w' g s bad R := by
  have hS : St w0 w (.cells g [.string s, .bool bad] 94 :: R) := h
  cases bad with
  | true =>
    rw [show doneE true s = 2 from if_pos (.inl rfl)]
    go_enter Try.func34, Try.ntmps34
    go_wp2_with (first | ((with_reducible show WGd ..); (with_reducible apply wpA_guard); exact rfl; skip) | ((with_reducible show WLd ..); (with_reducible apply wpA_load); exact rfl; (first | ((with_reducible apply St.cellI hS); (focus repeat constructor); exact rfl) | assumption); kernel_rfl) | ((with_reducible show WSt ..); (with_reducible apply wpA_store1I hS); exact rfl; (focus repeat constructor); exact rfl; exact rfl; exact rfl; exact rfl; kernel_rfl; intro wx hS; (try simp only [Act.put, List.setIfInBounds_toArray, List.set_cons_zero, List.set_cons_succ]); (try simp only [Act.eval, Array.getD_eq_getD_getElem?, List.getElem?_toArray, List.getElem?_cons_succ, List.getElem?_cons_zero, Option.getD_some, List.set_cons_succ, List.set_cons_zero, Value.cells, List.toList_toArray] at hS)) | ((with_reducible show WBx ..); (with_reducible apply wpA_box hS); exact rfl; exact rfl; intro _ wx hS; (try simp only [Act.put, List.setIfInBounds_toArray, List.set_cons_zero, List.set_cons_succ]); (try simp only [Act.eval, Array.getD_eq_getD_getElem?, List.getElem?_toArray, List.getElem?_cons_succ, List.getElem?_cons_zero, Option.getD_some, List.set_cons_succ, List.set_cons_zero, Value.cells, List.toList_toArray] at hS)))
    go_ret
    exact ⟨rfl, hS⟩
  | false =>
    cases hs : s.toList.isEmpty with
    | true =>
      rw [show doneE false s = 0 by unfold doneE; rw [hs]; rfl]
      go_enter Try.func34, Try.ntmps34
      go_wp2_with (first | ((with_reducible show WGd ..); (with_reducible apply wpA_guard); exact rfl; skip) | ((with_reducible show WLd ..); (with_reducible apply wpA_load); exact rfl; (first | ((with_reducible apply St.cellI hS); (focus repeat constructor); exact rfl) | assumption); kernel_rfl) | ((with_reducible show WSt ..); (with_reducible apply wpA_store1I hS); exact rfl; (focus repeat constructor); exact rfl; exact rfl; exact rfl; exact rfl; kernel_rfl; intro wx hS; (try simp only [Act.put, List.setIfInBounds_toArray, List.set_cons_zero, List.set_cons_succ]); (try simp only [Act.eval, Array.getD_eq_getD_getElem?, List.getElem?_toArray, List.getElem?_cons_succ, List.getElem?_cons_zero, Option.getD_some, List.set_cons_succ, List.set_cons_zero, Value.cells, List.toList_toArray] at hS)) | ((with_reducible show WBx ..); (with_reducible apply wpA_box hS); exact rfl; exact rfl; intro _ wx hS; (try simp only [Act.put, List.setIfInBounds_toArray, List.set_cons_zero, List.set_cons_succ]); (try simp only [Act.eval, Array.getD_eq_getD_getElem?, List.getElem?_toArray, List.getElem?_cons_succ, List.getElem?_cons_zero, Option.getD_some, List.set_cons_succ, List.set_cons_zero, Value.cells, List.toList_toArray] at hS)))
      go_ret
      exact ⟨rfl, hS⟩
    | false =>
      rw [show doneE false s = 2 by unfold doneE; rw [hs]; rfl]
      go_enter Try.func34, Try.ntmps34
      go_wp2_with (first | ((with_reducible show WGd ..); (with_reducible apply wpA_guard); exact rfl; skip) | ((with_reducible show WLd ..); (with_reducible apply wpA_load); exact rfl; (first | ((with_reducible apply St.cellI hS); (focus repeat constructor); exact rfl) | assumption); kernel_rfl) | ((with_reducible show WSt ..); (with_reducible apply wpA_store1I hS); exact rfl; (focus repeat constructor); exact rfl; exact rfl; exact rfl; exact rfl; kernel_rfl; intro wx hS; (try simp only [Act.put, List.setIfInBounds_toArray, List.set_cons_zero, List.set_cons_succ]); (try simp only [Act.eval, Array.getD_eq_getD_getElem?, List.getElem?_toArray, List.getElem?_cons_succ, List.getElem?_cons_zero, Option.getD_some, List.set_cons_succ, List.set_cons_zero, Value.cells, List.toList_toArray] at hS)) | ((with_reducible show WBx ..); (with_reducible apply wpA_box hS); exact rfl; exact rfl; intro _ wx hS; (try simp only [Act.put, List.setIfInBounds_toArray, List.set_cons_zero, List.set_cons_succ]); (try simp only [Act.eval, Array.getD_eq_getD_getElem?, List.getElem?_toArray, List.getElem?_cons_succ, List.getElem?_cons_zero, Option.getD_some, List.set_cons_succ, List.set_cons_zero, Value.cells, List.toList_toArray] at hS)))
      go_ret
      exact ⟨rfl, hS⟩

theorem pow7 (i : Nat) : (2 : Int) ^ (7 * i) = ((128 ^ i : Nat) : Int) := by
  rw [Int.natCast_pow, Int.pow_mul]; rfl
theorem orv {i acc cn : Nat} (hi : i < 10) (ha : acc < 128 ^ i) (hc : cn < 256) (h9 : i = 9 → cn ≤ 1) :
    bits BinOp.or IntKind.u64 (acc : Int) (IntKind.u64.wrap (IntKind.u64.wrap (bits BinOp.and IntKind.u8 (cn : Int) 127) * 2 ^ (7 * i))) = ((acc + cn % 128 * 128 ^ i : Nat) : Int) := by
  have e1 : IntKind.u64.wrap (bits BinOp.and IntKind.u8 (cn : Int) 127) = ((cn % 128 : Nat) : Int) := by
    rw [u8_and127 _ (by omega) (by omega), IntKind.wrap_u64]; omega
  have hp : 128 ^ i * (cn % 128 + 1) ≤ 18446744073709551616 := by
    by_cases h : i = 9
    · have := h9 h
      subst h
      have : cn % 128 + 1 ≤ 2 := by omega
      exact Nat.le_trans (Nat.mul_le_mul_left _ this) (by decide)
    · have h1 : 128 ^ i ≤ 128 ^ 8 := Nat.pow_le_pow_right (by decide) (by omega)
      have h2 : cn % 128 + 1 ≤ 128 := by omega
      exact Nat.le_trans (Nat.mul_le_mul h1 h2) (by decide)
  have hq : cn % 128 * 128 ^ i < 18446744073709551616 := by
    rw [Nat.mul_add] at hp
    have := Nat.pow_pos (n := i) (show 0 < 128 by decide)
    rw [Nat.mul_comm]; omega
  have ha2 : acc < 18446744073709551616 := by
    have : 128 ^ i ≤ 128 ^ i * (cn % 128 + 1) := Nat.le_mul_of_pos_right _ (by omega)
    omega
  obtain ⟨X, hX⟩ : ∃ X, cn % 128 * 128 ^ i = X := ⟨_, rfl⟩
  have hm : ((X : Nat) : Int) % ((128 ^ i : Nat) : Int) = 0 := by rw [← Int.natCast_emod, ← hX, Nat.mul_mod_left]; rfl
  rw [hX] at hq ⊢
  have e2 : IntKind.u64.wrap (((cn % 128 : Nat) : Int) * 2 ^ (7 * i)) = ((X : Nat) : Int) := by
    rw [pow7, ← Int.natCast_mul, hX, IntKind.wrap_u64]
    omega
  have hy : ((acc : Nat) : Int) < 2 ^ (7 * i) := by rw [pow7]; exact Int.ofNat_lt.2 ha
  have hm2 : ((X : Nat) : Int) % 2 ^ (7 * i) = 0 := by rw [pow7]; exact hm
  rw [e1, e2]
  rw [bits_join_low .u64 64 (by decide) wraps_u64 (7 * i) _ _ (by omega) hy (by omega) (by omega) hm2 (by omega)]
  omega

theorem decU_fail {f i : Nat} {c : UInt8} {r : List UInt8} (h : (i = 9 ∧ 1 < c.toNat) ∨ (c.toNat = 0 ∧ 0 < i)) : decU (f + 1) i (c :: r) = none := by
  rw [decU, if_pos h]
theorem decU_last {f i : Nat} {c : UInt8} {r : List UInt8} (h : ¬ ((i = 9 ∧ 1 < c.toNat) ∨ (c.toNat = 0 ∧ 0 < i))) (hc : c.toNat < 128) : decU (f + 1) i (c :: r) = some (c.toNat, r) := by
  rw [decU, if_neg h, if_pos hc]
theorem decU_more {f i : Nat} {c : UInt8} {r : List UInt8} (h : ¬ ((i = 9 ∧ 1 < c.toNat) ∨ (c.toNat = 0 ∧ 0 < i))) (hc : ¬ c.toNat < 128) : decU (f + 1) i (c :: r) = (decU f (i + 1) r).map fun x => (x.1 * 128 + c.toNat % 128, x.2) := by
  rw [decU, if_neg h, if_neg hc]

theorem bytes_ext {a b : ByteArray} (h : a.data.toList = b.data.toList) : a = b := by
  cases a; cases b; simp only [ByteArray.mk.injEq]; exact Array.ext' h

theorem extract_tail {s : ByteArray} {L : List UInt8} (h : s.data.toList = L) {a b : Nat} (hb : s.size ≤ b) : s.extract a b = ⟨(L.drop a).toArray⟩ := by
  apply bytes_ext
  have : (s.extract a b).data.toList = (s.data.toList.drop a).take (b - a) := by
    rw [ByteArray.data_extract, Array.toList_extract]; try rfl
  rw [this, h, List.take_of_length_le (by have h2 : L.length = s.size := (by rw [← h]; exact Array.length_toList); rw [List.length_drop]; omega)]

/-- What reading a number gives. -/
def RdU (w0 : World) (g : Nat) (s : ByteArray) (R : List Hp) (o : Option (Nat × List UInt8)) (e : Ending) (w' : World) : Prop := match o with
  | none => e = .returned (.int .u64 0) ∧ RdSt w0 w' g s true R
  | some (n, r) => e = .returned (.int .u64 n) ∧ RdSt w0 w' g ⟨r.toArray⟩ false R
set_option maxRecDepth 100000 in
set_option maxHeartbeats 4000000 in
theorem rdu64_c (w0 w : World) (R : List Hp) (g : Nat) (s : ByteArray) (L : List UInt8) (hL : s.data.toList = L) (h : RdSt w0 w g s false R) :
    Calls Try.prog 45 #[.pointer (some ⟨g, 0, none⟩)] w (RdU w0 g s R (decU 10 0 L)) := by
  have hS : St w0 w (.cells g [.string s, .bool false] 94 :: R) := h
  have HL := Lib.hid hL
  have hsz : L.length = s.size := by rw [← hL]; exact Array.length_toList
  have HZ := Lib.hid hsz
  clear hL hsz
  go_enter Try.func45, Try.ntmps45
  go_wp2_with (first | ((with_reducible show WGd ..); (with_reducible apply wpA_guard); exact rfl; skip) | ((with_reducible show WLd ..); (with_reducible apply wpA_load); exact rfl; (first | ((with_reducible apply St.cellI hS); (focus repeat constructor); exact rfl) | assumption); kernel_rfl) | ((with_reducible show WSt ..); (with_reducible apply wpA_store1I hS); exact rfl; (focus repeat constructor); exact rfl; exact rfl; exact rfl; exact rfl; kernel_rfl; intro wx hS; (try simp only [Act.put, List.setIfInBounds_toArray, List.set_cons_zero, List.set_cons_succ]); (try simp only [Act.eval, Array.getD_eq_getD_getElem?, List.getElem?_toArray, List.getElem?_cons_succ, List.getElem?_cons_zero, Option.getD_some, List.set_cons_succ, List.set_cons_zero, Value.cells, List.toList_toArray] at hS)) | ((with_reducible show WBx ..); (with_reducible apply wpA_box hS); exact rfl; exact rfl; intro _ wx hS; (try simp only [Act.put, List.setIfInBounds_toArray, List.set_cons_zero, List.set_cons_succ]); (try simp only [Act.eval, Array.getD_eq_getD_getElem?, List.getElem?_toArray, List.getElem?_cons_succ, List.getElem?_cons_zero, Option.getD_some, List.set_cons_succ, List.set_cons_zero, Value.cells, List.toList_toArray] at hS)))
  go_loopw [14, 3] (fun c v wr => ∃ (i acc : Nat), i ≤ 10 ∧ c = .int .i64 i ∧ v = .int .u64 acc ∧ i ≤ s.size ∧ Hid (acc < 128 ^ i) ∧ Hid (decU 10 0 L = (decU (10 - i) i (L.drop i)).map (fun x => (x.1 * 128 ^ i + acc, x.2))) ∧ RdSt w0 wr g s false R) (fun c _ _ => 10 - (intOf c).toNat)
  case atStart => exact ⟨0, 0, by decide, rfl, rfl, Nat.zero_le _, Lib.hid (by decide), Lib.hid (by
    rw [List.drop_zero, Nat.sub_zero]
    have : (fun x : Nat × List UInt8 => (x.1 * 128 ^ 0 + 0, x.2)) = id := by funext x; simp
    rw [this, Option.map_id]; rfl), h⟩
  case round =>
    clear hS h
    obtain ⟨i, acc, hi, rfl, rfl, hil, HA, HD, hQ⟩ := hrel
    have hS : St w0 wr (.cells g [.string s, .bool false] 94 :: R) := hQ
    by_cases h10 : i < 10
    · by_cases hlen : i < s.size
      · obtain ⟨c, hc⟩ : ∃ c, L[i]? = some c := ⟨_, List.getElem?_eq_getElem (by rw [HZ.out]; exact hlen)⟩
        have hsc : s[i] = c := by
          have h1 : L[i]'(by rw [HZ.out]; exact hlen) = c := (List.getElem?_eq_some_iff.1 hc).2
          rw [← h1]
          have := HL.out
          subst this
          rfl
        have hd : L.drop i = c :: L.drop (i + 1) := by
          obtain ⟨hl, e⟩ := List.getElem?_eq_some_iff.1 hc
          rw [List.drop_eq_getElem_cons hl, e]
        have HDR := Lib.hid hd
        have hcn : c.toNat < 256 := c.toNat_lt
        have hne : ((i : Int) == (s.size : Int)) = false := by rw [beq_eq_false_iff_ne]; omega
        obtain ⟨f, hf⟩ : ∃ f, 10 - i = f + 1 := ⟨9 - i, by omega⟩
        have HF := Lib.hid hf
        clear hc hd hf
        go_upto_region 11 with (first | ((with_reducible show WGd ..); (with_reducible apply wpA_guard); exact rfl; skip) | ((with_reducible show WLd ..); (with_reducible apply wpA_load); exact rfl; (first | ((with_reducible apply St.cellI hS); (focus repeat constructor); exact rfl) | assumption); kernel_rfl) | ((with_reducible show WSt ..); (with_reducible apply wpA_store1I hS); exact rfl; (focus repeat constructor); exact rfl; exact rfl; exact rfl; exact rfl; kernel_rfl; intro wx hS; (try simp only [Act.put, List.setIfInBounds_toArray, List.set_cons_zero, List.set_cons_succ]); (try simp only [Act.eval, Array.getD_eq_getD_getElem?, List.getElem?_toArray, List.getElem?_cons_succ, List.getElem?_cons_zero, Option.getD_some, List.set_cons_succ, List.set_cons_zero, Value.cells, List.toList_toArray] at hS)) | ((with_reducible show WBx ..); (with_reducible apply wpA_box hS); exact rfl; exact rfl; intro _ wx hS; (try simp only [Act.put, List.setIfInBounds_toArray, List.set_cons_zero, List.set_cons_succ]); (try simp only [Act.eval, Array.getD_eq_getD_getElem?, List.getElem?_toArray, List.getElem?_cons_succ, List.getElem?_cons_zero, Option.getD_some, List.set_cons_succ, List.set_cons_zero, Value.cells, List.toList_toArray] at hS)))
        clear hsc
        generalize hv : bits BinOp.or IntKind.u64 (acc : Int) (IntKind.u64.wrap (IntKind.u64.wrap (bits BinOp.and IntKind.u8 (c.toNat : Int) 127) * 2 ^ (7 * i))) = v
        have HV := Lib.hid hv
        clear hv
        by_cases hf1 : (i = 9 ∧ 1 < c.toNat) ∨ (c.toNat = 0 ∧ 0 < i)
        · have hnone : decU 10 0 L = none := by rw [HD.out, HF.out, HDR.out, decU_fail hf1]; rfl
          rcases hf1 with ⟨rfl, h1⟩ | ⟨h1, h2⟩
          · have hb1 : decide (1 < (c.toNat : Int)) = true := by simpa using (by omega : (1 : Int) < c.toNat)
            have HN := Lib.hid hnone
            clear hnone
            go_wp2_with (first | ((with_reducible show WGd ..); (with_reducible apply wpA_guard); exact rfl; skip) | (go_at_call 51; with_reducible refine (fail_c w0 _ _ g s false hQ).mono ?_; rintro _ _ ⟨rfl, hR⟩) | ((with_reducible show WLd ..); (with_reducible apply wpA_load); exact rfl; (first | ((with_reducible apply St.cellI hS); (focus repeat constructor); exact rfl) | assumption); kernel_rfl) | ((with_reducible show WSt ..); (with_reducible apply wpA_store1I hS); exact rfl; (focus repeat constructor); exact rfl; exact rfl; exact rfl; exact rfl; kernel_rfl; intro wx hS; (try simp only [Act.put, List.setIfInBounds_toArray, List.set_cons_zero, List.set_cons_succ]); (try simp only [Act.eval, Array.getD_eq_getD_getElem?, List.getElem?_toArray, List.getElem?_cons_succ, List.getElem?_cons_zero, Option.getD_some, List.set_cons_succ, List.set_cons_zero, Value.cells, List.toList_toArray] at hS)) | ((with_reducible show WBx ..); (with_reducible apply wpA_box hS); exact rfl; exact rfl; intro _ wx hS; (try simp only [Act.put, List.setIfInBounds_toArray, List.set_cons_zero, List.set_cons_succ]); (try simp only [Act.eval, Array.getD_eq_getD_getElem?, List.getElem?_toArray, List.getElem?_cons_succ, List.getElem?_cons_zero, Option.getD_some, List.set_cons_succ, List.set_cons_zero, Value.cells, List.toList_toArray] at hS)))
            go_ret
            rw [HN.out]
            exact ⟨rfl, hR⟩
          · have HN := Lib.hid hnone
            clear hnone
            have hb0 : ((c.toNat : Int) == 0) = true := by rw [h1]; rfl
            have hb2 : decide (0 < (i : Int)) = true := by simpa using (by omega : (0 : Int) < i)
            have hb3 : ¬ (1 < (c.toNat : Int)) := by omega
            cases hi9 : ((i : Int) == 9) with
            | true =>
              go_wp2_with (first | ((with_reducible show WGd ..); (with_reducible apply wpA_guard); exact rfl; skip) | (go_at_call 51; with_reducible refine (fail_c w0 _ _ g s false hQ).mono ?_; rintro _ _ ⟨rfl, hR⟩) | ((with_reducible show WLd ..); (with_reducible apply wpA_load); exact rfl; (first | ((with_reducible apply St.cellI hS); (focus repeat constructor); exact rfl) | assumption); kernel_rfl) | ((with_reducible show WSt ..); (with_reducible apply wpA_store1I hS); exact rfl; (focus repeat constructor); exact rfl; exact rfl; exact rfl; exact rfl; kernel_rfl; intro wx hS; (try simp only [Act.put, List.setIfInBounds_toArray, List.set_cons_zero, List.set_cons_succ]); (try simp only [Act.eval, Array.getD_eq_getD_getElem?, List.getElem?_toArray, List.getElem?_cons_succ, List.getElem?_cons_zero, Option.getD_some, List.set_cons_succ, List.set_cons_zero, Value.cells, List.toList_toArray] at hS)) | ((with_reducible show WBx ..); (with_reducible apply wpA_box hS); exact rfl; exact rfl; intro _ wx hS; (try simp only [Act.put, List.setIfInBounds_toArray, List.set_cons_zero, List.set_cons_succ]); (try simp only [Act.eval, Array.getD_eq_getD_getElem?, List.getElem?_toArray, List.getElem?_cons_succ, List.getElem?_cons_zero, Option.getD_some, List.set_cons_succ, List.set_cons_zero, Value.cells, List.toList_toArray] at hS)))
              go_ret
              rw [HN.out]
              exact ⟨rfl, hR⟩
            | false =>
              go_wp2_with (first | ((with_reducible show WGd ..); (with_reducible apply wpA_guard); exact rfl; skip) | (go_at_call 51; with_reducible refine (fail_c w0 _ _ g s false hQ).mono ?_; rintro _ _ ⟨rfl, hR⟩) | ((with_reducible show WLd ..); (with_reducible apply wpA_load); exact rfl; (first | ((with_reducible apply St.cellI hS); (focus repeat constructor); exact rfl) | assumption); kernel_rfl) | ((with_reducible show WSt ..); (with_reducible apply wpA_store1I hS); exact rfl; (focus repeat constructor); exact rfl; exact rfl; exact rfl; exact rfl; kernel_rfl; intro wx hS; (try simp only [Act.put, List.setIfInBounds_toArray, List.set_cons_zero, List.set_cons_succ]); (try simp only [Act.eval, Array.getD_eq_getD_getElem?, List.getElem?_toArray, List.getElem?_cons_succ, List.getElem?_cons_zero, Option.getD_some, List.set_cons_succ, List.set_cons_zero, Value.cells, List.toList_toArray] at hS)) | ((with_reducible show WBx ..); (with_reducible apply wpA_box hS); exact rfl; exact rfl; intro _ wx hS; (try simp only [Act.put, List.setIfInBounds_toArray, List.set_cons_zero, List.set_cons_succ]); (try simp only [Act.eval, Array.getD_eq_getD_getElem?, List.getElem?_toArray, List.getElem?_cons_succ, List.getElem?_cons_zero, Option.getD_some, List.set_cons_succ, List.set_cons_zero, Value.cells, List.toList_toArray] at hS)))
              go_ret
              rw [HN.out]
              exact ⟨rfl, hR⟩
        · have h9 : i = 9 → c.toNat ≤ 1 := fun h => by
            rcases Nat.lt_or_ge 1 c.toNat with h1 | h1
            · exact absurd (.inl ⟨h, h1⟩) hf1
            · exact h1
          have h0 : c.toNat = 0 → i = 0 := fun h => by
            rcases Nat.eq_zero_or_pos i with h1 | h1
            · exact h1
            · exact absurd (.inr ⟨h, h1⟩) hf1
          have hv2 : v = ((acc + c.toNat % 128 * 128 ^ i : Nat) : Int) := by rw [← HV.out]; exact orv h10 HA.out hcn h9
          have HV2 := Lib.hid hv2
          have HF1 := Lib.hid hf1
          clear hv2 hf1
          by_cases hl : c.toNat < 128
          · have hsome : decU 10 0 L = some (c.toNat * 128 ^ i + acc, L.drop (i + 1)) := by rw [HD.out, HF.out, HDR.out, decU_last HF1.out hl]; rfl
            have HS := Lib.hid hsome
            clear hsome
            by_cases hi9 : i = 9
            · have hc1 := h9 hi9
              have hb9 : ((i : Int) == 9) = true := by rw [hi9]; rfl
              have hb1 : ¬ (1 < (c.toNat : Int)) := by omega
              have hb0 : ((c.toNat : Int) == 0) = false := by rw [beq_eq_false_iff_ne]; omega
              clear hi9
              go_wp2_with (first | ((with_reducible show WGd ..); (with_reducible apply wpA_guard); exact rfl; skip) | ((with_reducible show WLd ..); (with_reducible apply wpA_load); exact rfl; (first | ((with_reducible apply St.cellI hS); (focus repeat constructor); exact rfl) | assumption); kernel_rfl) | ((with_reducible show WSt ..); (with_reducible apply wpA_store1I hS); exact rfl; (focus repeat constructor); exact rfl; exact rfl; exact rfl; exact rfl; kernel_rfl; intro wx hS; (try simp only [Act.put, List.setIfInBounds_toArray, List.set_cons_zero, List.set_cons_succ]); (try simp only [Act.eval, Array.getD_eq_getD_getElem?, List.getElem?_toArray, List.getElem?_cons_succ, List.getElem?_cons_zero, Option.getD_some, List.set_cons_succ, List.set_cons_zero, Value.cells, List.toList_toArray] at hS)) | ((with_reducible show WBx ..); (with_reducible apply wpA_box hS); exact rfl; exact rfl; intro _ wx hS; (try simp only [Act.put, List.setIfInBounds_toArray, List.set_cons_zero, List.set_cons_succ]); (try simp only [Act.eval, Array.getD_eq_getD_getElem?, List.getElem?_toArray, List.getElem?_cons_succ, List.getElem?_cons_zero, Option.getD_some, List.set_cons_succ, List.set_cons_zero, Value.cells, List.toList_toArray] at hS)))
              go_ret
              rw [HS.out]
              refine ⟨by rw [HV2.out, Nat.mod_eq_of_lt hl, Nat.add_comm]; rfl, ?_⟩
              rw [extract_tail HL.out (Nat.le_refl _)] at hS
              exact hS
            · have hb9 : ((i : Int) == 9) = false := by rw [beq_eq_false_iff_ne]; omega
              by_cases hc0 : c.toNat = 0
              · have hi0 := h0 hc0
                have hb0 : ((c.toNat : Int) == 0) = true := by rw [hc0]; rfl
                have hb2 : ¬ (0 < (i : Int)) := by omega
                have hb3 : (c.toNat : Int) < 128 := by omega
                clear hc0 hi0
                go_wp2_with (first | ((with_reducible show WGd ..); (with_reducible apply wpA_guard); exact rfl; skip) | ((with_reducible show WLd ..); (with_reducible apply wpA_load); exact rfl; (first | ((with_reducible apply St.cellI hS); (focus repeat constructor); exact rfl) | assumption); kernel_rfl) | ((with_reducible show WSt ..); (with_reducible apply wpA_store1I hS); exact rfl; (focus repeat constructor); exact rfl; exact rfl; exact rfl; exact rfl; kernel_rfl; intro wx hS; (try simp only [Act.put, List.setIfInBounds_toArray, List.set_cons_zero, List.set_cons_succ]); (try simp only [Act.eval, Array.getD_eq_getD_getElem?, List.getElem?_toArray, List.getElem?_cons_succ, List.getElem?_cons_zero, Option.getD_some, List.set_cons_succ, List.set_cons_zero, Value.cells, List.toList_toArray] at hS)) | ((with_reducible show WBx ..); (with_reducible apply wpA_box hS); exact rfl; exact rfl; intro _ wx hS; (try simp only [Act.put, List.setIfInBounds_toArray, List.set_cons_zero, List.set_cons_succ]); (try simp only [Act.eval, Array.getD_eq_getD_getElem?, List.getElem?_toArray, List.getElem?_cons_succ, List.getElem?_cons_zero, Option.getD_some, List.set_cons_succ, List.set_cons_zero, Value.cells, List.toList_toArray] at hS)))
                go_ret
                rw [HS.out]
                refine ⟨by rw [HV2.out, Nat.mod_eq_of_lt hl, Nat.add_comm]; rfl, ?_⟩
                rw [extract_tail HL.out (Nat.le_refl _)] at hS
                exact hS
              · have hb0 : ((c.toNat : Int) == 0) = false := by rw [beq_eq_false_iff_ne]; omega
                go_wp2_with (first | ((with_reducible show WGd ..); (with_reducible apply wpA_guard); exact rfl; skip) | ((with_reducible show WLd ..); (with_reducible apply wpA_load); exact rfl; (first | ((with_reducible apply St.cellI hS); (focus repeat constructor); exact rfl) | assumption); kernel_rfl) | ((with_reducible show WSt ..); (with_reducible apply wpA_store1I hS); exact rfl; (focus repeat constructor); exact rfl; exact rfl; exact rfl; exact rfl; kernel_rfl; intro wx hS; (try simp only [Act.put, List.setIfInBounds_toArray, List.set_cons_zero, List.set_cons_succ]); (try simp only [Act.eval, Array.getD_eq_getD_getElem?, List.getElem?_toArray, List.getElem?_cons_succ, List.getElem?_cons_zero, Option.getD_some, List.set_cons_succ, List.set_cons_zero, Value.cells, List.toList_toArray] at hS)) | ((with_reducible show WBx ..); (with_reducible apply wpA_box hS); exact rfl; exact rfl; intro _ wx hS; (try simp only [Act.put, List.setIfInBounds_toArray, List.set_cons_zero, List.set_cons_succ]); (try simp only [Act.eval, Array.getD_eq_getD_getElem?, List.getElem?_toArray, List.getElem?_cons_succ, List.getElem?_cons_zero, Option.getD_some, List.set_cons_succ, List.set_cons_zero, Value.cells, List.toList_toArray] at hS)))
                go_ret
                rw [HS.out]
                refine ⟨by rw [HV2.out, Nat.mod_eq_of_lt hl, Nat.add_comm]; rfl, ?_⟩
                rw [extract_tail HL.out (Nat.le_refl _)] at hS
                exact hS
          · have hi9 : i ≠ 9 := fun h => by have := h9 h; omega
            have hb9 : ((i : Int) == 9) = false := by rw [beq_eq_false_iff_ne]; omega
            have hb0 : ((c.toNat : Int) == 0) = false := by rw [beq_eq_false_iff_ne]; omega
            have hmore : decU 10 0 L = (decU (10 - (i + 1)) (i + 1) (L.drop (i + 1))).map (fun x => (x.1 * 128 ^ (i + 1) + (acc + c.toNat % 128 * 128 ^ i), x.2)) := by
              have hf := HF.out
              rw [HD.out, hf, HDR.out, decU_more HF1.out hl, Option.map_map, show 10 - (i + 1) = f by omega]
              congr 1
              funext x
              simp only [Function.comp, Prod.mk.injEq, and_true]
              rw [Nat.pow_succ, Nat.add_mul, Nat.mul_assoc, Nat.mul_comm 128 (128 ^ i)]
              omega
            have hacc2 : acc + c.toNat % 128 * 128 ^ i < 128 ^ (i + 1) := by
              have h1 := HA.out
              have h2 : c.toNat % 128 ≤ 127 := by omega
              have h3 := Nat.mul_le_mul_right (128 ^ i) h2
              rw [Nat.pow_succ]
              omega
            have HM := Lib.hid hmore
            have HA2 := Lib.hid hacc2
            clear hmore hacc2
            go_wp2_with (first | ((with_reducible show WGd ..); (with_reducible apply wpA_guard); exact rfl; skip) | ((with_reducible show WLd ..); (with_reducible apply wpA_load); exact rfl; (first | ((with_reducible apply St.cellI hS); (focus repeat constructor); exact rfl) | assumption); kernel_rfl) | ((with_reducible show WSt ..); (with_reducible apply wpA_store1I hS); exact rfl; (focus repeat constructor); exact rfl; exact rfl; exact rfl; exact rfl; kernel_rfl; intro wx hS; (try simp only [Act.put, List.setIfInBounds_toArray, List.set_cons_zero, List.set_cons_succ]); (try simp only [Act.eval, Array.getD_eq_getD_getElem?, List.getElem?_toArray, List.getElem?_cons_succ, List.getElem?_cons_zero, Option.getD_some, List.set_cons_succ, List.set_cons_zero, Value.cells, List.toList_toArray] at hS)) | ((with_reducible show WBx ..); (with_reducible apply wpA_box hS); exact rfl; exact rfl; intro _ wx hS; (try simp only [Act.put, List.setIfInBounds_toArray, List.set_cons_zero, List.set_cons_succ]); (try simp only [Act.eval, Array.getD_eq_getD_getElem?, List.getElem?_toArray, List.getElem?_cons_succ, List.getElem?_cons_zero, Option.getD_some, List.set_cons_succ, List.set_cons_zero, Value.cells, List.toList_toArray] at hS)))
            go_roundw
            case rel => exact ⟨i + 1, acc + c.toNat % 128 * 128 ^ i, by omega, by go_num, by rw [HV2.out], by omega, HA2, HM, hS⟩
            case measure => simp [intOf]; omega
      · have hie : i = s.size := by omega
        have hnone : decU 10 0 L = none := by
          rw [HD.out, List.drop_of_length_le (by rw [HZ.out]; omega)]
          obtain ⟨f, hf⟩ : ∃ f, 10 - i = f + 1 := ⟨9 - i, by omega⟩
          rw [hf]; try rfl
        have hne : ((i : Int) == (s.size : Int)) = true := by rw [beq_iff_eq]; omega
        have HN := Lib.hid hnone
        clear hnone hie
        go_wp2_with (first | ((with_reducible show WGd ..); (with_reducible apply wpA_guard); exact rfl; skip) | (go_at_call 51; with_reducible refine (fail_c w0 _ _ g s false hQ).mono ?_; rintro _ _ ⟨rfl, hR⟩) | ((with_reducible show WLd ..); (with_reducible apply wpA_load); exact rfl; (first | ((with_reducible apply St.cellI hS); (focus repeat constructor); exact rfl) | assumption); kernel_rfl) | ((with_reducible show WSt ..); (with_reducible apply wpA_store1I hS); exact rfl; (focus repeat constructor); exact rfl; exact rfl; exact rfl; exact rfl; kernel_rfl; intro wx hS; (try simp only [Act.put, List.setIfInBounds_toArray, List.set_cons_zero, List.set_cons_succ]); (try simp only [Act.eval, Array.getD_eq_getD_getElem?, List.getElem?_toArray, List.getElem?_cons_succ, List.getElem?_cons_zero, Option.getD_some, List.set_cons_succ, List.set_cons_zero, Value.cells, List.toList_toArray] at hS)) | ((with_reducible show WBx ..); (with_reducible apply wpA_box hS); exact rfl; exact rfl; intro _ wx hS; (try simp only [Act.put, List.setIfInBounds_toArray, List.set_cons_zero, List.set_cons_succ]); (try simp only [Act.eval, Array.getD_eq_getD_getElem?, List.getElem?_toArray, List.getElem?_cons_succ, List.getElem?_cons_zero, Option.getD_some, List.set_cons_succ, List.set_cons_zero, Value.cells, List.toList_toArray] at hS)))
        go_ret
        rw [HN.out]
        exact ⟨rfl, hR⟩
    · have hie : i = 10 := by omega
      have hnone : decU 10 0 L = none := by rw [HD.out, hie]; try rfl
      have HN := Lib.hid hnone
      clear hnone
      go_wp2_with (first | ((with_reducible show WGd ..); (with_reducible apply wpA_guard); exact rfl; skip) | (go_at_call 51; with_reducible refine (fail_c w0 _ _ g s false hQ).mono ?_; rintro _ _ ⟨rfl, hR⟩) | ((with_reducible show WLd ..); (with_reducible apply wpA_load); exact rfl; (first | ((with_reducible apply St.cellI hS); (focus repeat constructor); exact rfl) | assumption); kernel_rfl) | ((with_reducible show WSt ..); (with_reducible apply wpA_store1I hS); exact rfl; (focus repeat constructor); exact rfl; exact rfl; exact rfl; exact rfl; kernel_rfl; intro wx hS; (try simp only [Act.put, List.setIfInBounds_toArray, List.set_cons_zero, List.set_cons_succ]); (try simp only [Act.eval, Array.getD_eq_getD_getElem?, List.getElem?_toArray, List.getElem?_cons_succ, List.getElem?_cons_zero, Option.getD_some, List.set_cons_succ, List.set_cons_zero, Value.cells, List.toList_toArray] at hS)) | ((with_reducible show WBx ..); (with_reducible apply wpA_box hS); exact rfl; exact rfl; intro _ wx hS; (try simp only [Act.put, List.setIfInBounds_toArray, List.set_cons_zero, List.set_cons_succ]); (try simp only [Act.eval, Array.getD_eq_getD_getElem?, List.getElem?_toArray, List.getElem?_cons_succ, List.getElem?_cons_zero, Option.getD_some, List.set_cons_succ, List.set_cons_zero, Value.cells, List.toList_toArray] at hS)))
      go_ret
      rw [HN.out]
      exact ⟨rfl, hR⟩
end Go.Proofs.Ytodojllclghoiaa
