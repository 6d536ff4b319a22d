/-
  The reference's sessions: Encode, walked.
-/
import Derived.Test.YtodojllclghoiaaSesR
import Derived.Test.YtodojllclghoiaaSesEnc
import Derived.Test.YtodojllclghoiaaC01
namespace Go.Proofs.Ytodojllclghoiaa
set_option linter.unusedVariables false
set_option linter.unusedSimpArgs false
open Go.RowKit

theorem app_bytes (a b : List UInt8) : (⟨a.toArray⟩ : ByteArray) ++ ⟨b.toArray⟩ = ⟨(a ++ b).toArray⟩ := by
  apply ByteArray.ext
  rw [ByteArray.data_append]
  simp
theorem exec_adds {P : Program} {w : World} {ρ : Operand → Value} {t t2 : TypeId} {x y : Operand} {dst : Option Tmp} {ty : TypeId} {pos : String} {after : Array Edge} {gd : Option (Nat × Bool)} {a b : List UInt8}
    (hx : ρ x = .string ⟨a.toArray⟩) (hy : ρ y = .string ⟨b.toArray⟩) (hl : a.length + b.length ≤ 1000000000000) :
    (execOp ρ ⟨dst, .binOp .add t x y t2, ty, pos, after, gd⟩).run P w = .ok (.value (.string ⟨(a ++ b).toArray⟩)) w := by
  have hsz : ∀ l : List UInt8, (⟨l.toArray⟩ : ByteArray).size = l.length := fun l => by show l.toArray.size = _; simp
  have hb : Op.stringOp .add ⟨a.toArray⟩ ⟨b.toArray⟩ = pure (.string ⟨(a ++ b).toArray⟩) := by
    unfold Op.stringOp
    simp only
    rw [if_neg (by rw [hsz, hsz]; simp [IntKind.max, IntKind.bits, IntKind.signed]; omega), app_bytes]
  simp [execOp, hx, hy, binOp, hb, eqGuard, Result.andThen]
theorem wpA_adds {P : Program} {ops : Array Oper} {rest : List Oper} {Q : Exit → Act → World → Prop} {dst : Option Tmp} {ty : TypeId} {pos : String} {after : Array Edge} {a : Act} {w : World} {t t2 : TypeId} {x y : Operand} {u v : List UInt8}
    (hx : a.eval x = .string ⟨u.toArray⟩) (hy : a.eval y = .string ⟨v.toArray⟩) (hl : u.length + v.length ≤ 1000000000000) (hK : wpList P ops Q rest (a.put dst (.string ⟨(u ++ v).toArray⟩)) w) :
    wpList P ops Q (⟨dst, .binOp .add t x y t2, ty, pos, after, none⟩ :: rest) a w :=
  wpList_plain rfl fun _ h_ => by
    unfold Oper.wp
    rw [exec_adds hx hy hl]
    exact h_ _ _ hK
theorem rint_i {w0 w : World} {H : List Hp} (hS : St w0 w H) {n : Int} (h : I64 n) : Calls Try.prog 41 #[.int .i64 n] w fun e w' => e = .returned (.string ⟨(intB n).toArray⟩) ∧ St w0 w' H := rint_c hS n h
theorem ru64_0 {w0 w : World} {H : List Hp} (hS : St w0 w H) : Calls Try.prog 43 #[.int .u64 0] w fun e w' => e = .returned (.string ⟨(uvB 0).toArray⟩) ∧ St w0 w' H := ru64_c hS 0 (by decide)
theorem bit_c {w0 w : World} {H : List Hp} (hS : St w0 w H) (b : Bool) : Calls Try.prog 42 #[.bool b] w fun e w' => e = .returned (.int .i64 (flagI b)) ∧ St w0 w' H := by
  cases b
  all_goals
    go_enter Try.func42, Try.ntmps42
    go_wp2_with (first | ((with_reducible show WGd ..); (with_reducible apply wpA_guard); exact rfl; skip) | ((with_reducible show WLd ..); (with_reducible apply wpA_load); exact rfl; (first | ((with_reducible apply St.cellI hS); (focus repeat constructor); exact rfl) | assumption); kernel_rfl) | ((with_reducible show WSt ..); (with_reducible apply wpA_store1I hS); exact rfl; (focus repeat constructor); exact rfl; exact rfl; exact rfl; exact rfl; kernel_rfl; intro wx hS; (try simp only [Act.put, List.setIfInBounds_toArray, List.set_cons_zero, List.set_cons_succ]); (try simp only [Act.eval, Array.getD_eq_getD_getElem?, List.getElem?_toArray, List.getElem?_cons_succ, List.getElem?_cons_zero, Option.getD_some, List.set_cons_succ, List.set_cons_zero, Value.cells, List.toList_toArray] at hS)) | ((with_reducible show WBx ..); (with_reducible apply wpA_box hS); exact rfl; exact rfl; intro _ wx hS; (try simp only [Act.put, List.setIfInBounds_toArray, List.set_cons_zero, List.set_cons_succ]); (try simp only [Act.eval, Array.getD_eq_getD_getElem?, List.getElem?_toArray, List.getElem?_cons_succ, List.getElem?_cons_zero, Option.getD_some, List.set_cons_succ, List.set_cons_zero, Value.cells, List.toList_toArray] at hS)))
    go_ret
    exact ⟨rfl, hS⟩
theorem flag_i (b : Bool) : I64 (flagI b) := by cases b <;> (unfold I64 flagI; decide)

section
variable {w0 w : World} {x : Nat} {R : List Hp} {σ : SesS}
theorem sesE_eq {x1 x2 xs : Int} {xo xd : Bool} {r : RepS} (j : Nat) (T0 : List UInt8) :
    T0 ++ sesE j ⟨x1, x2, xo, xs, xd, r⟩ = (T0 ++ (((((intB ((j : Int) + 1) ++ intB x1) ++ intB x2) ++ intB (flagI xo)) ++ intB xs) ++ intB (flagI xd))) ++ ((intB (repOf ⟨x1, x2, xo, xs, xd, r⟩).err ++ uvB (repOf ⟨x1, x2, xo, xs, xd, r⟩).token.toNat) ++ intB (repOf ⟨x1, x2, xo, xs, xd, r⟩).n) := by
  unfold sesE numsE
  simp [List.flatMap_cons, List.append_assoc]
theorem OneS.el {w : World} {g k : Nat} {x1 x2 xs : Int} {xo xd : Bool} {r1 r2 r3 r4 r5 : Int} (h : w.rangeAt g k (OneS.cells ⟨x1, x2, xo, xs, xd, ⟨r1, r2, r3, r4, r5⟩⟩)) : w.rangeAt g k [.int .i64 x1, .int .i64 x2, .bool xo, .int .i64 xs, .bool xd, .int .i64 r1, .int .i64 r2, .int .i64 r3, .int .u64 r4, .int .i64 r5] := h
def csR (σ : SesS) (j : Nat) : List Int := ((List.range j).map fun (i : Nat) => (i : Int)).filter fun i => decide (0 < (latS σ i).1)
theorem csR_succ (σ : SesS) (j : Nat) : csR σ (j + 1) = csR σ j ++ if 0 < (latS σ j).1 then [(j : Int)] else [] := by
  unfold csR
  rw [List.range_succ, List.map_append, List.filter_append]
  congr 1
  by_cases h : 0 < (latS σ j).1
  · rw [if_pos h]; simp [h]
  · rw [if_neg h]; simp [h]
def preR (σ : SesS) : List UInt8 := intB σ.l.length ++ (σ.l.mapIdx sesE).flatten
def encR (σ : SesS) : List UInt8 := (preR σ ++ intB ((csR σ 8).length : Int)) ++ (csR σ 8).flatMap (cliE σ)
theorem lat_cells {a : Option Addr} {n c : Nat} (σ : SesS) {j : Nat} (h : j < 8) : ([.slice a n c, .int .i64 (latS σ 0).1, .int .i64 (latS σ 0).2, .int .i64 (latS σ 1).1, .int .i64 (latS σ 1).2, .int .i64 (latS σ 2).1, .int .i64 (latS σ 2).2, .int .i64 (latS σ 3).1, .int .i64 (latS σ 3).2, .int .i64 (latS σ 4).1, .int .i64 (latS σ 4).2, .int .i64 (latS σ 5).1, .int .i64 (latS σ 5).2, .int .i64 (latS σ 6).1, .int .i64 (latS σ 6).2, .int .i64 (latS σ 7).1, .int .i64 (latS σ 7).2] : List Value)[1 + j * 2]? = some (.int .i64 (latS σ j).1) ∧ ([.slice a n c, .int .i64 (latS σ 0).1, .int .i64 (latS σ 0).2, .int .i64 (latS σ 1).1, .int .i64 (latS σ 1).2, .int .i64 (latS σ 2).1, .int .i64 (latS σ 2).2, .int .i64 (latS σ 3).1, .int .i64 (latS σ 3).2, .int .i64 (latS σ 4).1, .int .i64 (latS σ 4).2, .int .i64 (latS σ 5).1, .int .i64 (latS σ 5).2, .int .i64 (latS σ 6).1, .int .i64 (latS σ 6).2, .int .i64 (latS σ 7).1, .int .i64 (latS σ 7).2] : List Value)[1 + j * 2 + 1]? = some (.int .i64 (latS σ j).2) := by
  have : j = 0 ∨ j = 1 ∨ j = 2 ∨ j = 3 ∨ j = 4 ∨ j = 5 ∨ j = 6 ∨ j = 7 := by omega
  rcases this with rfl | rfl | rfl | rfl | rfl | rfl | rfl | rfl <;> exact ⟨rfl, rfl⟩

set_option maxRecDepth 100000 in
set_option maxHeartbeats 8000000 in
theorem renc_c (h : RefG w0 w x σ R) (ok : σ.ok) (hl : σ.l.length ≤ 1000) (hlat : ∀ i, I64 (latS σ i).1 ∧ I64 (latS σ i).2) : Calls Try.prog 20 #[.pointer (some ⟨x, 0, none⟩)] w fun e w' => e = .returned (.string ⟨(encR σ).toArray⟩) ∧ RefG w0 w' x σ R := by
  obtain ⟨a, c, hS⟩ := h
  have h0 : I64 (σ.l.length : Int) := by unfold I64; omega
  have h00 := intB_len h0
  have hz0 : I64 0 := by unfold I64; decide
  have h1 : ∀ j : Nat, j ≤ 1000 → I64 ((j : Int) + 1) := fun j hj => by unfold I64; omega
  have HOK := Lib.hid ok.l
  have HLAT := Lib.hid hlat
  have HLEN := Lib.hid (ones_len ok.l ok.n)
  clear ok hlat
  go_enter Try.func20, Try.ntmps20
  go_upto_block 0 with (first | ((with_reducible show WGd ..); (with_reducible apply wpA_guard); exact rfl; skip) | (go_at_call 41; with_reducible refine (rint_i hS h0).mono ?_; rintro _ _ ⟨rfl, hS⟩) | ((with_reducible show WLd ..); (with_reducible apply wpA_load); exact rfl; (first | ((with_reducible apply St.cellI hS); (focus repeat constructor); exact rfl) | assumption); kernel_rfl) | ((with_reducible show WSt ..); (with_reducible apply wpA_store1I hS); exact rfl; (focus repeat constructor); exact rfl; exact rfl; exact rfl; exact rfl; kernel_rfl; intro wx hS; (try simp only [Act.put, List.setIfInBounds_toArray, List.set_cons_zero, List.set_cons_succ]); (try simp only [Act.eval, Array.getD_eq_getD_getElem?, List.getElem?_toArray, List.getElem?_cons_succ, List.getElem?_cons_zero, Option.getD_some, List.set_cons_succ, List.set_cons_zero, Value.cells, List.toList_toArray] at hS)) | ((with_reducible show WBx ..); (with_reducible apply wpA_box hS); exact rfl; exact rfl; intro _ wx hS; (try simp only [Act.put, List.setIfInBounds_toArray, List.set_cons_zero, List.set_cons_succ]); (try simp only [Act.eval, Array.getD_eq_getD_getElem?, List.getElem?_toArray, List.getElem?_cons_succ, List.getElem?_cons_zero, Option.getD_some, List.set_cons_succ, List.set_cons_zero, Value.cells, List.toList_toArray] at hS)))
  go_cut [3] (fun v3 wr => v3 = .string ⟨(preR σ).toArray⟩ ∧ St w0 wr (rxc x a σ.l.length c σ :: srow a c σ.l :: R))
  case first =>
    go_wp2_with (first | ((with_reducible show WGd ..); (with_reducible apply wpA_guard); exact rfl; skip) | ((with_reducible show WLd ..); (with_reducible apply wpA_load); exact rfl; (first | ((with_reducible apply St.cellI hS); (focus repeat constructor); exact rfl) | assumption); kernel_rfl) | ((with_reducible show WSt ..); (with_reducible apply wpA_store1I hS); exact rfl; (focus repeat constructor); exact rfl; exact rfl; exact rfl; exact rfl; kernel_rfl; intro wx hS; (try simp only [Act.put, List.setIfInBounds_toArray, List.set_cons_zero, List.set_cons_succ]); (try simp only [Act.eval, Array.getD_eq_getD_getElem?, List.getElem?_toArray, List.getElem?_cons_succ, List.getElem?_cons_zero, Option.getD_some, List.set_cons_succ, List.set_cons_zero, Value.cells, List.toList_toArray] at hS)) | ((with_reducible show WBx ..); (with_reducible apply wpA_box hS); exact rfl; exact rfl; intro _ wx hS; (try simp only [Act.put, List.setIfInBounds_toArray, List.set_cons_zero, List.set_cons_succ]); (try simp only [Act.eval, Array.getD_eq_getD_getElem?, List.getElem?_toArray, List.getElem?_cons_succ, List.getElem?_cons_zero, Option.getD_some, List.set_cons_succ, List.set_cons_zero, Value.cells, List.toList_toArray] at hS)))
    go_loopw [3, 4] (fun v3 v4 wr => ∃ (j : Nat) (T0 : List UInt8), j ≤ σ.l.length ∧ v4 = .int .i64 j ∧ v3 = .string ⟨T0.toArray⟩ ∧ Hid (T0 = intB σ.l.length ++ ((σ.l.mapIdx sesE).take j).flatten) ∧ T0.length ≤ 100000 ∧ St w0 wr (rxc x a σ.l.length c σ :: srow a c σ.l :: R)) (fun _ v4 _ => σ.l.length - (intOf v4).toNat)
    case atStart => exact ⟨0, intB σ.l.length, Nat.zero_le _, rfl, rfl, Lib.hid (by simp), by omega, hS⟩
    case round =>
      clear hS
      obtain ⟨j, T0, hj, rfl, rfl, HT, hT, hS⟩ := hrel
      by_cases hlt : j < σ.l.length
      · obtain ⟨y, hy⟩ : ∃ y, σ.l[j]? = some y := ⟨_, List.getElem?_eq_getElem hlt⟩
        rcases row_head (hS.at_ 1 rfl) with ⟨_, hh, _⟩ | ⟨⟨g, rfl⟩, _⟩
        · omega
        have hx := HOK.out y (List.mem_of_getElem? hy)
        have hm : (σ.l.mapIdx sesE)[j]? = some (sesE j y) := by rw [List.getElem?_mapIdx, hy]; rfl
        have hT2 : T0 ++ sesE j y = intB σ.l.length ++ ((σ.l.mapIdx sesE).take (j + 1)).flatten := by rw [HT.out, List.take_add_one, hm, List.flatten_append, List.append_assoc]; simp
        have hl2 : (T0 ++ sesE j y).length ≤ 100000 := by
          rw [hT2, List.length_append]
          have := HLEN.out (j + 1) (by omega)
          omega
        have hw : IntKind.i64.wrap ((j : Int) + 1) = (j : Int) + 1 := by rw [IntKind.wrap_i64]; omega
        obtain ⟨x1, x2, xo, xs, xd, ⟨r1, r2, r3, r4, r5⟩⟩ := y
        rw [sesE_eq] at hT2 hl2
        have HT2 := Lib.hid (And.intro hT2 hl2)
        have HX := Lib.hid hy
        have l1 := intB_len (h1 j (by omega))
        have l2 := intB_len hx.c
        have l3 := intB_len hx.l
        have l4 := intB_len (flag_i xo)
        have l5 := intB_len hx.s
        have l6 := intB_len (flag_i xd)
        have l7 := intB_len hx.r.e
        have l8 := intB_len hx.r.n
        have t1 := hx.r.t
        have l9 := uvB_len64 (n := r4.toNat) (by simp only at t1; omega)
        simp only at l2 l3 l5 l7 l8 t1
        clear hT2 hl2 hy hm
        go_upto_region 6 with (first | ((with_reducible show WGd ..); (with_reducible apply wpA_guard); exact rfl; skip) | ((with_reducible show WLd ..); (with_reducible apply wpA_loadN (t := 88)); exact rfl; exact (OneS.el (row_elem OneS.cells_length (hS.at_ 1 rfl) HX.out)); kernel_rfl; kernel_rfl; (try simp only [Act.put, List.setIfInBounds_toArray, List.set_cons_zero, List.set_cons_succ])) | ((with_reducible show WLd ..); (with_reducible apply wpA_loadN (t := 88)); exact rfl; ((with_reducible apply Hp.rangeI hS (n := 10)); (focus repeat constructor)); kernel_rfl; kernel_rfl; (try simp only [Act.put, List.setIfInBounds_toArray, List.set_cons_zero, List.set_cons_succ])) | ((first | ((with_reducible show WAl ..); (with_reducible apply wpA_alloc (t := 88) hS (v := .agg #[.int .i64 0, .int .i64 0, .bool false, .int .i64 0, .bool false, .int .i64 0, .int .i64 0, .int .i64 0, .int .u64 0, .int .i64 0])); kernel_rfl; exact rfl; intro _ wx hS) | ((with_reducible show WBx ..); (with_reducible apply wpA_box hS); exact rfl; exact rfl; intro _ wx hS)); (try simp only [Act.put, List.setIfInBounds_toArray, List.set_cons_zero, List.set_cons_succ]); (try simp only [Act.eval, Array.getD_eq_getD_getElem?, List.getElem?_toArray, List.getElem?_cons_succ, List.getElem?_cons_zero, Option.getD_some, List.set_cons_succ, List.set_cons_zero, Value.cells, List.toList_toArray] at hS)) | ((with_reducible show WSt ..); (with_reducible apply wpA_storeI hS); exact rfl; (focus repeat constructor); exact rfl; exact rfl; exact rfl; exact (Nat.le_of_ble_eq_true rfl); kernel_rfl; intro wx hS; (try simp only [Act.put, List.setIfInBounds_toArray, List.set_cons_zero, List.set_cons_succ]); (try simp only [Act.eval, Array.getD_eq_getD_getElem?, List.getElem?_toArray, List.getElem?_cons_succ, List.getElem?_cons_zero, Option.getD_some, List.set_cons_succ, List.set_cons_zero, Value.cells, List.toList_toArray] at hS); (try simp only [List.take_zero, List.take_succ_cons, List.nil_append, List.cons_append, List.length_cons, List.length_nil, Nat.reduceAdd, Nat.zero_add, List.drop_succ_cons, List.drop_zero, List.drop_nil, List.append_nil] at hS)) | ((with_reducible show WLd ..); (with_reducible apply wpA_load); exact rfl; (first | ((with_reducible apply St.cellI hS); (focus repeat constructor); exact rfl) | assumption); kernel_rfl) | ((with_reducible show WSt ..); (with_reducible apply wpA_store1I hS); exact rfl; (focus repeat constructor); exact rfl; exact rfl; exact rfl; exact rfl; kernel_rfl; intro wx hS; (try simp only [Act.put, List.setIfInBounds_toArray, List.set_cons_zero, List.set_cons_succ]); (try simp only [Act.eval, Array.getD_eq_getD_getElem?, List.getElem?_toArray, List.getElem?_cons_succ, List.getElem?_cons_zero, Option.getD_some, List.set_cons_succ, List.set_cons_zero, Value.cells, List.toList_toArray] at hS)))
        refine wp_region_A hS (by kernel_rfl) (fun _ hR hS => ?_)
        simp only [List.length_cons, List.length_nil, Nat.reduceAdd]
        refine takeAP_val (i := 0) ?_ rfl (by exact rfl) (by kernel_rfl) (fun _ _ _ h => h) ?_ hR (fun hR => ?_)
        rotate_left
        · intro w; go_simp; (first | done | (with_reducible rfl) | (refine (if_pos ?_).trans ?_; (focus omega); with_reducible rfl) | skip)
        (simp only [Act.put, List.setIfInBounds_toArray, List.set_cons_zero, List.set_cons_succ])
        refine takeAP_val (i := 1) ?_ rfl (by exact rfl) (by kernel_rfl) (fun _ _ _ h => h) ?_ hR (fun hR => ?_)
        rotate_left
        · intro w; go_simp; (first | done | (with_reducible rfl) | (refine (if_pos ?_).trans ?_; (focus omega); with_reducible rfl) | skip)
        (simp only [Act.put, List.setIfInBounds_toArray, List.set_cons_zero, List.set_cons_succ])
        refine takeAP_val (i := 2) (.int .i64 ((j : Int) + 1)) rfl (by exact rfl) (by kernel_rfl) (fun _ _ _ h => h) (fun w => by go_simp; (first | done | simp [hw])) hR (fun hR => ?_)
        (simp only [Act.put, List.setIfInBounds_toArray, List.set_cons_zero, List.set_cons_succ])
        refine takeAP_val (i := 4) ?_ rfl (by exact rfl) (by kernel_rfl) (fun _ _ _ h => h) ?_ hR (fun hR => ?_)
        rotate_left
        · intro w; go_simp; (first | done | (with_reducible rfl) | (refine (if_pos ?_).trans ?_; (focus omega); with_reducible rfl) | skip)
        (simp only [Act.put, List.setIfInBounds_toArray, List.set_cons_zero, List.set_cons_succ])
        refine takeA_load (i := 5) [] rfl (by exact rfl) (by kernel_rfl) (fun _ _ _ h => h) (by decide) rfl (fun w hS => by (first | ((with_reducible apply St.cellI hS); (focus repeat constructor); exact rfl) | assumption)) (by kernel_rfl) hR (fun hR => ?_)
        (simp only [Act.put, List.setIfInBounds_toArray, List.set_cons_zero, List.set_cons_succ])
        refine takeAP_val (i := 8) ?_ rfl (by exact rfl) (by kernel_rfl) (fun _ _ _ h => h) ?_ hR (fun hR => ?_)
        rotate_left
        · intro w; go_simp; (first | done | (with_reducible rfl) | (refine (if_pos ?_).trans ?_; (focus omega); with_reducible rfl) | skip)
        (simp only [Act.put, List.setIfInBounds_toArray, List.set_cons_zero, List.set_cons_succ])
        refine takeA_load (i := 9) [] rfl (by exact rfl) (by kernel_rfl) (fun _ _ _ h => h) (by decide) rfl (fun w hS => by (first | ((with_reducible apply St.cellI hS); (focus repeat constructor); exact rfl) | assumption)) (by kernel_rfl) hR (fun hR => ?_)
        (simp only [Act.put, List.setIfInBounds_toArray, List.set_cons_zero, List.set_cons_succ])
        refine takeAP_val (i := 12) ?_ rfl (by exact rfl) (by kernel_rfl) (fun _ _ _ h => h) ?_ hR (fun hR => ?_)
        rotate_left
        · intro w; go_simp; (first | done | (with_reducible rfl) | (refine (if_pos ?_).trans ?_; (focus omega); with_reducible rfl) | skip)
        (simp only [Act.put, List.setIfInBounds_toArray, List.set_cons_zero, List.set_cons_succ])
        refine takeA_load (i := 13) [] rfl (by exact rfl) (by kernel_rfl) (fun _ _ _ h => h) (by decide) rfl (fun w hS => by (first | ((with_reducible apply St.cellI hS); (focus repeat constructor); exact rfl) | assumption)) (by kernel_rfl) hR (fun hR => ?_)
        (simp only [Act.put, List.setIfInBounds_toArray, List.set_cons_zero, List.set_cons_succ])
        refine takeAP_val (i := 17) ?_ rfl (by exact rfl) (by kernel_rfl) (fun _ _ _ h => h) ?_ hR (fun hR => ?_)
        rotate_left
        · intro w; go_simp; (first | done | (with_reducible rfl) | (refine (if_pos ?_).trans ?_; (focus omega); with_reducible rfl) | skip)
        (simp only [Act.put, List.setIfInBounds_toArray, List.set_cons_zero, List.set_cons_succ])
        refine takeA_load (i := 18) [] rfl (by exact rfl) (by kernel_rfl) (fun _ _ _ h => h) (by decide) rfl (fun w hS => by (first | ((with_reducible apply St.cellI hS); (focus repeat constructor); exact rfl) | assumption)) (by kernel_rfl) hR (fun hR => ?_)
        (simp only [Act.put, List.setIfInBounds_toArray, List.set_cons_zero, List.set_cons_succ])
        refine takeAP_val (i := 21) ?_ rfl (by exact rfl) (by kernel_rfl) (fun _ _ _ h => h) ?_ hR (fun hR => ?_)
        rotate_left
        · intro w; go_simp; (first | done | (with_reducible rfl) | (refine (if_pos ?_).trans ?_; (focus omega); with_reducible rfl) | skip)
        (simp only [Act.put, List.setIfInBounds_toArray, List.set_cons_zero, List.set_cons_succ])
        refine takeA_load (i := 22) [] rfl (by exact rfl) (by kernel_rfl) (fun _ _ _ h => h) (by decide) rfl (fun w hS => by (first | ((with_reducible apply St.cellI hS); (focus repeat constructor); exact rfl) | assumption)) (by kernel_rfl) hR (fun hR => ?_)
        (simp only [Act.put, List.setIfInBounds_toArray, List.set_cons_zero, List.set_cons_succ])
        refine oneA (i := 3) (by kernel_rfl) rfl (by exact rfl) (fun K_ hK_ => ?_)
        (apply opA_call (f := 41) Try.func41 (by kernel_rfl); (focus ((try simp only [List.map_toArray, List.map_cons, List.map_nil, Act.eval, Array.getD_eq_getD_getElem?, List.getElem?_toArray, List.getElem?_cons_succ, List.getElem?_cons_zero, Option.getD_some]); exact rfl)); (focus (with_reducible exact (rint_i hS (h1 j (by omega))))); rintro _ _ ⟨rfl, hS⟩; refine ⟨_, rfl, ?_⟩; skip)
        refine hK_ _ _ (id (hS)) ?_; clear hK_ K_
        (simp only [Act.put, List.setIfInBounds_toArray, List.set_cons_zero, List.set_cons_succ])
        refine oneA (i := 6) (by kernel_rfl) rfl (by exact rfl) (fun K_ hK_ => ?_)
        (apply opA_call (f := 41) Try.func41 (by kernel_rfl); (focus ((try simp only [List.map_toArray, List.map_cons, List.map_nil, Act.eval, Array.getD_eq_getD_getElem?, List.getElem?_toArray, List.getElem?_cons_succ, List.getElem?_cons_zero, Option.getD_some]); exact rfl)); (focus (with_reducible exact (rint_i hS hx.c))); rintro _ _ ⟨rfl, hS⟩; refine ⟨_, rfl, ?_⟩; skip)
        refine hK_ _ _ (id (hS)) ?_; clear hK_ K_
        (simp only [Act.put, List.setIfInBounds_toArray, List.set_cons_zero, List.set_cons_succ])
        refine takeAP_val (i := 7) (.string ⟨((intB ((j : Int) + 1) ++ intB x1)).toArray⟩) rfl (by exact rfl) (by kernel_rfl) (fun _ _ _ h => h) (fun w => by first | exact exec_adds rfl rfl (by simp only [List.length_append]; omega) | exact exec_adds rfl rfl (by omega)) (id hS) (fun hR => ?_)
        (simp only [Act.put, List.setIfInBounds_toArray, List.set_cons_zero, List.set_cons_succ])
        refine oneA (i := 10) (by kernel_rfl) rfl (by exact rfl) (fun K_ hK_ => ?_)
        (apply opA_call (f := 41) Try.func41 (by kernel_rfl); (focus ((try simp only [List.map_toArray, List.map_cons, List.map_nil, Act.eval, Array.getD_eq_getD_getElem?, List.getElem?_toArray, List.getElem?_cons_succ, List.getElem?_cons_zero, Option.getD_some]); exact rfl)); (focus (with_reducible exact (rint_i hS hx.l))); rintro _ _ ⟨rfl, hS⟩; refine ⟨_, rfl, ?_⟩; skip)
        refine hK_ _ _ (id (hS)) ?_; clear hK_ K_
        (simp only [Act.put, List.setIfInBounds_toArray, List.set_cons_zero, List.set_cons_succ])
        refine takeAP_val (i := 11) (.string ⟨(((intB ((j : Int) + 1) ++ intB x1) ++ intB x2)).toArray⟩) rfl (by exact rfl) (by kernel_rfl) (fun _ _ _ h => h) (fun w => by first | exact exec_adds rfl rfl (by simp only [List.length_append]; omega) | exact exec_adds rfl rfl (by omega)) (id hS) (fun hR => ?_)
        (simp only [Act.put, List.setIfInBounds_toArray, List.set_cons_zero, List.set_cons_succ])
        refine oneA (i := 14) (by kernel_rfl) rfl (by exact rfl) (fun K_ hK_ => ?_)
        (apply opA_call (f := 42) Try.func42 (by kernel_rfl); (focus ((try simp only [List.map_toArray, List.map_cons, List.map_nil, Act.eval, Array.getD_eq_getD_getElem?, List.getElem?_toArray, List.getElem?_cons_succ, List.getElem?_cons_zero, Option.getD_some]); exact rfl)); (focus (with_reducible exact (bit_c hS _))); rintro _ _ ⟨rfl, hS⟩; refine ⟨_, rfl, ?_⟩; skip)
        refine hK_ _ _ (id (hS)) ?_; clear hK_ K_
        (simp only [Act.put, List.setIfInBounds_toArray, List.set_cons_zero, List.set_cons_succ])
        refine oneA (i := 15) (by kernel_rfl) rfl (by exact rfl) (fun K_ hK_ => ?_)
        (apply opA_call (f := 41) Try.func41 (by kernel_rfl); (focus ((try simp only [List.map_toArray, List.map_cons, List.map_nil, Act.eval, Array.getD_eq_getD_getElem?, List.getElem?_toArray, List.getElem?_cons_succ, List.getElem?_cons_zero, Option.getD_some]); exact rfl)); (focus (with_reducible exact (rint_i hS (flag_i _)))); rintro _ _ ⟨rfl, hS⟩; refine ⟨_, rfl, ?_⟩; skip)
        refine hK_ _ _ (id (hS)) ?_; clear hK_ K_
        (simp only [Act.put, List.setIfInBounds_toArray, List.set_cons_zero, List.set_cons_succ])
        refine takeAP_val (i := 16) (.string ⟨((((intB ((j : Int) + 1) ++ intB x1) ++ intB x2) ++ intB (flagI xo))).toArray⟩) rfl (by exact rfl) (by kernel_rfl) (fun _ _ _ h => h) (fun w => by first | exact exec_adds rfl rfl (by simp only [List.length_append]; omega) | exact exec_adds rfl rfl (by omega)) (id hS) (fun hR => ?_)
        (simp only [Act.put, List.setIfInBounds_toArray, List.set_cons_zero, List.set_cons_succ])
        refine oneA (i := 19) (by kernel_rfl) rfl (by exact rfl) (fun K_ hK_ => ?_)
        (apply opA_call (f := 41) Try.func41 (by kernel_rfl); (focus ((try simp only [List.map_toArray, List.map_cons, List.map_nil, Act.eval, Array.getD_eq_getD_getElem?, List.getElem?_toArray, List.getElem?_cons_succ, List.getElem?_cons_zero, Option.getD_some]); exact rfl)); (focus (with_reducible exact (rint_i hS hx.s))); rintro _ _ ⟨rfl, hS⟩; refine ⟨_, rfl, ?_⟩; skip)
        refine hK_ _ _ (id (hS)) ?_; clear hK_ K_
        (simp only [Act.put, List.setIfInBounds_toArray, List.set_cons_zero, List.set_cons_succ])
        refine takeAP_val (i := 20) (.string ⟨(((((intB ((j : Int) + 1) ++ intB x1) ++ intB x2) ++ intB (flagI xo)) ++ intB xs)).toArray⟩) rfl (by exact rfl) (by kernel_rfl) (fun _ _ _ h => h) (fun w => by first | exact exec_adds rfl rfl (by simp only [List.length_append]; omega) | exact exec_adds rfl rfl (by omega)) (id hS) (fun hR => ?_)
        (simp only [Act.put, List.setIfInBounds_toArray, List.set_cons_zero, List.set_cons_succ])
        refine oneA (i := 23) (by kernel_rfl) rfl (by exact rfl) (fun K_ hK_ => ?_)
        (apply opA_call (f := 42) Try.func42 (by kernel_rfl); (focus ((try simp only [List.map_toArray, List.map_cons, List.map_nil, Act.eval, Array.getD_eq_getD_getElem?, List.getElem?_toArray, List.getElem?_cons_succ, List.getElem?_cons_zero, Option.getD_some]); exact rfl)); (focus (with_reducible exact (bit_c hS _))); rintro _ _ ⟨rfl, hS⟩; refine ⟨_, rfl, ?_⟩; skip)
        refine hK_ _ _ (id (hS)) ?_; clear hK_ K_
        (simp only [Act.put, List.setIfInBounds_toArray, List.set_cons_zero, List.set_cons_succ])
        refine oneA (i := 24) (by kernel_rfl) rfl (by exact rfl) (fun K_ hK_ => ?_)
        (apply opA_call (f := 41) Try.func41 (by kernel_rfl); (focus ((try simp only [List.map_toArray, List.map_cons, List.map_nil, Act.eval, Array.getD_eq_getD_getElem?, List.getElem?_toArray, List.getElem?_cons_succ, List.getElem?_cons_zero, Option.getD_some]); exact rfl)); (focus (with_reducible exact (rint_i hS (flag_i _)))); rintro _ _ ⟨rfl, hS⟩; refine ⟨_, rfl, ?_⟩; skip)
        refine hK_ _ _ (id (hS)) ?_; clear hK_ K_
        (simp only [Act.put, List.setIfInBounds_toArray, List.set_cons_zero, List.set_cons_succ])
        refine takeAP_val (i := 25) (.string ⟨((((((intB ((j : Int) + 1) ++ intB x1) ++ intB x2) ++ intB (flagI xo)) ++ intB xs) ++ intB (flagI xd))).toArray⟩) rfl (by exact rfl) (by kernel_rfl) (fun _ _ _ h => h) (fun w => by first | exact exec_adds rfl rfl (by simp only [List.length_append]; omega) | exact exec_adds rfl rfl (by omega)) (id hS) (fun hR => ?_)
        (simp only [Act.put, List.setIfInBounds_toArray, List.set_cons_zero, List.set_cons_succ])
        refine takeAP_val (i := 26) (.string ⟨((T0) ++ (((((intB ((j : Int) + 1) ++ intB x1) ++ intB x2) ++ intB (flagI xo)) ++ intB xs) ++ intB (flagI xd))).toArray⟩) rfl (by exact rfl) (by kernel_rfl) (fun _ _ _ h => h) (fun w => by first | exact exec_adds rfl rfl (by simp only [List.length_append]; omega) | exact exec_adds rfl rfl (by omega)) hR (fun hR => ?_)
        (simp only [Act.put, List.setIfInBounds_toArray, List.set_cons_zero, List.set_cons_succ])
        refine takeAP_val (i := 27) ?_ rfl (by exact rfl) (by kernel_rfl) (fun _ _ _ h => h) ?_ hR (fun hR => ?_)
        rotate_left
        · intro w; go_simp; (first | done | (with_reducible rfl) | (refine (if_pos ?_).trans ?_; (focus omega); with_reducible rfl) | skip)
        (simp only [Act.put, List.setIfInBounds_toArray, List.set_cons_zero, List.set_cons_succ])
        refine wpAnyR_done (by kernel_rfl) ?_ _
        cases xd with
        | true =>
          have HT3 := HT2.out
          simp only [List.append_assoc, repOf, if_true] at HT3
          replace HT3 := Lib.hid HT3
          go_upto_region 8 with (first | ((with_reducible show WGd ..); (with_reducible apply wpA_guard); exact rfl; skip) | ((with_reducible show WLd ..); (with_reducible apply wpA_load); exact rfl; (first | ((with_reducible apply St.cellI hS); (focus repeat constructor); exact rfl) | assumption); kernel_rfl) | ((with_reducible show WSt ..); (with_reducible apply wpA_store1I hS); exact rfl; (focus repeat constructor); exact rfl; exact rfl; exact rfl; exact rfl; kernel_rfl; intro wx hS; (try simp only [Act.put, List.setIfInBounds_toArray, List.set_cons_zero, List.set_cons_succ]); (try simp only [Act.eval, Array.getD_eq_getD_getElem?, List.getElem?_toArray, List.getElem?_cons_succ, List.getElem?_cons_zero, Option.getD_some, List.set_cons_succ, List.set_cons_zero, Value.cells, List.toList_toArray] at hS)) | ((with_reducible show WBx ..); (with_reducible apply wpA_box hS); exact rfl; exact rfl; intro _ wx hS; (try simp only [Act.put, List.setIfInBounds_toArray, List.set_cons_zero, List.set_cons_succ]); (try simp only [Act.eval, Array.getD_eq_getD_getElem?, List.getElem?_toArray, List.getElem?_cons_succ, List.getElem?_cons_zero, Option.getD_some, List.set_cons_succ, List.set_cons_zero, Value.cells, List.toList_toArray] at hS)))
          refine wp_region_A hS (by kernel_rfl) (fun _ hR hS => ?_)
          simp only [List.length_cons, List.length_nil, Nat.reduceAdd]
          refine takeAP_val (i := 0) ?_ rfl (by exact rfl) (by kernel_rfl) (fun _ _ _ h => h) ?_ hR (fun hR => ?_)
          rotate_left
          · intro w; go_simp; (first | done | (with_reducible rfl) | (refine (if_pos ?_).trans ?_; (focus omega); with_reducible rfl) | skip)
          (simp only [Act.put, List.setIfInBounds_toArray, List.set_cons_zero, List.set_cons_succ])
          refine takeAP_val (i := 1) ?_ rfl (by exact rfl) (by kernel_rfl) (fun _ _ _ h => h) ?_ hR (fun hR => ?_)
          rotate_left
          · intro w; go_simp; (first | done | (with_reducible rfl) | (refine (if_pos ?_).trans ?_; (focus omega); with_reducible rfl) | skip)
          (simp only [Act.put, List.setIfInBounds_toArray, List.set_cons_zero, List.set_cons_succ])
          refine takeAP_val (i := 2) ?_ rfl (by exact rfl) (by kernel_rfl) (fun _ _ _ h => h) ?_ hR (fun hR => ?_)
          rotate_left
          · intro w; go_simp; (first | done | (with_reducible rfl) | (refine (if_pos ?_).trans ?_; (focus omega); with_reducible rfl) | skip)
          (simp only [Act.put, List.setIfInBounds_toArray, List.set_cons_zero, List.set_cons_succ])
          refine takeA_load (i := 3) [] rfl (by exact rfl) (by kernel_rfl) (fun _ _ _ h => h) (by decide) rfl (fun w hS => by (first | ((with_reducible apply St.cellI hS); (focus repeat constructor); exact rfl) | assumption)) (by kernel_rfl) hR (fun hR => ?_)
          (simp only [Act.put, List.setIfInBounds_toArray, List.set_cons_zero, List.set_cons_succ])
          refine takeAP_val (i := 5) ?_ rfl (by exact rfl) (by kernel_rfl) (fun _ _ _ h => h) ?_ hR (fun hR => ?_)
          rotate_left
          · intro w; go_simp; (first | done | (with_reducible rfl) | (refine (if_pos ?_).trans ?_; (focus omega); with_reducible rfl) | skip)
          (simp only [Act.put, List.setIfInBounds_toArray, List.set_cons_zero, List.set_cons_succ])
          refine takeAP_val (i := 6) ?_ rfl (by exact rfl) (by kernel_rfl) (fun _ _ _ h => h) ?_ hR (fun hR => ?_)
          rotate_left
          · intro w; go_simp; (first | done | (with_reducible rfl) | (refine (if_pos ?_).trans ?_; (focus omega); with_reducible rfl) | skip)
          (simp only [Act.put, List.setIfInBounds_toArray, List.set_cons_zero, List.set_cons_succ])
          refine takeA_load (i := 7) [] rfl (by exact rfl) (by kernel_rfl) (fun _ _ _ h => h) (by decide) rfl (fun w hS => by (first | ((with_reducible apply St.cellI hS); (focus repeat constructor); exact rfl) | assumption)) (by kernel_rfl) hR (fun hR => ?_)
          (simp only [Act.put, List.setIfInBounds_toArray, List.set_cons_zero, List.set_cons_succ])
          refine takeAP_val (i := 10) ?_ rfl (by exact rfl) (by kernel_rfl) (fun _ _ _ h => h) ?_ hR (fun hR => ?_)
          rotate_left
          · intro w; go_simp; (first | done | (with_reducible rfl) | (refine (if_pos ?_).trans ?_; (focus omega); with_reducible rfl) | skip)
          (simp only [Act.put, List.setIfInBounds_toArray, List.set_cons_zero, List.set_cons_succ])
          refine takeAP_val (i := 11) ?_ rfl (by exact rfl) (by kernel_rfl) (fun _ _ _ h => h) ?_ hR (fun hR => ?_)
          rotate_left
          · intro w; go_simp; (first | done | (with_reducible rfl) | (refine (if_pos ?_).trans ?_; (focus omega); with_reducible rfl) | skip)
          (simp only [Act.put, List.setIfInBounds_toArray, List.set_cons_zero, List.set_cons_succ])
          refine takeA_load (i := 12) [] rfl (by exact rfl) (by kernel_rfl) (fun _ _ _ h => h) (by decide) rfl (fun w hS => by (first | ((with_reducible apply St.cellI hS); (focus repeat constructor); exact rfl) | assumption)) (by kernel_rfl) hR (fun hR => ?_)
          (simp only [Act.put, List.setIfInBounds_toArray, List.set_cons_zero, List.set_cons_succ])
          refine oneA (i := 4) (by kernel_rfl) rfl (by exact rfl) (fun K_ hK_ => ?_)
          (apply opA_call (f := 41) Try.func41 (by kernel_rfl); (focus ((try simp only [List.map_toArray, List.map_cons, List.map_nil, Act.eval, Array.getD_eq_getD_getElem?, List.getElem?_toArray, List.getElem?_cons_succ, List.getElem?_cons_zero, Option.getD_some]); exact rfl)); (focus (with_reducible exact (rint_i hS hx.r.e))); rintro _ _ ⟨rfl, hS⟩; refine ⟨_, rfl, ?_⟩; skip)
          refine hK_ _ _ (id (hS)) ?_; clear hK_ K_
          (simp only [Act.put, List.setIfInBounds_toArray, List.set_cons_zero, List.set_cons_succ])
          refine oneA (i := 8) (by kernel_rfl) rfl (by exact rfl) (fun K_ hK_ => ?_)
          (apply opA_call (f := 43) Try.func43 (by kernel_rfl); (focus ((try simp only [List.map_toArray, List.map_cons, List.map_nil, Act.eval, Array.getD_eq_getD_getElem?, List.getElem?_toArray, List.getElem?_cons_succ, List.getElem?_cons_zero, Option.getD_some]); exact rfl)); (focus (with_reducible exact (ru64_v hS r4.toNat (by omega) (by omega)))); rintro _ _ ⟨rfl, hS⟩; refine ⟨_, rfl, ?_⟩; skip)
          refine hK_ _ _ (id (hS)) ?_; clear hK_ K_
          (simp only [Act.put, List.setIfInBounds_toArray, List.set_cons_zero, List.set_cons_succ])
          refine takeAP_val (i := 9) (.string ⟨(intB r3 ++ uvB r4.toNat).toArray⟩) rfl (by exact rfl) (by kernel_rfl) (fun _ _ _ h => h) (fun w => by first | exact exec_adds rfl rfl (by simp only [List.length_append]; omega) | exact exec_adds rfl rfl (by omega)) (id hS) (fun hR => ?_)
          (simp only [Act.put, List.setIfInBounds_toArray, List.set_cons_zero, List.set_cons_succ])
          refine oneA (i := 13) (by kernel_rfl) rfl (by exact rfl) (fun K_ hK_ => ?_)
          (apply opA_call (f := 41) Try.func41 (by kernel_rfl); (focus ((try simp only [List.map_toArray, List.map_cons, List.map_nil, Act.eval, Array.getD_eq_getD_getElem?, List.getElem?_toArray, List.getElem?_cons_succ, List.getElem?_cons_zero, Option.getD_some]); exact rfl)); (focus (with_reducible exact (rint_i hS hx.r.n))); rintro _ _ ⟨rfl, hS⟩; refine ⟨_, rfl, ?_⟩; skip)
          refine hK_ _ _ (id (hS)) ?_; clear hK_ K_
          (simp only [Act.put, List.setIfInBounds_toArray, List.set_cons_zero, List.set_cons_succ])
          refine takeAP_val (i := 14) (.string ⟨((intB r3 ++ uvB r4.toNat) ++ intB r5).toArray⟩) rfl (by exact rfl) (by kernel_rfl) (fun _ _ _ h => h) (fun w => by first | exact exec_adds rfl rfl (by simp only [List.length_append]; omega) | exact exec_adds rfl rfl (by omega)) (id hS) (fun hR => ?_)
          (simp only [Act.put, List.setIfInBounds_toArray, List.set_cons_zero, List.set_cons_succ])
          refine takeAP_val (i := 15) (.string ⟨((T0 ++ (intB ((j : Int) + 1) ++ (intB x1 ++ (intB x2 ++ (intB (flagI xo) ++ (intB xs ++ intB (flagI true))))))) ++ ((intB r3 ++ uvB r4.toNat) ++ intB r5)).toArray⟩) rfl (by exact rfl) (by kernel_rfl) (fun _ _ _ h => h) (fun w => by first | exact exec_adds rfl rfl (by simp only [List.length_append]; omega) | exact exec_adds rfl rfl (by omega)) hR (fun hR => ?_)
          (simp only [Act.put, List.setIfInBounds_toArray, List.set_cons_zero, List.set_cons_succ])
          refine takeAP_val (i := 16) ?_ rfl (by exact rfl) (by kernel_rfl) (fun _ _ _ h => h) ?_ hR (fun hR => ?_)
          rotate_left
          · intro w; go_simp; (first | done | (with_reducible rfl) | (refine (if_pos ?_).trans ?_; (focus omega); with_reducible rfl) | skip)
          (simp only [Act.put, List.setIfInBounds_toArray, List.set_cons_zero, List.set_cons_succ])
          refine wpAnyR_done (by kernel_rfl) ?_ _
          go_wp2_with (first | ((with_reducible show WGd ..); (with_reducible apply wpA_guard); exact rfl; skip) | ((with_reducible show WLd ..); (with_reducible apply wpA_load); exact rfl; (first | ((with_reducible apply St.cellI hS); (focus repeat constructor); exact rfl) | assumption); kernel_rfl) | ((with_reducible show WSt ..); (with_reducible apply wpA_store1I hS); exact rfl; (focus repeat constructor); exact rfl; exact rfl; exact rfl; exact rfl; kernel_rfl; intro wx hS; (try simp only [Act.put, List.setIfInBounds_toArray, List.set_cons_zero, List.set_cons_succ]); (try simp only [Act.eval, Array.getD_eq_getD_getElem?, List.getElem?_toArray, List.getElem?_cons_succ, List.getElem?_cons_zero, Option.getD_some, List.set_cons_succ, List.set_cons_zero, Value.cells, List.toList_toArray] at hS)) | ((with_reducible show WBx ..); (with_reducible apply wpA_box hS); exact rfl; exact rfl; intro _ wx hS; (try simp only [Act.put, List.setIfInBounds_toArray, List.set_cons_zero, List.set_cons_succ]); (try simp only [Act.eval, Array.getD_eq_getD_getElem?, List.getElem?_toArray, List.getElem?_cons_succ, List.getElem?_cons_zero, Option.getD_some, List.set_cons_succ, List.set_cons_zero, Value.cells, List.toList_toArray] at hS)))
          go_roundw
          case rel => exact ⟨j + 1, _, by omega, by go_num, rfl, Lib.hid HT3.out.1, HT3.out.2, hS.tail⟩
          case measure => simp [intOf]; omega
        | false =>
          have HT3 := HT2.out
          simp only [List.append_assoc, repOf, Bool.false_eq_true, if_false, rep0, Int.toNat_zero] at HT3
          replace HT3 := Lib.hid HT3
          have l10 : (uvB 0).length ≤ 10 := by rw [uvB_small (by omega)]; simp
          have l11 := intB_len hz0
          go_wp2_with (first | ((with_reducible show WGd ..); (with_reducible apply wpA_guard); exact rfl; skip) | (go_at_call 41; with_reducible refine (rint_i hS hz0).mono ?_; rintro _ _ ⟨rfl, hS⟩) | (go_at_call 43; with_reducible refine (ru64_0 hS).mono ?_; rintro _ _ ⟨rfl, hS⟩) | ((with_reducible show wpList _ _ _ (⟨_, .binOp .add _ _ _ _, _, _, _, none⟩ :: _) _ _); (with_reducible apply wpA_adds); exact rfl; exact rfl; (simp only [List.length_append]; omega); (try simp only [Act.put, List.setIfInBounds_toArray, List.set_cons_zero, List.set_cons_succ])) | ((with_reducible show WLd ..); (with_reducible apply wpA_load); exact rfl; (first | ((with_reducible apply St.cellI hS); (focus repeat constructor); exact rfl) | assumption); kernel_rfl) | ((with_reducible show WSt ..); (with_reducible apply wpA_store1I hS); exact rfl; (focus repeat constructor); exact rfl; exact rfl; exact rfl; exact rfl; kernel_rfl; intro wx hS; (try simp only [Act.put, List.setIfInBounds_toArray, List.set_cons_zero, List.set_cons_succ]); (try simp only [Act.eval, Array.getD_eq_getD_getElem?, List.getElem?_toArray, List.getElem?_cons_succ, List.getElem?_cons_zero, Option.getD_some, List.set_cons_succ, List.set_cons_zero, Value.cells, List.toList_toArray] at hS)) | ((with_reducible show WBx ..); (with_reducible apply wpA_box hS); exact rfl; exact rfl; intro _ wx hS; (try simp only [Act.put, List.setIfInBounds_toArray, List.set_cons_zero, List.set_cons_succ]); (try simp only [Act.eval, Array.getD_eq_getD_getElem?, List.getElem?_toArray, List.getElem?_cons_succ, List.getElem?_cons_zero, Option.getD_some, List.set_cons_succ, List.set_cons_zero, Value.cells, List.toList_toArray] at hS)))
          go_roundw
          case rel => exact ⟨j + 1, _, by omega, by go_num, rfl, Lib.hid (by simpa only [List.append_assoc] using HT3.out.1), by simpa only [List.append_assoc] using HT3.out.2, hS.tail⟩
          case measure => simp [intOf]; omega
      · obtain rfl : j = σ.l.length := by omega
        go_wp2_with (first | ((with_reducible show WGd ..); (with_reducible apply wpA_guard); exact rfl; skip) | ((with_reducible show WLd ..); (with_reducible apply wpA_load); exact rfl; (first | ((with_reducible apply St.cellI hS); (focus repeat constructor); exact rfl) | assumption); kernel_rfl) | ((with_reducible show WSt ..); (with_reducible apply wpA_store1I hS); exact rfl; (focus repeat constructor); exact rfl; exact rfl; exact rfl; exact rfl; kernel_rfl; intro wx hS; (try simp only [Act.put, List.setIfInBounds_toArray, List.set_cons_zero, List.set_cons_succ]); (try simp only [Act.eval, Array.getD_eq_getD_getElem?, List.getElem?_toArray, List.getElem?_cons_succ, List.getElem?_cons_zero, Option.getD_some, List.set_cons_succ, List.set_cons_zero, Value.cells, List.toList_toArray] at hS)) | ((with_reducible show WBx ..); (with_reducible apply wpA_box hS); exact rfl; exact rfl; intro _ wx hS; (try simp only [Act.put, List.setIfInBounds_toArray, List.set_cons_zero, List.set_cons_succ]); (try simp only [Act.eval, Array.getD_eq_getD_getElem?, List.getElem?_toArray, List.getElem?_cons_succ, List.getElem?_cons_zero, Option.getD_some, List.set_cons_succ, List.set_cons_zero, Value.cells, List.toList_toArray] at hS)))
        go_meet
        refine ⟨?_, hS⟩
        rw [HT.out, List.take_of_length_le (by rw [List.length_mapIdx]; exact Nat.le_refl _)]
        rfl
  case rest =>
    clear hS
    obtain ⟨rfl, hS⟩ := hcut
    have hpl : (preR σ).length ≤ 100000 := by
      unfold preR
      rw [List.length_append]
      have := HLEN.out σ.l.length (Nat.le_refl _)
      rw [List.take_of_length_le (by rw [List.length_mapIdx]; exact Nat.le_refl _)] at this
      omega
    go_upto_block 2 with (first | ((with_reducible show WGd ..); (with_reducible apply wpA_guard); exact rfl; skip) | ((with_reducible show WLd ..); (with_reducible apply wpA_load); exact rfl; (first | ((with_reducible apply St.cellI hS); (focus repeat constructor); exact rfl) | assumption); kernel_rfl) | ((with_reducible show WSt ..); (with_reducible apply wpA_store1I hS); exact rfl; (focus repeat constructor); exact rfl; exact rfl; exact rfl; exact rfl; kernel_rfl; intro wx hS; (try simp only [Act.put, List.setIfInBounds_toArray, List.set_cons_zero, List.set_cons_succ]); (try simp only [Act.eval, Array.getD_eq_getD_getElem?, List.getElem?_toArray, List.getElem?_cons_succ, List.getElem?_cons_zero, Option.getD_some, List.set_cons_succ, List.set_cons_zero, Value.cells, List.toList_toArray] at hS)) | ((with_reducible show WBx ..); (with_reducible apply wpA_box hS); exact rfl; exact rfl; intro _ wx hS; (try simp only [Act.put, List.setIfInBounds_toArray, List.set_cons_zero, List.set_cons_succ]); (try simp only [Act.eval, Array.getD_eq_getD_getElem?, List.getElem?_toArray, List.getElem?_cons_succ, List.getElem?_cons_zero, Option.getD_some, List.set_cons_succ, List.set_cons_zero, Value.cells, List.toList_toArray] at hS)))
    go_cut [6, 7] (fun v6 v7 wr => ∃ (cs : List Int), v6 = .int .i64 cs.length ∧ v7 = .string ⟨(cs.flatMap (cliE σ)).toArray⟩ ∧ Hid (cs = csR σ 8) ∧ cs.length ≤ 8 ∧ (cs.flatMap (cliE σ)).length ≤ 1000 ∧ St w0 wr (rxc x a σ.l.length c σ :: srow a c σ.l :: R))
    case first =>
      go_wp2_with (first | ((with_reducible show WGd ..); (with_reducible apply wpA_guard); exact rfl; skip) | ((with_reducible show WLd ..); (with_reducible apply wpA_load); exact rfl; (first | ((with_reducible apply St.cellI hS); (focus repeat constructor); exact rfl) | assumption); kernel_rfl) | ((with_reducible show WSt ..); (with_reducible apply wpA_store1I hS); exact rfl; (focus repeat constructor); exact rfl; exact rfl; exact rfl; exact rfl; kernel_rfl; intro wx hS; (try simp only [Act.put, List.setIfInBounds_toArray, List.set_cons_zero, List.set_cons_succ]); (try simp only [Act.eval, Array.getD_eq_getD_getElem?, List.getElem?_toArray, List.getElem?_cons_succ, List.getElem?_cons_zero, Option.getD_some, List.set_cons_succ, List.set_cons_zero, Value.cells, List.toList_toArray] at hS)) | ((with_reducible show WBx ..); (with_reducible apply wpA_box hS); exact rfl; exact rfl; intro _ wx hS; (try simp only [Act.put, List.setIfInBounds_toArray, List.set_cons_zero, List.set_cons_succ]); (try simp only [Act.eval, Array.getD_eq_getD_getElem?, List.getElem?_toArray, List.getElem?_cons_succ, List.getElem?_cons_zero, Option.getD_some, List.set_cons_succ, List.set_cons_zero, Value.cells, List.toList_toArray] at hS)))
      go_loopw [6, 7, 8] (fun v6 v7 v8 wr => ∃ (j : Nat) (cs : List Int), j ≤ 8 ∧ v8 = .int .i64 j ∧ v6 = .int .i64 cs.length ∧ v7 = .string ⟨(cs.flatMap (cliE σ)).toArray⟩ ∧ Hid (cs = csR σ j) ∧ cs.length ≤ j ∧ (cs.flatMap (cliE σ)).length ≤ 30 * j ∧ St w0 wr (rxc x a σ.l.length c σ :: srow a c σ.l :: R)) (fun _ _ v8 _ => 8 - (intOf v8).toNat)
      case atStart => exact ⟨0, [], by omega, rfl, rfl, rfl, Lib.hid rfl, Nat.le_refl _, by simp, hS⟩
      case round =>
        clear hS
        obtain ⟨j, cs, hj, rfl, rfl, rfl, HC, hcl, hfl, hS⟩ := hrel
        by_cases hlt : j < 8
        · have hd0 : decide ((j : Int) < 8) = true := by simp; omega
          have HC0 := Lib.hid (lat_cells (a := a) (n := σ.l.length) (c := c) σ hlt).1
          have HC1 := Lib.hid (lat_cells (a := a) (n := σ.l.length) (c := c) σ hlt).2
          obtain ⟨U0, hU0⟩ : ∃ U0, cs.flatMap (cliE σ) = U0 := ⟨_, rfl⟩
          by_cases hp : 0 < (latS σ j).1
          · have hd1 : decide (0 < (latS σ j).1) = true := by simpa using hp
            have hcs : csR σ (j + 1) = cs ++ [(j : Int)] := by rw [csR_succ, if_pos hp, HC.out]
            have hfm : (cs ++ [(j : Int)]).flatMap (cliE σ) = U0 ++ ((intB (j : Int) ++ intB (latS σ j).1) ++ intB (latS σ j).2) := by rw [List.flatMap_append, hU0]; simp [cliE, List.append_assoc]
            have hj1 : I64 (j : Int) := by unfold I64; omega
            have hj2 := (HLAT.out j).1
            have hj3 := (HLAT.out j).2
            have l1 := intB_len hj1
            have l2 := intB_len hj2
            have l3 := intB_len hj3
            have HFM := Lib.hid (And.intro hfm hcs.symm)
            rw [hU0] at hfl ⊢
            have HU := Lib.hid hU0
            clear hU0 hfm hcs
            go_upto_region 17 with (first | ((with_reducible show WGd ..); (with_reducible apply wpA_guard); exact rfl; skip) | ((with_reducible show WLd ..); (with_reducible apply wpA_load); exact rfl; exact hS.cell 0 rfl (1 + j * 2) HC0.out; kernel_rfl) | ((with_reducible show WLd ..); (with_reducible apply wpA_load); exact rfl; (first | ((with_reducible apply St.cellI hS); (focus repeat constructor); exact rfl) | assumption); kernel_rfl) | ((with_reducible show WSt ..); (with_reducible apply wpA_store1I hS); exact rfl; (focus repeat constructor); exact rfl; exact rfl; exact rfl; exact rfl; kernel_rfl; intro wx hS; (try simp only [Act.put, List.setIfInBounds_toArray, List.set_cons_zero, List.set_cons_succ]); (try simp only [Act.eval, Array.getD_eq_getD_getElem?, List.getElem?_toArray, List.getElem?_cons_succ, List.getElem?_cons_zero, Option.getD_some, List.set_cons_succ, List.set_cons_zero, Value.cells, List.toList_toArray] at hS)) | ((with_reducible show WBx ..); (with_reducible apply wpA_box hS); exact rfl; exact rfl; intro _ wx hS; (try simp only [Act.put, List.setIfInBounds_toArray, List.set_cons_zero, List.set_cons_succ]); (try simp only [Act.eval, Array.getD_eq_getD_getElem?, List.getElem?_toArray, List.getElem?_cons_succ, List.getElem?_cons_zero, Option.getD_some, List.set_cons_succ, List.set_cons_zero, Value.cells, List.toList_toArray] at hS)))
            refine wp_region_A hS (by kernel_rfl) (fun _ hR hS => ?_)
            simp only [List.length_cons, List.length_nil, Nat.reduceAdd]
            refine takeAP_val (i := 0) ?_ rfl (by exact rfl) (by kernel_rfl) (fun _ _ _ h => h) ?_ hR (fun hR => ?_)
            rotate_left
            · intro w; go_simp; (first | done | (with_reducible rfl) | (refine (if_pos ?_).trans ?_; (focus omega); with_reducible rfl) | skip)
            (simp only [Act.put, List.setIfInBounds_toArray, List.set_cons_zero, List.set_cons_succ])
            refine takeAP_val (i := 1) ?_ rfl (by exact rfl) (by kernel_rfl) (fun _ _ _ h => h) ?_ hR (fun hR => ?_)
            rotate_left
            · intro w; go_simp; (first | done | (with_reducible rfl) | (refine (if_pos ?_).trans ?_; (focus omega); with_reducible rfl) | skip)
            (simp only [Act.put, List.setIfInBounds_toArray, List.set_cons_zero, List.set_cons_succ])
            refine takeAP_val (i := 3) ?_ rfl (by exact rfl) (by kernel_rfl) (fun _ _ _ h => h) ?_ hR (fun hR => ?_)
            rotate_left
            · intro w; go_simp; (first | done | (with_reducible rfl) | (refine (if_pos ?_).trans ?_; (focus omega); with_reducible rfl) | skip)
            (simp only [Act.put, List.setIfInBounds_toArray, List.set_cons_zero, List.set_cons_succ])
            refine takeAP_val (i := 4) ?_ rfl (by exact rfl) (by kernel_rfl) (fun _ _ _ h => h) ?_ hR (fun hR => ?_)
            rotate_left
            · intro w; go_simp; (first | done | (with_reducible rfl) | (refine (if_pos ?_).trans ?_; (focus omega); with_reducible rfl) | skip)
            (simp only [Act.put, List.setIfInBounds_toArray, List.set_cons_zero, List.set_cons_succ])
            refine takeAP_val (i := 5) ?_ rfl (by exact rfl) (by kernel_rfl) (fun _ _ _ h => h) ?_ hR (fun hR => ?_)
            rotate_left
            · intro w; go_simp; (first | done | (with_reducible rfl) | (refine (if_pos ?_).trans ?_; (focus omega); with_reducible rfl) | skip)
            (simp only [Act.put, List.setIfInBounds_toArray, List.set_cons_zero, List.set_cons_succ])
            refine takeAP_val (i := 6) ?_ rfl (by exact rfl) (by kernel_rfl) (fun _ _ _ h => h) ?_ hR (fun hR => ?_)
            rotate_left
            · intro w; go_simp; (first | done | (with_reducible rfl) | (refine (if_pos ?_).trans ?_; (focus omega); with_reducible rfl) | skip)
            (simp only [Act.put, List.setIfInBounds_toArray, List.set_cons_zero, List.set_cons_succ])
            refine takeAP_val (i := 7) ?_ rfl (by exact rfl) (by kernel_rfl) (fun _ _ _ h => h) ?_ hR (fun hR => ?_)
            rotate_left
            · intro w; go_simp; (first | done | (with_reducible rfl) | (refine (if_pos ?_).trans ?_; (focus omega); with_reducible rfl) | skip)
            (simp only [Act.put, List.setIfInBounds_toArray, List.set_cons_zero, List.set_cons_succ])
            refine takeAP_val (i := 8) ?_ rfl (by exact rfl) (by kernel_rfl) (fun _ _ _ h => h) ?_ hR (fun hR => ?_)
            rotate_left
            · intro w; go_simp; (first | done | (with_reducible rfl) | (refine (if_pos ?_).trans ?_; (focus omega); with_reducible rfl) | skip)
            (simp only [Act.put, List.setIfInBounds_toArray, List.set_cons_zero, List.set_cons_succ])
            refine takeA_load (i := 9) [] rfl (by exact rfl) (by kernel_rfl) (fun _ _ _ h => h) (by decide) rfl (fun w hS => hS.cell 0 rfl (1 + j * 2) HC0.out) (by kernel_rfl) hR (fun hR => ?_)
            (simp only [Act.put, List.setIfInBounds_toArray, List.set_cons_zero, List.set_cons_succ])
            refine takeAP_val (i := 12) ?_ rfl (by exact rfl) (by kernel_rfl) (fun _ _ _ h => h) ?_ hR (fun hR => ?_)
            rotate_left
            · intro w; go_simp; (first | done | (with_reducible rfl) | (refine (if_pos ?_).trans ?_; (focus omega); with_reducible rfl) | skip)
            (simp only [Act.put, List.setIfInBounds_toArray, List.set_cons_zero, List.set_cons_succ])
            refine takeAP_val (i := 13) ?_ rfl (by exact rfl) (by kernel_rfl) (fun _ _ _ h => h) ?_ hR (fun hR => ?_)
            rotate_left
            · intro w; go_simp; (first | done | (with_reducible rfl) | (refine (if_pos ?_).trans ?_; (focus omega); with_reducible rfl) | skip)
            (simp only [Act.put, List.setIfInBounds_toArray, List.set_cons_zero, List.set_cons_succ])
            refine takeAP_val (i := 14) ?_ rfl (by exact rfl) (by kernel_rfl) (fun _ _ _ h => h) ?_ hR (fun hR => ?_)
            rotate_left
            · intro w; go_simp; (first | done | (with_reducible rfl) | (refine (if_pos ?_).trans ?_; (focus omega); with_reducible rfl) | skip)
            (simp only [Act.put, List.setIfInBounds_toArray, List.set_cons_zero, List.set_cons_succ])
            refine takeAP_val (i := 15) ?_ rfl (by exact rfl) (by kernel_rfl) (fun _ _ _ h => h) ?_ hR (fun hR => ?_)
            rotate_left
            · intro w; go_simp; (first | done | (with_reducible rfl) | (refine (if_pos ?_).trans ?_; (focus omega); with_reducible rfl) | skip)
            (simp only [Act.put, List.setIfInBounds_toArray, List.set_cons_zero, List.set_cons_succ])
            refine takeAP_val (i := 16) ?_ rfl (by exact rfl) (by kernel_rfl) (fun _ _ _ h => h) ?_ hR (fun hR => ?_)
            rotate_left
            · intro w; go_simp; (first | done | (with_reducible rfl) | (refine (if_pos ?_).trans ?_; (focus omega); with_reducible rfl) | skip)
            (simp only [Act.put, List.setIfInBounds_toArray, List.set_cons_zero, List.set_cons_succ])
            refine takeAP_val (i := 17) ?_ rfl (by exact rfl) (by kernel_rfl) (fun _ _ _ h => h) ?_ hR (fun hR => ?_)
            rotate_left
            · intro w; go_simp; (first | done | (with_reducible rfl) | (refine (if_pos ?_).trans ?_; (focus omega); with_reducible rfl) | skip)
            (simp only [Act.put, List.setIfInBounds_toArray, List.set_cons_zero, List.set_cons_succ])
            refine takeA_load (i := 18) [] rfl (by exact rfl) (by kernel_rfl) (fun _ _ _ h => h) (by decide) rfl (fun w hS => hS.cell 0 rfl (1 + j * 2 + 1) HC1.out) (by kernel_rfl) hR (fun hR => ?_)
            (simp only [Act.put, List.setIfInBounds_toArray, List.set_cons_zero, List.set_cons_succ])
            refine oneA (i := 2) (by kernel_rfl) rfl (by exact rfl) (fun K_ hK_ => ?_)
            (apply opA_call (f := 41) Try.func41 (by kernel_rfl); (focus ((try simp only [List.map_toArray, List.map_cons, List.map_nil, Act.eval, Array.getD_eq_getD_getElem?, List.getElem?_toArray, List.getElem?_cons_succ, List.getElem?_cons_zero, Option.getD_some]); exact rfl)); (focus (with_reducible exact (rint_i hS hj1))); rintro _ _ ⟨rfl, hS⟩; refine ⟨_, rfl, ?_⟩; skip)
            refine hK_ _ _ (id (hS)) ?_; clear hK_ K_
            (simp only [Act.put, List.setIfInBounds_toArray, List.set_cons_zero, List.set_cons_succ])
            refine oneA (i := 10) (by kernel_rfl) rfl (by exact rfl) (fun K_ hK_ => ?_)
            (apply opA_call (f := 41) Try.func41 (by kernel_rfl); (focus ((try simp only [List.map_toArray, List.map_cons, List.map_nil, Act.eval, Array.getD_eq_getD_getElem?, List.getElem?_toArray, List.getElem?_cons_succ, List.getElem?_cons_zero, Option.getD_some]); exact rfl)); (focus (with_reducible exact (rint_i hS hj2))); rintro _ _ ⟨rfl, hS⟩; refine ⟨_, rfl, ?_⟩; skip)
            refine hK_ _ _ (id (hS)) ?_; clear hK_ K_
            (simp only [Act.put, List.setIfInBounds_toArray, List.set_cons_zero, List.set_cons_succ])
            refine takeAP_val (i := 11) (.string ⟨(intB (j : Int) ++ intB (latS σ j).1).toArray⟩) rfl (by exact rfl) (by kernel_rfl) (fun _ _ _ h => h) (fun w => by first | exact exec_adds rfl rfl (by simp only [List.length_append]; omega) | exact exec_adds rfl rfl (by omega)) (id hS) (fun hR => ?_)
            (simp only [Act.put, List.setIfInBounds_toArray, List.set_cons_zero, List.set_cons_succ])
            refine oneA (i := 19) (by kernel_rfl) rfl (by exact rfl) (fun K_ hK_ => ?_)
            (apply opA_call (f := 41) Try.func41 (by kernel_rfl); (focus ((try simp only [List.map_toArray, List.map_cons, List.map_nil, Act.eval, Array.getD_eq_getD_getElem?, List.getElem?_toArray, List.getElem?_cons_succ, List.getElem?_cons_zero, Option.getD_some]); exact rfl)); (focus (with_reducible exact (rint_i hS hj3))); rintro _ _ ⟨rfl, hS⟩; refine ⟨_, rfl, ?_⟩; skip)
            refine hK_ _ _ (id (hS)) ?_; clear hK_ K_
            (simp only [Act.put, List.setIfInBounds_toArray, List.set_cons_zero, List.set_cons_succ])
            refine takeAP_val (i := 20) (.string ⟨((intB (j : Int) ++ intB (latS σ j).1) ++ intB (latS σ j).2).toArray⟩) rfl (by exact rfl) (by kernel_rfl) (fun _ _ _ h => h) (fun w => by first | exact exec_adds rfl rfl (by simp only [List.length_append]; omega) | exact exec_adds rfl rfl (by omega)) (id hS) (fun hR => ?_)
            (simp only [Act.put, List.setIfInBounds_toArray, List.set_cons_zero, List.set_cons_succ])
            refine takeAP_val (i := 21) (.string ⟨(U0 ++ ((intB (j : Int) ++ intB (latS σ j).1) ++ intB (latS σ j).2)).toArray⟩) rfl (by exact rfl) (by kernel_rfl) (fun _ _ _ h => h) (fun w => by first | exact exec_adds rfl rfl (by simp only [List.length_append]; omega) | exact exec_adds rfl rfl (by omega)) hR (fun hR => ?_)
            (simp only [Act.put, List.setIfInBounds_toArray, List.set_cons_zero, List.set_cons_succ])
            refine takeAP_val (i := 22) ?_ rfl (by exact rfl) (by kernel_rfl) (fun _ _ _ h => h) ?_ hR (fun hR => ?_)
            rotate_left
            · intro w; go_simp; (first | done | (with_reducible rfl) | (refine (if_pos ?_).trans ?_; (focus omega); with_reducible rfl) | skip)
            (simp only [Act.put, List.setIfInBounds_toArray, List.set_cons_zero, List.set_cons_succ])
            refine wpAnyR_done (by kernel_rfl) ?_ _
            go_wp2_with (first | ((with_reducible show WGd ..); (with_reducible apply wpA_guard); exact rfl; skip) | ((with_reducible show WLd ..); (with_reducible apply wpA_load); exact rfl; (first | ((with_reducible apply St.cellI hS); (focus repeat constructor); exact rfl) | assumption); kernel_rfl) | ((with_reducible show WSt ..); (with_reducible apply wpA_store1I hS); exact rfl; (focus repeat constructor); exact rfl; exact rfl; exact rfl; exact rfl; kernel_rfl; intro wx hS; (try simp only [Act.put, List.setIfInBounds_toArray, List.set_cons_zero, List.set_cons_succ]); (try simp only [Act.eval, Array.getD_eq_getD_getElem?, List.getElem?_toArray, List.getElem?_cons_succ, List.getElem?_cons_zero, Option.getD_some, List.set_cons_succ, List.set_cons_zero, Value.cells, List.toList_toArray] at hS)) | ((with_reducible show WBx ..); (with_reducible apply wpA_box hS); exact rfl; exact rfl; intro _ wx hS; (try simp only [Act.put, List.setIfInBounds_toArray, List.set_cons_zero, List.set_cons_succ]); (try simp only [Act.eval, Array.getD_eq_getD_getElem?, List.getElem?_toArray, List.getElem?_cons_succ, List.getElem?_cons_zero, Option.getD_some, List.set_cons_succ, List.set_cons_zero, Value.cells, List.toList_toArray] at hS)))
            go_roundw
            case rel =>
              refine ⟨j + 1, cs ++ [(j : Int)], by omega, by go_num, by rw [List.length_append]; go_num, by rw [HFM.out.1]; simp only [List.append_assoc], Lib.hid HFM.out.2, by rw [List.length_append]; simp only [List.length_cons, List.length_nil]; omega, ?_, hS⟩
              rw [HFM.out.1]
              simp only [List.length_append]
              omega
            case measure => simp [intOf]; omega
          · have hd1 : decide (0 < (latS σ j).1) = false := by simpa using hp
            have hcs : csR σ (j + 1) = cs := by rw [csR_succ, if_neg hp, HC.out, List.append_nil]
            go_wp2_with (first | ((with_reducible show WGd ..); (with_reducible apply wpA_guard); exact rfl; skip) | ((with_reducible show WLd ..); (with_reducible apply wpA_load); exact rfl; exact hS.cell 0 rfl (1 + j * 2) HC0.out; kernel_rfl) | ((with_reducible show WLd ..); (with_reducible apply wpA_load); exact rfl; (first | ((with_reducible apply St.cellI hS); (focus repeat constructor); exact rfl) | assumption); kernel_rfl) | ((with_reducible show WSt ..); (with_reducible apply wpA_store1I hS); exact rfl; (focus repeat constructor); exact rfl; exact rfl; exact rfl; exact rfl; kernel_rfl; intro wx hS; (try simp only [Act.put, List.setIfInBounds_toArray, List.set_cons_zero, List.set_cons_succ]); (try simp only [Act.eval, Array.getD_eq_getD_getElem?, List.getElem?_toArray, List.getElem?_cons_succ, List.getElem?_cons_zero, Option.getD_some, List.set_cons_succ, List.set_cons_zero, Value.cells, List.toList_toArray] at hS)) | ((with_reducible show WBx ..); (with_reducible apply wpA_box hS); exact rfl; exact rfl; intro _ wx hS; (try simp only [Act.put, List.setIfInBounds_toArray, List.set_cons_zero, List.set_cons_succ]); (try simp only [Act.eval, Array.getD_eq_getD_getElem?, List.getElem?_toArray, List.getElem?_cons_succ, List.getElem?_cons_zero, Option.getD_some, List.set_cons_succ, List.set_cons_zero, Value.cells, List.toList_toArray] at hS)))
            go_roundw
            case rel => exact ⟨j + 1, cs, by omega, by go_num, rfl, by rw [hU0], Lib.hid hcs.symm, by omega, by omega, hS⟩
            case measure => simp [intOf]; omega
        · obtain rfl : j = 8 := by omega
          go_wp2_with (first | ((with_reducible show WGd ..); (with_reducible apply wpA_guard); exact rfl; skip) | ((with_reducible show WLd ..); (with_reducible apply wpA_load); exact rfl; (first | ((with_reducible apply St.cellI hS); (focus repeat constructor); exact rfl) | assumption); kernel_rfl) | ((with_reducible show WSt ..); (with_reducible apply wpA_store1I hS); exact rfl; (focus repeat constructor); exact rfl; exact rfl; exact rfl; exact rfl; kernel_rfl; intro wx hS; (try simp only [Act.put, List.setIfInBounds_toArray, List.set_cons_zero, List.set_cons_succ]); (try simp only [Act.eval, Array.getD_eq_getD_getElem?, List.getElem?_toArray, List.getElem?_cons_succ, List.getElem?_cons_zero, Option.getD_some, List.set_cons_succ, List.set_cons_zero, Value.cells, List.toList_toArray] at hS)) | ((with_reducible show WBx ..); (with_reducible apply wpA_box hS); exact rfl; exact rfl; intro _ wx hS; (try simp only [Act.put, List.setIfInBounds_toArray, List.set_cons_zero, List.set_cons_succ]); (try simp only [Act.eval, Array.getD_eq_getD_getElem?, List.getElem?_toArray, List.getElem?_cons_succ, List.getElem?_cons_zero, Option.getD_some, List.set_cons_succ, List.set_cons_zero, Value.cells, List.toList_toArray] at hS)))
          go_meet
          exact ⟨cs, rfl, rfl, HC, hcl, by omega, hS⟩
    case rest =>
      clear hS
      obtain ⟨cs, rfl, rfl, HC, hcl, hfl, hS⟩ := hcut
      have hj1 : I64 (cs.length : Int) := by unfold I64; omega
      have l1 := intB_len hj1
      go_wp2_with (first | ((with_reducible show WGd ..); (with_reducible apply wpA_guard); exact rfl; skip) | (go_at_call 41; with_reducible refine (rint_i hS hj1).mono ?_; rintro _ _ ⟨rfl, hS⟩) | ((with_reducible show wpList _ _ _ (⟨_, .binOp .add _ _ _ _, _, _, _, none⟩ :: _) _ _); (with_reducible apply wpA_adds); exact rfl; exact rfl; (simp only [List.length_append]; omega); (try simp only [Act.put, List.setIfInBounds_toArray, List.set_cons_zero, List.set_cons_succ])) | ((with_reducible show WLd ..); (with_reducible apply wpA_load); exact rfl; (first | ((with_reducible apply St.cellI hS); (focus repeat constructor); exact rfl) | assumption); kernel_rfl) | ((with_reducible show WSt ..); (with_reducible apply wpA_store1I hS); exact rfl; (focus repeat constructor); exact rfl; exact rfl; exact rfl; exact rfl; kernel_rfl; intro wx hS; (try simp only [Act.put, List.setIfInBounds_toArray, List.set_cons_zero, List.set_cons_succ]); (try simp only [Act.eval, Array.getD_eq_getD_getElem?, List.getElem?_toArray, List.getElem?_cons_succ, List.getElem?_cons_zero, Option.getD_some, List.set_cons_succ, List.set_cons_zero, Value.cells, List.toList_toArray] at hS)) | ((with_reducible show WBx ..); (with_reducible apply wpA_box hS); exact rfl; exact rfl; intro _ wx hS; (try simp only [Act.put, List.setIfInBounds_toArray, List.set_cons_zero, List.set_cons_succ]); (try simp only [Act.eval, Array.getD_eq_getD_getElem?, List.getElem?_toArray, List.getElem?_cons_succ, List.getElem?_cons_zero, Option.getD_some, List.set_cons_succ, List.set_cons_zero, Value.cells, List.toList_toArray] at hS)))
      go_ret
      refine ⟨?_, a, c, hS⟩
      rw [HC.out]
      rfl
end
end Go.Proofs.Ytodojllclghoiaa
