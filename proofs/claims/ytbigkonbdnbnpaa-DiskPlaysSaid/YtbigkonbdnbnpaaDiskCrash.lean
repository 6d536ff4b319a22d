/-
  The disk's Crash, walked, on contracts of slices.Sort and slices.BinarySearch at ints.
-/
import Derived.Test.YtbigkonbdnbnpaaDiskW2
import Derived.Test.YtbigkonbdnbnpaaMapIter
import Derived.Deep.LoopGhost
import Derived.Deep.DeepCutAuto
namespace Go.Proofs.Ytbigkonbdnbnpaa
set_option linter.unusedVariables false
set_option linter.unusedSimpArgs false
open Go.RowKit

abbrev intsRow (ao : Option Addr) (cap : Nat) (zs : List Int) : Hp := .row 3 1 ao zs.length cap (zs.map (Value.int .i64))

/-- What is asked of slices.Sort. -/
def SortSaid : Prop := ∀ (w0 w : World) (ao : Option Addr) (cap : Nat) (zs : List Int) (R : List Hp), zs.length < 4611686018427387904 → St w0 w (intsRow ao cap zs :: R) →
  Calls Try.prog 22 #[.slice ao zs.length cap] w fun e w' => e = .returned (.tuple #[]) ∧ ∃ ys : List Int, ys = zs.mergeSort (fun x y => decide (x ≤ y)) ∧ ys.length = zs.length ∧ St w0 w' (.row 3 1 ao zs.length cap (ys.map (Value.int .i64)) :: R)

/-- What is asked of slices.BinarySearch. -/
def SearchSaid : Prop := ∀ (w0 w : World) (ao : Option Addr) (cap : Nat) (zs : List Int) (x : Int) (H : List Hp), zs.length < 4611686018427387904 → zs.Pairwise (· ≤ ·) → St w0 w H → (∃ i : Nat, H[i]? = some (intsRow ao cap zs)) →
  Calls Try.prog 23 #[.slice ao zs.length cap, .int .i64 x] w fun e w' => e = .returned (.tuple #[.int .i64 (zs.countP (· < x) : Nat), .bool (zs.contains x)]) ∧ St w0 w' H

/-- How many of a file's bytes that are not sure stay. -/
def cutAt (last : Int) (f : FileS) : FileS := ⟨f.b.take (f.sure + f.came.countP (· < last + 1)), (f.b.take (f.sure + f.came.countP (· < last + 1))).length, []⟩

/-- The clock of the last byte that stays. -/
def lastOf (keep : Int) (all : List Int) : Int :=
  let k := min keep all.length
  if 0 < k then (all.mergeSort (fun x y => decide (x ≤ y))).getD (k - 1).toNat 0 else 0

/-- Reading one file among others. -/
theorem FZ.get {Z : List ((ByteArray × FileS) × Nat)} {H : List Hp} (h : FZ Z H) {z : (ByteArray × FileS) × Nat} (hz : z ∈ Z) : ∃ Hf Hr, FileH z.2 z.1.2 Hf ∧ H.Perm (Hf ++ Hr) := by
  obtain ⟨i, hi⟩ := List.getElem?_of_mem hz
  obtain ⟨H', h1, h2⟩ := h.perm (perm_front Z i z hi).symm
  cases h1 with
  | cons hf r => exact ⟨_, _, hf, h2.symm⟩

theorem FileH.mem {p : Nat} {f : FileS} {Hf : List Hp} (_ : FileH p f Hf) : True := trivial

theorem total_le {Z Lz Dz : List ((ByteArray × FileS) × Nat)} (hp : (Lz ++ Dz).Perm Z) {zs : List Int} (hz : zs.Perm (Dz.flatMap (·.1.2.came))) {N : Nat} (hN : (Z.flatMap (·.1.2.came)).length ≤ N) {z : (ByteArray × FileS) × Nat} (hm : z ∈ Lz) :
    zs.length + z.1.2.came.length ≤ N := by
  have h1 : ((Lz ++ Dz).flatMap (·.1.2.came)).length = (Z.flatMap (·.1.2.came)).length := (hp.flatMap_right _).length_eq
  rw [List.flatMap_append, List.length_append, ← hz.length_eq] at h1
  obtain ⟨i, hi⟩ := List.getElem?_of_mem hm
  have h2 : ((z :: Lz.eraseIdx i).flatMap (·.1.2.came)).length = (Lz.flatMap (·.1.2.came)).length := ((perm_front Lz i z hi).flatMap_right _).length_eq
  simp only [List.flatMap_cons, List.length_append] at h2
  omega

attribute [go_sem] kvZ

def cutZ (last : Int) (z : (ByteArray × FileS) × Nat) : (ByteArray × FileS) × Nat := ((z.1.1, cutAt last z.1.2), z.2)

theorem lastOf_mem (keep : Int) (zs : List Int) : lastOf keep zs = 0 ∨ lastOf keep zs ∈ zs := by
  unfold lastOf
  simp only
  split
  · rename_i h
    right
    have hlen : (zs.mergeSort fun x y => decide (x ≤ y)).length = zs.length := List.length_mergeSort _
    have hi : (min keep (zs.length : Int) - 1).toNat < (zs.mergeSort fun x y => decide (x ≤ y)).length := by omega
    have h2 := List.getElem_mem hi
    rw [List.mem_mergeSort] at h2
    rw [List.getD_eq_getElem?_getD, List.getElem?_eq_getElem hi]
    exact h2
  · exact .inl rfl

theorem FZ.pick {Z : List ((ByteArray × FileS) × Nat)} {H : List Hp} (h : FZ Z H) {i : Nat} {z : (ByteArray × FileS) × Nat} (hi : Z[i]? = some z) :
    ∃ Hf Hr, FileH z.2 z.1.2 Hf ∧ H.Perm (Hf ++ Hr) ∧ FZ (Z.eraseIdx i) Hr := by
  obtain ⟨H', h1, h2⟩ := h.perm (perm_front Z i z hi).symm
  cases h1 with
  | cons hf r => exact ⟨_, _, hf, h2.symm, r⟩

set_option maxHeartbeats 4000000 in
set_option maxRecDepth 100000 in
theorem crash_c (hsort : SortSaid) (hsearch : SearchSaid) (w0 w : World) (R : List Hp) (g : Nat) (σ : DiskS) (keep : Int) (hD : DiskSt w0 w g σ R) (hok : σ.ok 0) (hk1 : -9223372036854775808 ≤ keep) (hk2 : keep ≤ 9223372036854775807)
    (hlen : (σ.l.flatMap (·.2.came)).length ≤ 4611686018427) (hcm : ∀ x ∈ σ.l, x.2.came.Pairwise (· ≤ ·)) (hcl : ∀ x ∈ σ.l, ∀ c ∈ x.2.came, 0 < c ∧ c ≤ σ.clock) :
    Calls Try.prog 12 #[.pointer (some ⟨g, 0, none⟩), .int .i64 keep] w fun e w' => e = .returned (.tuple #[]) ∧
      ∃ all : List Int, all.Perm (σ.l.flatMap (·.2.came)) ∧ DiskSt w0 w' g ⟨σ.l.map fun x => (x.1, cutAt (lastOf keep all) x.2), σ.clock⟩ R := by
  obtain ⟨m, kvs, H, hF, hS⟩ := hD
  obtain ⟨Z, hl, rfl, hZ⟩ := hF.toZ
  have hSn := hS.nilRow 3 1
  go_enter Try.func12, Try.ntmps12
  go_wp2_with (first | ((with_reducible show WGd ..); (with_reducible apply wpA_guard); exact rfl; skip) | ((with_reducible show wpList _ _ _ (⟨_, .range _ _, _, _, _, none⟩ :: _) _ _); (with_reducible apply wpA_range hS 1); exact rfl; exact rfl; exact Try.underlying49; intro r wx hS; (try simp only [Act.put, List.setIfInBounds_toArray, List.set_cons_zero, List.set_cons_succ])) | ((with_reducible show WLd ..); (with_reducible apply wpA_load); exact rfl; (first | ((with_reducible apply St.cellI hS); (focus repeat constructor); exact rfl) | assumption); kernel_rfl) | ((with_reducible show WSt ..); (with_reducible apply wpA_store1I hS); exact rfl; (focus repeat constructor); exact rfl; exact rfl; exact rfl; exact rfl; kernel_rfl; intro wx hS; (try simp only [Act.put, List.setIfInBounds_toArray, List.set_cons_zero, List.set_cons_succ]); (try simp only [Act.eval, Array.getD_eq_getD_getElem?, List.getElem?_toArray, List.getElem?_cons_succ, List.getElem?_cons_zero, Option.getD_some, List.set_cons_succ, List.set_cons_zero, Value.cells, List.toList_toArray] at hS)) | ((with_reducible show WBx ..); (with_reducible apply wpA_box hS); exact rfl; exact rfl; intro _ wx hS; (try simp only [Act.put, List.setIfInBounds_toArray, List.set_cons_zero, List.set_cons_succ]); (try simp only [Act.eval, Array.getD_eq_getD_getElem?, List.getElem?_toArray, List.getElem?_cons_succ, List.getElem?_cons_zero, Option.getD_some, List.set_cons_succ, List.set_cons_zero, Value.cells, List.toList_toArray] at hS)))
  have hlenZ : (Z.flatMap (·.1.2.came)).length ≤ 4611686018427 := by rw [hl, List.flatMap_map] at hlen; exact hlen
  have HL := Lib.hid hl
  clear hl
  go_loopg [4] Z.length (fun gk v wr => ∃ (Lz Dz : List ((ByteArray × FileS) × Nat)) (zs : List Int) (ao4 : Option Addr) (cap4 : Nat) (cur : Option (Value × Value)), v = .slice ao4 zs.length cap4 ∧ (Lz ++ Dz).Perm Z ∧ zs.Perm (Dz.flatMap (·.1.2.came)) ∧ Lz.length ≤ gk ∧
    St w0 wr (.cells g [.map (some m), .int .i64 σ.clock] 51 :: .mpi m .string (Z.map kvZ) r (Lz.map kvZ) cur :: intsRow ao4 cap4 zs :: (H ++ R)))
  case atStart => exact ⟨Z, [], [], none, 0, none, rfl, by simp, by simp, Nat.le_refl _, ((hS.nilRow 3 1).sel [1, 2, 0] 3 (by decide) (by decide) (by simp))⟩
  case round =>
    clear hS hSn
    obtain ⟨Lz, Dz, zs, ao4, cap4, cur, rfl, hp, hzs, hgk, hS⟩ := hrel
    by_cases hL : Lz = []
    · subst hL
      simp only [List.nil_append] at hp
      have hbd : zs.length ≤ 4611686018427 := by
        rw [hzs.length_eq, (hp.flatMap_right _).length_eq]; exact hlenZ
      go_upto_if 36 with (first | ((with_reducible apply wpA_next hS 1); exact rfl; exact rfl; rotate_left; (intro j p wx hj; simp at hj); intro _; replace hS := hS.unrange 1 rfl; (try simp only [Act.put, List.setIfInBounds_toArray, List.set_cons_zero, List.set_cons_succ])) | (go_at_call 22; refine (hsort w0 _ _ _ zs _ (by omega) (hS.sel [2, 0, 1] 3 (by decide) (by decide) (by simp))).mono ?_; rintro e wx ⟨rfl, ys, hys, hyl, hS⟩))
      have HY := Lib.hid hys
      clear hys
      go_cut [1, 7] (fun _ v wx => v = .int .i64 (lastOf keep zs) ∧ St w0 wx (.row 3 1 ao4 zs.length cap4 (ys.map (Value.int .i64)) :: .cells g [.map (some m), .int .i64 σ.clock] 51 :: .mp m .string (Z.map kvZ) :: (H ++ R)))
      case first =>
        by_cases hpos : 0 < keep ∧ 0 < zs.length
        · obtain ⟨hp1, hp2⟩ := hpos
          rcases row_head (hS.at_ 0 rfl) with ⟨_, h0, _⟩ | ⟨⟨ga, rfl⟩, _⟩
          · omega
          · by_cases hc : (zs.length : Int) < keep
            · have hL : lastOf keep zs = ys.getD (zs.length - 1) 0 := by
                unfold lastOf
                rw [Int.min_eq_right (by omega)]
                simp only [HY.out]
                rw [if_pos (by omega), show ((zs.length : Int) - 1).toNat = zs.length - 1 by omega]
              have hcell : (ys.map (Value.int .i64))[zs.length - 1]? = some (.int .i64 (lastOf keep zs)) := by
                rw [hL]; simp [List.getD, show zs.length - 1 < ys.length by omega]
              have hcl := row_cell (hS.at_ 0 rfl) _ hcell
              clear hcell hL
              go_wp2_with (first | ((with_reducible show WGd ..); (with_reducible apply wpA_guard); exact rfl; skip) | ((with_reducible show WLd ..); (with_reducible apply wpA_load); exact rfl; (first | ((with_reducible apply St.cellI hS); (focus repeat constructor); exact rfl) | assumption); kernel_rfl) | ((with_reducible show WSt ..); (with_reducible apply wpA_store1I hS); exact rfl; (focus repeat constructor); exact rfl; exact rfl; exact rfl; exact rfl; kernel_rfl; intro wx hS; (try simp only [Act.put, List.setIfInBounds_toArray, List.set_cons_zero, List.set_cons_succ]); (try simp only [Act.eval, Array.getD_eq_getD_getElem?, List.getElem?_toArray, List.getElem?_cons_succ, List.getElem?_cons_zero, Option.getD_some, List.set_cons_succ, List.set_cons_zero, Value.cells, List.toList_toArray] at hS)) | ((with_reducible show WBx ..); (with_reducible apply wpA_box hS); exact rfl; exact rfl; intro _ wx hS; (try simp only [Act.put, List.setIfInBounds_toArray, List.set_cons_zero, List.set_cons_succ]); (try simp only [Act.eval, Array.getD_eq_getD_getElem?, List.getElem?_toArray, List.getElem?_cons_succ, List.getElem?_cons_zero, Option.getD_some, List.set_cons_succ, List.set_cons_zero, Value.cells, List.toList_toArray] at hS)))
              go_meet
              exact ⟨rfl, hS⟩
            · have hL : lastOf keep zs = ys.getD (keep - 1).toNat 0 := by
                unfold lastOf
                rw [Int.min_eq_left (by omega)]
                simp only [HY.out]
                rw [if_pos (by omega)]
              have hcell : (ys.map (Value.int .i64))[keep.toNat - 1]? = some (.int .i64 (lastOf keep zs)) := by
                rw [hL, show (keep - 1).toNat = keep.toNat - 1 by omega]; simp [List.getD, show keep.toNat - 1 < ys.length by omega]
              have hcl := row_cell (hS.at_ 0 rfl) _ hcell
              clear hcell hL
              go_wp2_with (first | ((with_reducible show WGd ..); (with_reducible apply wpA_guard); exact rfl; skip) | ((with_reducible show WLd ..); (with_reducible apply wpA_load); exact rfl; (first | ((with_reducible apply St.cellI hS); (focus repeat constructor); exact rfl) | assumption); kernel_rfl) | ((with_reducible show WSt ..); (with_reducible apply wpA_store1I hS); exact rfl; (focus repeat constructor); exact rfl; exact rfl; exact rfl; exact rfl; kernel_rfl; intro wx hS; (try simp only [Act.put, List.setIfInBounds_toArray, List.set_cons_zero, List.set_cons_succ]); (try simp only [Act.eval, Array.getD_eq_getD_getElem?, List.getElem?_toArray, List.getElem?_cons_succ, List.getElem?_cons_zero, Option.getD_some, List.set_cons_succ, List.set_cons_zero, Value.cells, List.toList_toArray] at hS)) | ((with_reducible show WBx ..); (with_reducible apply wpA_box hS); exact rfl; exact rfl; intro _ wx hS; (try simp only [Act.put, List.setIfInBounds_toArray, List.set_cons_zero, List.set_cons_succ]); (try simp only [Act.eval, Array.getD_eq_getD_getElem?, List.getElem?_toArray, List.getElem?_cons_succ, List.getElem?_cons_zero, Option.getD_some, List.set_cons_succ, List.set_cons_zero, Value.cells, List.toList_toArray] at hS)))
              go_meet
              exact ⟨rfl, hS⟩
        · have hL : lastOf keep zs = 0 := by
            unfold lastOf
            rw [if_neg (by omega)]
          have HL0 := Lib.hid hL
          clear hL
          by_cases hc : (zs.length : Int) < keep
          · have hz : ¬ (0 < (zs.length : Int)) := by omega
            go_wp2_with (first | ((with_reducible show WGd ..); (with_reducible apply wpA_guard); exact rfl; skip) | ((with_reducible show WLd ..); (with_reducible apply wpA_load); exact rfl; (first | ((with_reducible apply St.cellI hS); (focus repeat constructor); exact rfl) | assumption); kernel_rfl) | ((with_reducible show WSt ..); (with_reducible apply wpA_store1I hS); exact rfl; (focus repeat constructor); exact rfl; exact rfl; exact rfl; exact rfl; kernel_rfl; intro wx hS; (try simp only [Act.put, List.setIfInBounds_toArray, List.set_cons_zero, List.set_cons_succ]); (try simp only [Act.eval, Array.getD_eq_getD_getElem?, List.getElem?_toArray, List.getElem?_cons_succ, List.getElem?_cons_zero, Option.getD_some, List.set_cons_succ, List.set_cons_zero, Value.cells, List.toList_toArray] at hS)) | ((with_reducible show WBx ..); (with_reducible apply wpA_box hS); exact rfl; exact rfl; intro _ wx hS; (try simp only [Act.put, List.setIfInBounds_toArray, List.set_cons_zero, List.set_cons_succ]); (try simp only [Act.eval, Array.getD_eq_getD_getElem?, List.getElem?_toArray, List.getElem?_cons_succ, List.getElem?_cons_zero, Option.getD_some, List.set_cons_succ, List.set_cons_zero, Value.cells, List.toList_toArray] at hS)))
            go_meet
            exact ⟨by rw [HL0.out], hS⟩
          · have hz : ¬ (0 < keep) := by omega
            go_wp2_with (first | ((with_reducible show WGd ..); (with_reducible apply wpA_guard); exact rfl; skip) | ((with_reducible show WLd ..); (with_reducible apply wpA_load); exact rfl; (first | ((with_reducible apply St.cellI hS); (focus repeat constructor); exact rfl) | assumption); kernel_rfl) | ((with_reducible show WSt ..); (with_reducible apply wpA_store1I hS); exact rfl; (focus repeat constructor); exact rfl; exact rfl; exact rfl; exact rfl; kernel_rfl; intro wx hS; (try simp only [Act.put, List.setIfInBounds_toArray, List.set_cons_zero, List.set_cons_succ]); (try simp only [Act.eval, Array.getD_eq_getD_getElem?, List.getElem?_toArray, List.getElem?_cons_succ, List.getElem?_cons_zero, Option.getD_some, List.set_cons_succ, List.set_cons_zero, Value.cells, List.toList_toArray] at hS)) | ((with_reducible show WBx ..); (with_reducible apply wpA_box hS); exact rfl; exact rfl; intro _ wx hS; (try simp only [Act.put, List.setIfInBounds_toArray, List.set_cons_zero, List.set_cons_succ]); (try simp only [Act.eval, Array.getD_eq_getD_getElem?, List.getElem?_toArray, List.getElem?_cons_succ, List.getElem?_cons_zero, Option.getD_some, List.set_cons_succ, List.set_cons_zero, Value.cells, List.toList_toArray] at hS)))
            go_meet
            exact ⟨by rw [HL0.out], hS⟩
      case rest =>
        obtain ⟨rfl, hS⟩ := hcut
        generalize hlast : lastOf keep zs = last at hS
        have HLast := Lib.hid hlast
        clear hlast
        go_wp2_with (first | ((with_reducible show WGd ..); (with_reducible apply wpA_guard); exact rfl; skip) | ((with_reducible show wpList _ _ _ (⟨_, .range _ _, _, _, _, none⟩ :: _) _ _); (with_reducible apply wpA_range hS 2); exact rfl; exact rfl; exact Try.underlying49; intro r2 wx hS; (try simp only [Act.put, List.setIfInBounds_toArray, List.set_cons_zero, List.set_cons_succ])) | ((with_reducible show WLd ..); (with_reducible apply wpA_load); exact rfl; (first | ((with_reducible apply St.cellI hS); (focus repeat constructor); exact rfl) | assumption); kernel_rfl) | ((with_reducible show WSt ..); (with_reducible apply wpA_store1I hS); exact rfl; (focus repeat constructor); exact rfl; exact rfl; exact rfl; exact rfl; kernel_rfl; intro wx hS; (try simp only [Act.put, List.setIfInBounds_toArray, List.set_cons_zero, List.set_cons_succ]); (try simp only [Act.eval, Array.getD_eq_getD_getElem?, List.getElem?_toArray, List.getElem?_cons_succ, List.getElem?_cons_zero, Option.getD_some, List.set_cons_succ, List.set_cons_zero, Value.cells, List.toList_toArray] at hS)) | ((with_reducible show WBx ..); (with_reducible apply wpA_box hS); exact rfl; exact rfl; intro _ wx hS; (try simp only [Act.put, List.setIfInBounds_toArray, List.set_cons_zero, List.set_cons_succ]); (try simp only [Act.eval, Array.getD_eq_getD_getElem?, List.getElem?_toArray, List.getElem?_cons_succ, List.getElem?_cons_zero, Option.getD_some, List.set_cons_succ, List.set_cons_zero, Value.cells, List.toList_toArray] at hS)))
        have hlb : 0 ≤ last ∧ last ≤ 4611686018427387904 := by
          rcases lastOf_mem keep zs with h | h
          · rw [HLast.out] at h; omega
          · rw [HLast.out] at h
            have h1 := (hzs.trans (hp.flatMap_right _)).subset h
            obtain ⟨z, hz, hc⟩ := List.mem_flatMap.1 h1
            have h2 := hcl z.1 (by rw [HL.out]; exact List.mem_map.2 ⟨z, hz, rfl⟩) last hc
            have := hok.clock1
            omega
        go_loopg [9] Z.length (fun gk _ wr => ∃ (Lz Dz : List ((ByteArray × FileS) × Nat)) (H2 : List Hp) (cur : Option (Value × Value)), (Lz ++ Dz).Perm Z ∧ Lz.length ≤ gk ∧ FZ (Lz ++ Dz.map (cutZ last)) H2 ∧
          St w0 wr (.cells g [.map (some m), .int .i64 σ.clock] 51 :: .mpi m .string (Z.map kvZ) r2 (Lz.map kvZ) cur :: (H2 ++ R)))
        case atStart => exact ⟨Z, [], H, none, by simp, Nat.le_refl _, by simpa using hZ, hS.sel [1, 2] 3 (by decide) (by decide) (by simp)⟩
        case round =>
          have HP := Lib.hid (hzs.trans (hp.flatMap_right _))
          clear hS hp hzs hgk
          obtain ⟨Lz, Dz, H2, cur, hp, hgk, hZ2, hS⟩ := hrel
          by_cases hL : Lz = []
          · subst hL
            go_wp2_with (first | ((with_reducible show WGd ..); (with_reducible apply wpA_guard); exact rfl; skip) | ((with_reducible show wpList _ _ _ (⟨_, .next _ _, _, _, _, none⟩ :: _) _ _); (with_reducible apply wpA_next hS 1); exact rfl; exact rfl; rotate_left; (intro j p wx hj; simp at hj); intro _; replace hS := hS.unrange 1 rfl; (try simp only [Act.put, List.setIfInBounds_toArray, List.set_cons_zero, List.set_cons_succ])) | ((with_reducible show WLd ..); (with_reducible apply wpA_load); exact rfl; (first | ((with_reducible apply St.cellI hS); (focus repeat constructor); exact rfl) | assumption); kernel_rfl) | ((with_reducible show WSt ..); (with_reducible apply wpA_store1I hS); exact rfl; (focus repeat constructor); exact rfl; exact rfl; exact rfl; exact rfl; kernel_rfl; intro wx hS; (try simp only [Act.put, List.setIfInBounds_toArray, List.set_cons_zero, List.set_cons_succ]); (try simp only [Act.eval, Array.getD_eq_getD_getElem?, List.getElem?_toArray, List.getElem?_cons_succ, List.getElem?_cons_zero, Option.getD_some, List.set_cons_succ, List.set_cons_zero, Value.cells, List.toList_toArray] at hS)) | ((with_reducible show WBx ..); (with_reducible apply wpA_box hS); exact rfl; exact rfl; intro _ wx hS; (try simp only [Act.put, List.setIfInBounds_toArray, List.set_cons_zero, List.set_cons_succ]); (try simp only [Act.eval, Array.getD_eq_getD_getElem?, List.getElem?_toArray, List.getElem?_cons_succ, List.getElem?_cons_zero, Option.getD_some, List.set_cons_succ, List.set_cons_zero, Value.cells, List.toList_toArray] at hS)))
            go_end0
            refine ⟨rfl, zs, ?_, ?_⟩
            · rw [HL.out, List.flatMap_map]
              exact HP.out
            · rw [HLast.out]
              simp only [List.nil_append] at hp hZ2
              obtain ⟨H3, h3, h4⟩ := hZ2.perm (hp.map (cutZ last))
              refine ⟨m, (Z.map (cutZ last)).map kvZ, H3, ?_, ?_⟩
              · have h5 := h3.toH
                rw [HL.out]
                simp only [List.map_map] at h5 ⊢
                exact h5
              · have e1 : (Z.map (cutZ last)).map kvZ = Z.map kvZ := by rw [List.map_map]; rfl
                rw [e1]
                exact hS.perm (.cons _ (.cons _ ((h4.append_right R).symm)))
          · have hne : Lz.map kvZ ≠ [] := by simpa using hL
            go_wp2_with (first | ((with_reducible show WGd ..); (with_reducible apply wpA_guard); exact rfl; skip) | ((with_reducible show wpList _ _ _ (⟨_, .next _ _, _, _, _, none⟩ :: _) _ _); (with_reducible apply wpA_next hS 1); exact rfl; exact rfl; (intro h0_; exact absurd h0_ hne); intro j p wx hj0 hS; obtain ⟨⟨⟨nm, f⟩, pf⟩, hj, rfl⟩ : ∃ z, Lz[j]? = some z ∧ kvZ z = p := (by simpa using hj0); obtain ⟨Hf, Hr, ⟨aof, capf, ao2, cap2, rfl⟩, hpf, hZr⟩ := hZ2.pick (i := j) (by rw [List.getElem?_append_left (List.getElem?_eq_some_iff.1 hj).1]; exact hj); dsimp only at hS hpf; replace hS := hS.perm (.cons _ (.cons _ ((hpf.append_right R).trans (by rw [List.append_assoc])))); (try simp only [Act.put, List.setIfInBounds_toArray, List.set_cons_zero, List.set_cons_succ])) | ((with_reducible show wpList _ _ _ (⟨_, .entry _, _, _, _, none⟩ :: _) _ _); (with_reducible apply wpA_entry hS 1); exact rfl; exact rfl; (try simp only [Act.put, List.setIfInBounds_toArray, List.set_cons_zero, List.set_cons_succ])) | ((with_reducible show WLd ..); (with_reducible apply wpA_load); exact rfl; (first | ((with_reducible apply St.cellI hS); (focus repeat constructor); exact rfl) | assumption); kernel_rfl) | ((with_reducible show WSt ..); (with_reducible apply wpA_store1I hS); exact rfl; (focus repeat constructor); exact rfl; exact rfl; exact rfl; exact rfl; kernel_rfl; intro wx hS; (try simp only [Act.put, List.setIfInBounds_toArray, List.set_cons_zero, List.set_cons_succ]); (try simp only [Act.eval, Array.getD_eq_getD_getElem?, List.getElem?_toArray, List.getElem?_cons_succ, List.getElem?_cons_zero, Option.getD_some, List.set_cons_succ, List.set_cons_zero, Value.cells, List.toList_toArray] at hS)) | ((with_reducible show WBx ..); (with_reducible apply wpA_box hS); exact rfl; exact rfl; intro _ wx hS; (try simp only [Act.put, List.setIfInBounds_toArray, List.set_cons_zero, List.set_cons_succ]); (try simp only [Act.eval, Array.getD_eq_getD_getElem?, List.getElem?_toArray, List.getElem?_cons_succ, List.getElem?_cons_zero, Option.getD_some, List.set_cons_succ, List.set_cons_zero, Value.cells, List.toList_toArray] at hS)))
            have hmem : (nm, f) ∈ σ.l := by
              rw [HL.out]
              exact List.mem_map.2 ⟨((nm, f), pf), hp.subset (List.mem_append_left _ (List.mem_of_getElem? hj)), rfl⟩
            have hso := hcm _ hmem
            have hfo := hok.files _ hmem
            dsimp only at hso hfo
            obtain ⟨hf1, hf2⟩ := hfo
            obtain ⟨cnt, hcnt⟩ : ∃ cnt, cnt = f.came.countP (· < last + 1) := ⟨_, rfl⟩
            have hcl2 : cnt ≤ f.came.length := by rw [hcnt]; exact List.countP_le_length
            have hf3 : f.sure + cnt ≤ f.b.length := by omega
            have hf4 : f.came.length ≤ 4194304 := by omega
            have HF1 := Lib.hid hf1
            clear hf1
            refine (hsearch w0 _ ao2 cap2 f.came (last + 1) _ (by omega) hso hS ⟨4, rfl⟩).mono ?_
            rw [← hcnt]
            have HCnt := Lib.hid hcnt
            clear hcnt
            rintro e wx ⟨rfl, hS⟩
            go_wp2_with (first | ((with_reducible show WGd ..); (with_reducible apply wpA_guard); exact rfl; skip) | ((with_reducible show WLd ..); (with_reducible apply wpA_load); exact rfl; (first | ((with_reducible apply St.cellI hS); (focus repeat constructor); exact rfl) | assumption); kernel_rfl) | ((with_reducible show WSt ..); (with_reducible apply wpA_store1I hS); exact rfl; (focus repeat constructor); exact rfl; exact rfl; exact rfl; exact rfl; kernel_rfl; intro wx hS; (try simp only [Act.put, List.setIfInBounds_toArray, List.set_cons_zero, List.set_cons_succ]); (try simp only [Act.eval, Array.getD_eq_getD_getElem?, List.getElem?_toArray, List.getElem?_cons_succ, List.getElem?_cons_zero, Option.getD_some, List.set_cons_succ, List.set_cons_zero, Value.cells, List.toList_toArray] at hS)) | ((with_reducible show WBx ..); (with_reducible apply wpA_box hS); exact rfl; exact rfl; intro _ wx hS; (try simp only [Act.put, List.setIfInBounds_toArray, List.set_cons_zero, List.set_cons_succ]); (try simp only [Act.eval, Array.getD_eq_getD_getElem?, List.getElem?_toArray, List.getElem?_cons_succ, List.getElem?_cons_zero, Option.getD_some, List.set_cons_succ, List.set_cons_zero, Value.cells, List.toList_toArray] at hS)))
            have hrh := row_head (hS.at_ 3 rfl)
            have haof : aof = none ∨ ∃ g, aof = some ⟨g, 0, none⟩ := hrh.imp (fun h => h.1) (fun h => h.1)
            have hcapf : f.b.length ≤ capf := by rcases hrh with h | h <;> omega
            clear hrh
            have hwr : IntKind.i64.wrap ((f.sure : Int) + (cnt : Int)) = (f.sure : Int) + (cnt : Int) := IntWalk.i64_in _ (by omega)
            refine wp_region_R (R := fun l w => (l.getD 14 true = false → w.cell? ⟨pf, 0, none⟩ = some (.slice aof f.b.length capf)) ∧ (w.cell? ⟨pf, 1, none⟩ = some (.int .i64 (f.sure : Nat)))) (by kernel_rfl) ?_
            replace hS := hS.drew
            refine wpAnyR_takeL (i := 0) (v := ?_) (F := (fun _ => True)) [] rfl (by kernel_rfl) (by kernel_rfl) (by kernel_rfl) (by kernel_rfl) (by kernel_rfl) (fun _ _ _ h => h) (fun l w => by simp only [getD_set_ne _ (show (0 : Nat) ≠ 14 by decide)]) (fun _ _ _ _ => trivial) rfl ?_ (by exact ⟨(fun _ => (by first | exact hS.cell 2 rfl _ rfl)), (by first | exact hS.cell 2 rfl _ rfl)⟩) ?_
            rotate_left
            · intro w hF_; go_simp; (first | done | (with_reducible rfl) | (refine (if_pos ?_).trans ?_; (focus omega); with_reducible rfl) | skip)
            simp only [Act.put, List.setIfInBounds_toArray, List.set_cons_zero, List.set_cons_succ]
            refine wpAnyR_takeL (i := 1) (v := ?_) (F := (fun _ => True)) [] rfl (by kernel_rfl) (by kernel_rfl) (by kernel_rfl) (by kernel_rfl) (by kernel_rfl) (fun _ _ _ h => h) (fun l w => by simp only [getD_set_ne _ (show (1 : Nat) ≠ 14 by decide)]) (fun _ _ _ _ => trivial) rfl ?_ (by exact ⟨(fun _ => (by first | exact hS.cell 2 rfl _ rfl)), (by first | exact hS.cell 2 rfl _ rfl)⟩) ?_
            rotate_left
            · intro w hF_; go_simp; (first | done | (with_reducible rfl) | (refine (if_pos ?_).trans ?_; (focus omega); with_reducible rfl) | skip)
            simp only [Act.put, List.setIfInBounds_toArray, List.set_cons_zero, List.set_cons_succ]
            refine wpAnyR_takeL (i := 2) (v := ?_) (F := (fun _ => True)) [] rfl (by kernel_rfl) (by kernel_rfl) (by kernel_rfl) (by kernel_rfl) (by kernel_rfl) (fun _ _ _ h => h) (fun l w => by simp only [getD_set_ne _ (show (2 : Nat) ≠ 14 by decide)]) (fun _ _ _ _ => trivial) rfl ?_ (by exact ⟨(fun _ => (by first | exact hS.cell 2 rfl _ rfl)), (by first | exact hS.cell 2 rfl _ rfl)⟩) ?_
            rotate_left
            · intro w hF_; go_simp; (first | done | (with_reducible rfl) | (refine (if_pos ?_).trans ?_; (focus omega); with_reducible rfl) | skip)
            simp only [Act.put, List.setIfInBounds_toArray, List.set_cons_zero, List.set_cons_succ]
            refine wpAnyR_takeL (i := 3) (v := ?_) (F := (fun _ => True)) [] rfl (by kernel_rfl) (by kernel_rfl) (by kernel_rfl) (by kernel_rfl) (by kernel_rfl) (fun _ _ _ h => h) (fun l w => by simp only [getD_set_ne _ (show (3 : Nat) ≠ 14 by decide)]) (fun _ _ _ _ => trivial) rfl ?_ (by exact ⟨(fun _ => (by first | exact hS.cell 2 rfl _ rfl)), (by first | exact hS.cell 2 rfl _ rfl)⟩) ?_
            rotate_left
            · intro w hF_; go_simp; (first | done | (with_reducible rfl) | (refine (if_pos ?_).trans ?_; (focus omega); with_reducible rfl) | skip)
            simp only [Act.put, List.setIfInBounds_toArray, List.set_cons_zero, List.set_cons_succ]
            refine wpAnyR_takeL (i := 4) (v := ?_) (F := (fun w => w.cell? ⟨pf, 0, none⟩ = some (.slice aof f.b.length capf))) [11, 14] rfl (by kernel_rfl) (by kernel_rfl) (by kernel_rfl) (by kernel_rfl) (by kernel_rfl) (fun _ _ _ h => h) (fun l w => by simp only [getD_set_ne _ (show (4 : Nat) ≠ 14 by decide)]) (fun _ _ hD_ hR_ => (hR_.1) (hD_ _ (by simp))) rfl ?_ (by exact ⟨(fun _ => (by first | exact hS.cell 2 rfl _ rfl)), (by first | exact hS.cell 2 rfl _ rfl)⟩) ?_
            rotate_left
            · intro w hF_; go_simp; (first | done | (with_reducible rfl) | (refine (if_pos ?_).trans ?_; (focus omega); with_reducible rfl) | skip)
            simp only [Act.put, List.setIfInBounds_toArray, List.set_cons_zero, List.set_cons_succ]
            refine wpAnyR_takeL (i := 5) (v := ?_) (F := (fun _ => True)) [] rfl (by kernel_rfl) (by kernel_rfl) (by kernel_rfl) (by kernel_rfl) (by kernel_rfl) (fun _ _ _ h => h) (fun l w => by simp only [getD_set_ne _ (show (5 : Nat) ≠ 14 by decide)]) (fun _ _ _ _ => trivial) rfl ?_ (by exact ⟨(fun _ => (by first | exact hS.cell 2 rfl _ rfl)), (by first | exact hS.cell 2 rfl _ rfl)⟩) ?_
            rotate_left
            · intro w hF_; go_simp; (first | done | (with_reducible rfl) | (refine (if_pos ?_).trans ?_; (focus omega); with_reducible rfl) | skip)
            simp only [Act.put, List.setIfInBounds_toArray, List.set_cons_zero, List.set_cons_succ]
            refine wpAnyR_takeL (i := 6) (v := ?_) (F := (fun _ => True)) [] rfl (by kernel_rfl) (by kernel_rfl) (by kernel_rfl) (by kernel_rfl) (by kernel_rfl) (fun _ _ _ h => h) (fun l w => by simp only [getD_set_ne _ (show (6 : Nat) ≠ 14 by decide)]) (fun _ _ _ _ => trivial) rfl ?_ (by exact ⟨(fun _ => (by first | exact hS.cell 2 rfl _ rfl)), (by first | exact hS.cell 2 rfl _ rfl)⟩) ?_
            rotate_left
            · intro w hF_; go_simp; (first | done | (with_reducible rfl) | (refine (if_pos ?_).trans ?_; (focus omega); with_reducible rfl) | skip)
            simp only [Act.put, List.setIfInBounds_toArray, List.set_cons_zero, List.set_cons_succ]
            refine wpAnyR_takeL (i := 7) (v := ?_) (F := (fun _ => True)) [] rfl (by kernel_rfl) (by kernel_rfl) (by kernel_rfl) (by kernel_rfl) (by kernel_rfl) (fun _ _ _ h => h) (fun l w => by simp only [getD_set_ne _ (show (7 : Nat) ≠ 14 by decide)]) (fun _ _ _ _ => trivial) rfl ?_ (by exact ⟨(fun _ => (by first | exact hS.cell 2 rfl _ rfl)), (by first | exact hS.cell 2 rfl _ rfl)⟩) ?_
            rotate_left
            · intro w hF_; go_simp; (first | done | (with_reducible rfl) | (refine (if_pos ?_).trans ?_; (focus omega); with_reducible rfl) | skip)
            simp only [Act.put, List.setIfInBounds_toArray, List.set_cons_zero, List.set_cons_succ]
            refine wpAnyR_takeL (i := 8) (v := ?_) (F := (fun w => w.cell? ⟨pf, 1, none⟩ = some (.int .i64 (f.sure : Nat)))) [] rfl (by kernel_rfl) (by kernel_rfl) (by kernel_rfl) (by kernel_rfl) (by kernel_rfl) (fun _ _ _ h => h) (fun l w => by simp only [getD_set_ne _ (show (8 : Nat) ≠ 14 by decide)]) (fun _ _ hD_ hR_ => hR_.2) rfl ?_ (by exact ⟨(fun _ => (by first | exact hS.cell 2 rfl _ rfl)), (by first | exact hS.cell 2 rfl _ rfl)⟩) ?_
            rotate_left
            · intro w hF_; go_simp; (first | done | (with_reducible rfl) | (refine (if_pos ?_).trans ?_; (focus omega); with_reducible rfl) | skip)
            simp only [Act.put, List.setIfInBounds_toArray, List.set_cons_zero, List.set_cons_succ]
            refine wpAnyR_takeL (i := 9) (v := ?_) (F := (fun _ => True)) [] rfl (by kernel_rfl) (by kernel_rfl) (by kernel_rfl) (by kernel_rfl) (by kernel_rfl) (fun _ _ _ h => h) (fun l w => by simp only [getD_set_ne _ (show (9 : Nat) ≠ 14 by decide)]) (fun _ _ _ _ => trivial) rfl ?_ (by exact ⟨(fun _ => (by first | exact hS.cell 2 rfl _ rfl)), (by first | exact hS.cell 2 rfl _ rfl)⟩) ?_
            rotate_left
            · intro w hF_; go_simp; (first | done | (with_reducible rfl) | (refine (if_pos ?_).trans ?_; (focus omega); with_reducible rfl) | skip)
            simp only [Act.put, List.setIfInBounds_toArray, List.set_cons_zero, List.set_cons_succ]
            refine wpAnyR_takeL (i := 10) (v := ?_) (F := (fun _ => True)) [] rfl (by kernel_rfl) (by kernel_rfl) (by kernel_rfl) (by kernel_rfl) (by kernel_rfl) (fun _ _ _ h => h) (fun l w => by simp only [getD_set_ne _ (show (10 : Nat) ≠ 14 by decide)]) (fun _ _ _ _ => trivial) rfl ?_ (by exact ⟨(fun _ => (by first | exact hS.cell 2 rfl _ rfl)), (by first | exact hS.cell 2 rfl _ rfl)⟩) ?_
            rotate_left
            · intro w hF_; go_simp; (first | done | (with_reducible rfl) | (refine (if_pos ?_).trans ?_; (focus omega); with_reducible rfl) | skip)
            simp only [Act.put, List.setIfInBounds_toArray, List.set_cons_zero, List.set_cons_succ]
            refine wpAnyR_takeL (i := 11) (v := .slice aof (f.sure + cnt) capf) (F := (fun _ => True)) [] rfl (by kernel_rfl) (by kernel_rfl) (by kernel_rfl) (by kernel_rfl) (by kernel_rfl) (fun _ _ _ h => h) (fun l w => by simp only [getD_set_ne _ (show (11 : Nat) ≠ 14 by decide)]) (fun _ _ _ _ => trivial) rfl ?_ (by exact ⟨(fun _ => (by first | exact hS.cell 2 rfl _ rfl)), (by first | exact hS.cell 2 rfl _ rfl)⟩) ?_
            · intro w hF_; apply execOp_sliceHi (K := f.sure + cnt); exact rfl; exact rfl; exact Try.underlying33; kernel_rfl; exact haof; (first | omega | exact hwr.trans (by omega)); omega
            simp only [Act.put, List.setIfInBounds_toArray, List.set_cons_zero, List.set_cons_succ]
            refine wpAnyR_takeL (i := 12) (v := ?_) (F := (fun _ => True)) [] rfl (by kernel_rfl) (by kernel_rfl) (by kernel_rfl) (by kernel_rfl) (by kernel_rfl) (fun _ _ _ h => h) (fun l w => by simp only [getD_set_ne _ (show (12 : Nat) ≠ 14 by decide)]) (fun _ _ _ _ => trivial) rfl ?_ (by exact ⟨(fun _ => (by first | exact hS.cell 2 rfl _ rfl)), (by first | exact hS.cell 2 rfl _ rfl)⟩) ?_
            rotate_left
            · intro w hF_; go_simp; (first | done | (with_reducible rfl) | (refine (if_pos ?_).trans ?_; (focus omega); with_reducible rfl) | skip)
            simp only [Act.put, List.setIfInBounds_toArray, List.set_cons_zero, List.set_cons_succ]
            refine wpAnyR_takeL (i := 13) (v := ?_) (F := (fun _ => True)) [] rfl (by kernel_rfl) (by kernel_rfl) (by kernel_rfl) (by kernel_rfl) (by kernel_rfl) (fun _ _ _ h => h) (fun l w => by simp only [getD_set_ne _ (show (13 : Nat) ≠ 14 by decide)]) (fun _ _ _ _ => trivial) rfl ?_ (by exact ⟨(fun _ => (by first | exact hS.cell 2 rfl _ rfl)), (by first | exact hS.cell 2 rfl _ rfl)⟩) ?_
            rotate_left
            · intro w hF_; go_simp; (first | done | (with_reducible rfl) | (refine (if_pos ?_).trans ?_; (focus omega); with_reducible rfl) | skip)
            simp only [Act.put, List.setIfInBounds_toArray, List.set_cons_zero, List.set_cons_succ]
            refine wpAnyR_oneL (i := 14) (by kernel_rfl) rfl rfl (fun K_ hK_ => ?_)
            ((with_reducible apply opA_store1I hS); exact rfl; (focus repeat constructor); exact rfl; exact rfl; exact rfl; exact rfl; kernel_rfl; intro wx hS; (try simp only [Act.eval, Array.getD_eq_getD_getElem?, List.getElem?_toArray, List.getElem?_cons_succ, List.getElem?_cons_zero, Option.getD_some, List.set_cons_succ, List.set_cons_zero, Value.cells, List.toList_toArray] at hS))
            refine hK_ _ _ (by exact ⟨(fun h => by cases h), (by first | exact hS.cell 2 rfl _ rfl)⟩) ?_; clear hK_ K_
            simp only [Act.put, List.setIfInBounds_toArray, List.set_cons_zero, List.set_cons_succ]
            refine wpAnyR_done (by kernel_rfl) ?_ _
            go_wp2_with (first | ((with_reducible show WGd ..); (with_reducible apply wpA_guard); exact rfl; skip) | ((with_reducible show WLd ..); (with_reducible apply wpA_load); exact rfl; (first | ((with_reducible apply St.cellI hS); (focus repeat constructor); exact rfl) | assumption); kernel_rfl) | ((with_reducible show WSt ..); (with_reducible apply wpA_store1I hS); exact rfl; (focus repeat constructor); exact rfl; exact rfl; exact rfl; exact rfl; kernel_rfl; intro wx hS; (try simp only [Act.put, List.setIfInBounds_toArray, List.set_cons_zero, List.set_cons_succ]); (try simp only [Act.eval, Array.getD_eq_getD_getElem?, List.getElem?_toArray, List.getElem?_cons_succ, List.getElem?_cons_zero, Option.getD_some, List.set_cons_succ, List.set_cons_zero, Value.cells, List.toList_toArray] at hS)) | ((with_reducible show WBx ..); (with_reducible apply wpA_box hS); exact rfl; exact rfl; intro _ wx hS; (try simp only [Act.put, List.setIfInBounds_toArray, List.set_cons_zero, List.set_cons_succ]); (try simp only [Act.eval, Array.getD_eq_getD_getElem?, List.getElem?_toArray, List.getElem?_cons_succ, List.getElem?_cons_zero, Option.getD_some, List.set_cons_succ, List.set_cons_zero, Value.cells, List.toList_toArray] at hS)))
            have hjl : j < Lz.length := (List.getElem?_eq_some_iff.1 hj).1
            go_roundg (Lz.eraseIdx j).length
            case measure => rw [List.length_eraseIdx_of_lt hjl]; omega
            case rel =>
              have elen : (f.b.take (f.sure + cnt)).length = f.sure + cnt := by rw [List.length_take]; omega
              have hcut : cutAt last f = ⟨f.b.take (f.sure + cnt), f.sure + cnt, []⟩ := by
                unfold cutAt
                rw [← HCnt.out, elen]
              have hS3 : St w0 wx (.cells g [.map (some m), .int .i64 σ.clock] 51 :: .mpi m .string (Z.map kvZ) r2 ((Lz.map kvZ).eraseIdx j) (some (kvZ ((nm, f), pf))) ::
                  ([.cells pf [.slice aof (f.sure + cnt) capf, .int .i64 ((f.sure + cnt : Nat) : Int), .slice none 0 0] 56, .row 5 1 aof (f.sure + cnt) capf ((f.b.map u8v).take ((f.sure + cnt) * 1)), .row 3 1 none 0 0 []] ++ (Hr ++ R))) :=
                (((hS.short 3 rfl (k := f.sure + cnt) hf3).nilRow 3 1).sel [1, 2, 3, 4, 0] 6 (by decide) (by decide) (by simp))
              have hfh : FileH pf (cutAt last f) [.cells pf [.slice aof (f.sure + cnt) capf, .int .i64 ((f.sure + cnt : Nat) : Int), .slice none 0 0] 56, .row 5 1 aof (f.sure + cnt) capf ((f.b.map u8v).take ((f.sure + cnt) * 1)), .row 3 1 none 0 0 []] := by
                refine ⟨aof, capf, none, 0, ?_⟩
                rw [hcut]
                simp only [elen, Nat.mul_one, List.map_take, List.length_nil, List.map_nil]
              have hZ3 : FZ (cutZ last ((nm, f), pf) :: (Lz ++ Dz.map (cutZ last)).eraseIdx j) (_ ++ Hr) := .cons hfh hZr
              have hp2 : (cutZ last ((nm, f), pf) :: (Lz ++ Dz.map (cutZ last)).eraseIdx j).Perm (Lz.eraseIdx j ++ (((nm, f), pf) :: Dz).map (cutZ last)) := by
                rw [List.eraseIdx_append_of_lt_length hjl]
                exact List.perm_middle.symm
              obtain ⟨H3, h3, h4⟩ := hZ3.perm hp2
              refine ⟨Lz.eraseIdx j, ((nm, f), pf) :: Dz, H3, some (kvZ ((nm, f), pf)), ?_, Nat.le_refl _, h3, ?_⟩
              · exact (List.perm_middle.trans ((perm_front Lz j _ hj).append_right Dz)).trans hp
              · rw [ChangeMaps.map_eraseIdx]
                exact hS3.perm (.cons _ (.cons _ (((h4.append_right R).trans (by rw [List.append_assoc])).symm)))
    · have hne : Lz.map kvZ ≠ [] := by simpa using hL
      go_wp2_with (first | ((with_reducible show WGd ..); (with_reducible apply wpA_guard); exact rfl; skip) | ((with_reducible show wpList _ _ _ (⟨_, .next _ _, _, _, _, none⟩ :: _) _ _); (with_reducible apply wpA_next hS 1); exact rfl; exact rfl; (intro h0_; exact absurd h0_ hne); intro j p wx hj0 hS; obtain ⟨⟨⟨nm, f⟩, pf⟩, hj, rfl⟩ : ∃ z, Lz[j]? = some z ∧ kvZ z = p := (by simpa using hj0); obtain ⟨Hf, Hr, ⟨aof, capf, ao2, cap2, rfl⟩, hpf⟩ := hZ.get (hp.subset (List.mem_append_left _ (List.mem_of_getElem? hj))); have hbd := total_le hp hzs hlenZ (List.mem_of_getElem? hj); replace hS := hS.perm (.cons _ (.cons _ (.cons _ ((hpf.append_right R).trans (by rw [List.append_assoc]))))); (try simp only [Act.put, List.setIfInBounds_toArray, List.set_cons_zero, List.set_cons_succ])) | ((with_reducible show wpList _ _ _ (⟨_, .entry _, _, _, _, none⟩ :: _) _ _); (with_reducible apply wpA_entry hS 1); exact rfl; exact rfl; (try simp only [Act.put, List.setIfInBounds_toArray, List.set_cons_zero, List.set_cons_succ])) | ((with_reducible show WAp ..); (with_reducible apply wpA_append hS 2 (z := .int .i64 0) (size := 1) (bytes := 8)); go_loud (exact rfl; exact rfl; exact rfl; exact Try.underlying54; exact .inr Try.underlying54; kernel_rfl; exact rfl; exact (Src.row (hS.at_ 5 rfl) (ints_oneCell _ _)); exact (by dsimp only at hbd ⊢; unfold maxLen; omega); exact (by dsimp only at hbd ⊢; omega); intro ao5 cap5 wx hS; (try simp only [Act.put, List.setIfInBounds_toArray, List.set_cons_zero, List.set_cons_succ]))) | ((with_reducible show WLd ..); (with_reducible apply wpA_load); exact rfl; (first | ((with_reducible apply St.cellI hS); (focus repeat constructor); exact rfl) | assumption); kernel_rfl) | ((with_reducible show WSt ..); (with_reducible apply wpA_store1I hS); exact rfl; (focus repeat constructor); exact rfl; exact rfl; exact rfl; exact rfl; kernel_rfl; intro wx hS; (try simp only [Act.put, List.setIfInBounds_toArray, List.set_cons_zero, List.set_cons_succ]); (try simp only [Act.eval, Array.getD_eq_getD_getElem?, List.getElem?_toArray, List.getElem?_cons_succ, List.getElem?_cons_zero, Option.getD_some, List.set_cons_succ, List.set_cons_zero, Value.cells, List.toList_toArray] at hS)) | ((with_reducible show WBx ..); (with_reducible apply wpA_box hS); exact rfl; exact rfl; intro _ wx hS; (try simp only [Act.put, List.setIfInBounds_toArray, List.set_cons_zero, List.set_cons_succ]); (try simp only [Act.eval, Array.getD_eq_getD_getElem?, List.getElem?_toArray, List.getElem?_cons_succ, List.getElem?_cons_zero, Option.getD_some, List.set_cons_succ, List.set_cons_zero, Value.cells, List.toList_toArray] at hS)))
      have hjl : j < Lz.length := (List.getElem?_eq_some_iff.1 hj).1
      go_roundg (Lz.eraseIdx j).length
      case measure => rw [List.length_eraseIdx_of_lt hjl]; omega
      case rel =>
        refine ⟨Lz.eraseIdx j, ((nm, f), pf) :: Dz, zs ++ f.came, ao5, cap5, some (kvZ ((nm, f), pf)), by simp, ?_, ?_, Nat.le_refl _, ?_⟩
        · exact (List.perm_middle.trans ((perm_front Lz j _ hj).append_right Dz)).trans hp
        · rw [List.flatMap_cons]
          exact (hzs.append_right f.came).trans List.perm_append_comm
        · have e1 : intsRow ao5 cap5 (zs ++ f.came) = .row 3 1 ao5 (zs.length + f.came.length) cap5 (zs.map (Value.int .i64) ++ f.came.map (Value.int .i64)) := by simp [intsRow]
          rw [e1, ChangeMaps.map_eraseIdx]
          exact hS.perm (.cons _ (.cons _ (.cons _ (((hpf.append_right R).trans (by rw [List.append_assoc])).symm))))
end Go.Proofs.Ytbigkonbdnbnpaa
