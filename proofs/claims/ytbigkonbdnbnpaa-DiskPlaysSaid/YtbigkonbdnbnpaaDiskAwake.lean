/-
  Chapter 5's example, walked: it answers true.
-/
import Derived.Test.YtbigkonbdnbnpaaDiskFun
namespace Go.Proofs.Ytbigkonbdnbnpaa
set_option linter.unusedVariables false
set_option linter.unusedSimpArgs false
open Go.RowKit

def aw1 : DiskS := ⟨[(⟨#[97]⟩, ⟨[120, 121], 0, [1, 2]⟩)], 2⟩
def aw2 : DiskS := ⟨[(⟨#[97]⟩, ⟨[120, 121], 2, []⟩)], 2⟩
def aw3 : DiskS := ⟨[(⟨#[97]⟩, ⟨[120, 121, 122], 2, [3]⟩)], 3⟩
def aw4 : DiskS := ⟨[(⟨#[97]⟩, ⟨[120, 121, 122], 2, [3]⟩), (⟨#[98]⟩, ⟨[119], 0, [4]⟩)], 4⟩
def aw5 : DiskS := ⟨[(⟨#[97]⟩, ⟨[120, 121, 122], 3, []⟩), (⟨#[98]⟩, ⟨[], 0, []⟩)], 4⟩

theorem aw5_eq : crashD 1 aw4 = aw5 := by
  have h : lastOf 1 [3, 4] = 3 := by rw [lastOf_sorted (by decide)]; rfl
  have e : List.flatMap (fun x : ByteArray × FileS => x.2.came) aw4.l = [3, 4] := rfl
  unfold crashD
  rw [e, h]
  rfl

theorem aw_good1 : aw1.good := good_append good_new ⟨#[97]⟩ ⟨#[120, 121]⟩
theorem aw_good2 : aw2.good := good_sync aw_good1 ⟨#[97]⟩
theorem aw_good3 : aw3.good := good_append aw_good2 ⟨#[97]⟩ ⟨#[122]⟩
theorem aw_good4 : aw4.good := good_append aw_good3 ⟨#[98]⟩ ⟨#[119]⟩
theorem aw_good5 : aw5.good := aw5_eq ▸ good_crash aw_good4 1

section
variable {w0 w : World} {R : List Hp} {g : Nat}
theorem aw_c1 (hD : DiskSt w0 w g ⟨[], 0⟩ R) : Calls Try.prog 10 #[.pointer (some ⟨g, 0, none⟩), .string ⟨#[97]⟩, .string ⟨#[120, 121]⟩] w fun e w' => e = .returned (.int .i64 0) ∧ DiskSt w0 w' g aw1 R :=
  append_d w0 w R g _ _ _ hD good_new (by decide)
theorem aw_c2 (hD : DiskSt w0 w g aw1 R) : Calls Try.prog 11 #[.pointer (some ⟨g, 0, none⟩), .string ⟨#[97]⟩] w fun e w' => e = .returned (.int .i64 0) ∧ DiskSt w0 w' g aw2 R :=
  sync_d w0 w R g _ _ hD
theorem aw_c3 (hD : DiskSt w0 w g aw2 R) : Calls Try.prog 10 #[.pointer (some ⟨g, 0, none⟩), .string ⟨#[97]⟩, .string ⟨#[122]⟩] w fun e w' => e = .returned (.int .i64 0) ∧ DiskSt w0 w' g aw3 R :=
  append_d w0 w R g _ _ _ hD aw_good2 (by decide)
theorem aw_c4 (hD : DiskSt w0 w g aw3 R) : Calls Try.prog 10 #[.pointer (some ⟨g, 0, none⟩), .string ⟨#[98]⟩, .string ⟨#[119]⟩] w fun e w' => e = .returned (.int .i64 0) ∧ DiskSt w0 w' g aw4 R :=
  append_d w0 w R g _ _ _ hD aw_good3 (by decide)
theorem aw_c5 (hD : DiskSt w0 w g aw4 R) : Calls Try.prog 14 #[.pointer (some ⟨g, 0, none⟩), .string ⟨#[97]⟩] w fun e w' => e = .returned (.int .i64 1) ∧ w = w' :=
  unsynced_d w0 w R g _ _ hD
theorem aw_c6 (hD : DiskSt w0 w g aw4 R) : Calls Try.prog 12 #[.pointer (some ⟨g, 0, none⟩), .int .i64 1] w fun e w' => e = .returned (.tuple #[]) ∧ DiskSt w0 w' g aw5 R :=
  aw5_eq ▸ crash_d w0 w R g _ 1 hD aw_good4 (by decide) (by decide)
theorem aw_c7 (hD : DiskSt w0 w g aw5 R) : Calls Try.prog 13 #[.pointer (some ⟨g, 0, none⟩), .string ⟨#[97]⟩] w fun e w' => e = .returned (.tuple #[.string ⟨#[120, 121, 122]⟩, .int .i64 0]) ∧ w = w' :=
  read_d w0 w R g _ _ hD
theorem aw_c8 (hD : DiskSt w0 w g aw5 R) : Calls Try.prog 13 #[.pointer (some ⟨g, 0, none⟩), .string ⟨#[98]⟩] w fun e w' => e = .returned (.tuple #[.string ⟨#[]⟩, .int .i64 0]) ∧ w = w' :=
  read_d w0 w R g _ _ hD
theorem aw_c9 (hD : DiskSt w0 w g aw5 R) : Calls Try.prog 13 #[.pointer (some ⟨g, 0, none⟩), .string ⟨#[99]⟩] w fun e w' => e = .returned (.tuple #[.string ⟨#[]⟩, .int .i64 5]) ∧ w = w' :=
  read_d w0 w R g _ _ hD
theorem aw_c10 (hD : DiskSt w0 w g aw5 R) : Calls Try.prog 10 #[.pointer (some ⟨g, 0, none⟩), .string ⟨#[]⟩, .string ⟨#[120]⟩] w fun e w' => e = .returned (.int .i64 1) ∧ DiskSt w0 w' g aw5 R :=
  append_d w0 w R g _ _ _ hD aw_good5 (by decide)
end

theorem DiskSt.rest {w0 w : World} {g : Nat} {σ : DiskS} {R : List Hp} (h : DiskSt w0 w g σ R) : St w0 w R := by
  obtain ⟨m, kvs, H, _, hS⟩ := h
  exact hS.tail.tail.dropA

set_option maxRecDepth 100000 in
set_option maxHeartbeats 2000000 in
theorem awake_c (w0 w : World) (H : List Hp) (hS : St w0 w H) : Calls Try.prog 8 #[] w fun e w' => e = .returned (.bool true) ∧ St w0 w' H := by
  go_enter Try.func8, Try.ntmps8
  go_wp2_with (first | ((with_reducible show WGd ..); (with_reducible apply wpA_guard); exact rfl; skip) | (go_at_call 9; refine (new_c w0 _ H hS).mono ?_; rintro _ _ ⟨g, rfl, hD⟩) | (go_at_call 10; with_reducible refine (aw_c1 hD).mono ?_; rintro _ _ ⟨rfl, hD1⟩) | (go_at_call 11; with_reducible refine (aw_c2 hD1).mono ?_; rintro _ _ ⟨rfl, hD2⟩) | (go_at_call 10; with_reducible refine (aw_c3 hD2).mono ?_; rintro _ _ ⟨rfl, hD3⟩) | (go_at_call 10; with_reducible refine (aw_c4 hD3).mono ?_; rintro _ _ ⟨rfl, hD4⟩) | (go_at_call 14; with_reducible refine (aw_c5 hD4).mono ?_; rintro _ _ ⟨rfl, rfl⟩) | (go_at_call 12; with_reducible refine (aw_c6 hD4).mono ?_; rintro _ _ ⟨rfl, hD5⟩) | (go_at_call 13; with_reducible refine (aw_c7 hD5).mono ?_; rintro _ _ ⟨rfl, rfl⟩) | (go_at_call 13; with_reducible refine (aw_c8 hD5).mono ?_; rintro _ _ ⟨rfl, rfl⟩) | (go_at_call 13; with_reducible refine (aw_c9 hD5).mono ?_; rintro _ _ ⟨rfl, rfl⟩) | (go_at_call 10; with_reducible refine (aw_c10 hD5).mono ?_; rintro _ _ ⟨rfl, hD6⟩) | ((with_reducible show WLd ..); (with_reducible apply wpA_load); exact rfl; (first | ((with_reducible apply St.cellI hS); (focus repeat constructor); exact rfl) | assumption); kernel_rfl) | ((with_reducible show WSt ..); (with_reducible apply wpA_store1I hS); exact rfl; (focus repeat constructor); exact rfl; exact rfl; exact rfl; exact rfl; kernel_rfl; intro wx hS; (try simp only [Act.put, List.setIfInBounds_toArray, List.set_cons_zero, List.set_cons_succ]); (try simp only [Act.eval, Array.getD_eq_getD_getElem?, List.getElem?_toArray, List.getElem?_cons_succ, List.getElem?_cons_zero, Option.getD_some, List.set_cons_succ, List.set_cons_zero, Value.cells, List.toList_toArray] at hS)) | ((with_reducible show WBx ..); (with_reducible apply wpA_box hS); exact rfl; exact rfl; intro _ wx hS; (try simp only [Act.put, List.setIfInBounds_toArray, List.set_cons_zero, List.set_cons_succ]); (try simp only [Act.eval, Array.getD_eq_getD_getElem?, List.getElem?_toArray, List.getElem?_cons_succ, List.getElem?_cons_zero, Option.getD_some, List.set_cons_succ, List.set_cons_zero, Value.cells, List.toList_toArray] at hS)))
  go_ret
  exact ⟨rfl, hD6.rest⟩
end Go.Proofs.Ytbigkonbdnbnpaa
