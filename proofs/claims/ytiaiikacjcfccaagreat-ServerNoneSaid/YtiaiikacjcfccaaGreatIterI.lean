/-
  DERIVED: THE SHELF's CONTRACTS AT THIS DUMP, IN PLAIN WORDS (tools/lay-plain.mjs out of 'YtiaiikacjcfccaaGreatIterI0.lean', which tools/lay-shelf.mjs wrote): THE SAME DECLARATIONS UNDER THE SAME NAMES: 'import', 'namespace', 'open', 'def', 'theorem' AND NOTHING ELSE: no command of the shelf's: FOR A HAND-IN. Each laying: the table of numbers ('.._ren') and one theorem, a field a fact of the dump's own or the kernel's comparison; each contract: ONE APPLICATION.
-/
import Derived.Shelf.SlIterI.Nil
import Derived.Shelf.SortM.Plain
import Derived.Shelf.SortM.SortNone
import Derived.Ground.GgzProg
import Derived.Ground.SlgmProg
import Derived.Test.YtiaiikacjcfccaaGreatProg
namespace Go.Proofs
open Go.Shelf
def Tryz.ikeys215_ren : Go.Shelf.Ren := ⟨fun | 7 => 215 | 10 => 312 | n => n, fun | 23 => 283 | 26 => 3 | 3 => 301 | 28 => 298 | 0 => 0 | 27 => 297 | 33 => 120 | 4 => 4 | n => n, fun | n => n⟩
theorem Tryz.ikeys215 : Go.Proofs.SlLaysZI.n7 Tryz.prog Tryz.ikeys215_ren := {
  mixed := by kernel_rfl
  f7 := ⟨Tryz.f215.name, by decide, Tryz.func215.trans (congrArg some (by kernel_rfl))⟩
  f10 := ⟨Tryz.f312.name, by decide, Tryz.func312.trans (congrArg some (by kernel_rfl))⟩
  t0 := Tryz.underlying0
  a0 := Tryz.isAgg0
  z0 := Tryz.sizeOf0
  v0 := Tryz.zeroValue0
  t4 := Tryz.underlying4
  a4 := Tryz.isAgg4
  z4 := Tryz.sizeOf4
  v4 := Tryz.zeroValue4
  t23 := Tryz.underlying283
  a23 := Tryz.isAgg283
  z23 := Tryz.sizeOf283
  v23 := Tryz.zeroValue283
  t26 := Tryz.underlying3
  a26 := Tryz.isAgg3
  z26 := Tryz.sizeOf3
  v26 := Tryz.zeroValue3
  t27 := Tryz.underlying297
  a27 := Tryz.isAgg297
  z27 := Tryz.sizeOf297
  v27 := Tryz.zeroValue297
  t28 := Tryz.underlying298
  a28 := Tryz.isAgg298
  z28 := Tryz.sizeOf298
  v28 := Tryz.zeroValue298
  t33 := Tryz.underlying120
  a33 := Tryz.isAgg120
  z33 := Tryz.sizeOf120
  v33 := Tryz.zeroValue120 }
def Tryz.isorted214_ren : Go.Shelf.Ren := ⟨fun | 6 => 214 | 8 => 311 | 9 => 110 | 11 => 368 | 13 => 240 | 12 => 239 | 23 => 336 | 24 => 337 | 14 => 327 | 15 => 328 | 16 => 329 | 17 => 330 | 18 => 331 | 19 => 332 | 20 => 333 | 21 => 334 | 22 => 335 | 25 => 382 | 26 => 383 | 27 => 384 | 28 => 385 | 29 => 386 | 30 => 387 | 31 => 419 | n => n, fun | 26 => 3 | 28 => 298 | 24 => 22 | 0 => 0 | 3 => 3 | 37 => 235 | 48 => 408 | 50 => 37 | 4 => 4 | 40 => 402 | 39 => 401 | 45 => 194 | 5 => 5 | 9 => 9 | 51 => 439 | 55 => 442 | 57 => 457 | 58 => 186 | 33 => 120 | n => n, fun | n => n⟩
theorem Tryz.isorted214 : Go.Proofs.SlLaysZI.n6 Tryz.prog Tryz.isorted214_ren := {
  mixed := by kernel_rfl
  f6 := ⟨Tryz.f214.name, by decide, Tryz.func214.trans (congrArg some (by kernel_rfl))⟩
  f8 := ⟨Tryz.f311.name, by decide, Tryz.func311.trans (congrArg some (by kernel_rfl))⟩
  f11 := ⟨Tryz.f368.name, by decide, Tryz.func368.trans (congrArg some (by kernel_rfl))⟩
  t0 := Tryz.underlying0
  a0 := Tryz.isAgg0
  z0 := Tryz.sizeOf0
  v0 := Tryz.zeroValue0
  t24 := Tryz.underlying22
  a24 := Tryz.isAgg22
  z24 := Tryz.sizeOf22
  v24 := Tryz.zeroValue22
  t26 := Tryz.underlying3
  a26 := Tryz.isAgg3
  z26 := Tryz.sizeOf3
  v26 := Tryz.zeroValue3
  t28 := Tryz.underlying298
  a28 := Tryz.isAgg298
  z28 := Tryz.sizeOf298
  v28 := Tryz.zeroValue298
  i26 := by kernel_rfl }
def Tryz.isort110_ren : Go.Shelf.Ren := ⟨fun | 5 => 110 | 8 => 240 | 7 => 239 | 19 => 336 | 20 => 337 | 10 => 327 | 11 => 328 | 12 => 329 | 13 => 330 | 14 => 331 | 15 => 332 | 16 => 333 | 17 => 334 | 18 => 335 | 30 => 382 | 31 => 383 | 32 => 384 | 33 => 385 | 34 => 386 | 35 => 387 | 40 => 419 | n => n, fun | 23 => 22 | 25 => 3 | 3 => 3 | 32 => 235 | 22 => 22 | 0 => 0 | 44 => 408 | 46 => 37 | 4 => 4 | 36 => 402 | 35 => 401 | 41 => 194 | 5 => 5 | 9 => 9 | 53 => 439 | 57 => 442 | 63 => 457 | 64 => 186 | n => n, fun | n => n⟩
theorem Tryz.isort110 : Go.Proofs.SlLaysM.n5 Tryz.prog Tryz.isort110_ren := {
  mixed := by kernel_rfl
  f5 := ⟨Tryz.f110.name, by decide, Tryz.func110.trans (congrArg some (by kernel_rfl))⟩
  f7 := ⟨Tryz.f239.name, by decide, Tryz.func239.trans (congrArg some (by kernel_rfl))⟩
  f8 := Tryz.func240.trans (congrArg some (by kernel_rfl))
  f10 := ⟨Tryz.f327.name, by decide, Tryz.func327.trans (congrArg some (by kernel_rfl))⟩
  f11 := ⟨Tryz.f328.name, by decide, Tryz.func328.trans (congrArg some (by kernel_rfl))⟩
  f12 := ⟨Tryz.f329.name, by decide, Tryz.func329.trans (congrArg some (by kernel_rfl))⟩
  f13 := ⟨Tryz.f330.name, by decide, Tryz.func330.trans (congrArg some (by kernel_rfl))⟩
  f14 := ⟨Tryz.f331.name, by decide, Tryz.func331.trans (congrArg some (by kernel_rfl))⟩
  f15 := ⟨Tryz.f332.name, by decide, Tryz.func332.trans (congrArg some (by kernel_rfl))⟩
  f16 := ⟨Tryz.f333.name, by decide, Tryz.func333.trans (congrArg some (by kernel_rfl))⟩
  f17 := ⟨Tryz.f334.name, by decide, Tryz.func334.trans (congrArg some (by kernel_rfl))⟩
  f18 := ⟨Tryz.f335.name, by decide, Tryz.func335.trans (congrArg some (by kernel_rfl))⟩
  f19 := Tryz.func336.trans (congrArg some (by kernel_rfl))
  f20 := Tryz.func337.trans (congrArg some (by kernel_rfl))
  f30 := ⟨Tryz.f382.name, by decide, Tryz.func382.trans (congrArg some (by kernel_rfl))⟩
  f31 := Tryz.func383.trans (congrArg some (by kernel_rfl))
  f32 := Tryz.func384.trans (congrArg some (by kernel_rfl))
  f33 := ⟨Tryz.f385.name, by decide, Tryz.func385.trans (congrArg some (by kernel_rfl))⟩
  f34 := ⟨Tryz.f386.name, by decide, Tryz.func386.trans (congrArg some (by kernel_rfl))⟩
  f35 := ⟨Tryz.f387.name, by decide, Tryz.func387.trans (congrArg some (by kernel_rfl))⟩
  f40 := ⟨Tryz.f419.name, by decide, Tryz.func419.trans (congrArg some (by kernel_rfl))⟩
  t0 := Tryz.underlying0
  a0 := Tryz.isAgg0
  z0 := Tryz.sizeOf0
  v0 := Tryz.zeroValue0
  t3 := Tryz.underlying3
  a3 := Tryz.isAgg3
  z3 := Tryz.sizeOf3
  v3 := Tryz.zeroValue3
  t4 := Tryz.underlying4
  a4 := Tryz.isAgg4
  z4 := Tryz.sizeOf4
  v4 := Tryz.zeroValue4
  t5 := Tryz.underlying5
  a5 := Tryz.isAgg5
  z5 := Tryz.sizeOf5
  v5 := Tryz.zeroValue5
  t9 := Tryz.underlying9
  a9 := Tryz.isAgg9
  z9 := Tryz.sizeOf9
  v9 := Tryz.zeroValue9
  t22 := Tryz.underlying22
  a22 := Tryz.isAgg22
  z22 := Tryz.sizeOf22
  v22 := Tryz.zeroValue22
  t23 := Tryz.underlying22
  a23 := Tryz.isAgg22
  z23 := Tryz.sizeOf22
  v23 := Tryz.zeroValue22
  t25 := Tryz.underlying3
  a25 := Tryz.isAgg3
  z25 := Tryz.sizeOf3
  v25 := Tryz.zeroValue3
  t32 := Tryz.underlying235
  a32 := Tryz.isAgg235
  z32 := Tryz.sizeOf235
  v32 := Tryz.zeroValue235
  t35 := Tryz.underlying401
  a35 := Tryz.isAgg401
  z35 := Tryz.sizeOf401
  v35 := Tryz.zeroValue401
  t36 := Tryz.underlying402
  a36 := Tryz.isAgg402
  z36 := Tryz.sizeOf402
  v36 := Tryz.zeroValue402
  t41 := Tryz.underlying194
  a41 := Tryz.isAgg194
  z41 := Tryz.sizeOf194
  v41 := Tryz.zeroValue194
  t44 := Tryz.underlying408
  a44 := Tryz.isAgg408
  z44 := Tryz.sizeOf408
  v44 := Tryz.zeroValue408
  t46 := Tryz.underlying37
  a46 := Tryz.isAgg37
  z46 := Tryz.sizeOf37
  v46 := Tryz.zeroValue37
  t53 := Tryz.underlying439
  a53 := Tryz.isAgg439
  z53 := Tryz.sizeOf439
  v53 := Tryz.zeroValue439
  t57 := Tryz.underlying442
  a57 := Tryz.isAgg442
  z57 := Tryz.sizeOf442
  v57 := Tryz.zeroValue442
  t63 := Tryz.underlying457
  a63 := Tryz.isAgg457
  z63 := Tryz.sizeOf457
  v63 := Tryz.zeroValue457
  t64 := Tryz.underlying186
  a64 := Tryz.isAgg186
  z64 := Tryz.sizeOf186
  v64 := Tryz.zeroValue186 }
def Tryz.ikeys238_ren : Go.Shelf.Ren := ⟨fun | 7 => 238 | 10 => 326 | n => n, fun | 23 => 330 | 26 => 3 | 3 => 331 | 28 => 298 | 0 => 0 | 27 => 297 | 33 => 120 | 4 => 4 | n => n, fun | n => n⟩
theorem Tryz.ikeys238 : Go.Proofs.SlLaysZI.n7 Tryz.prog Tryz.ikeys238_ren := {
  mixed := by kernel_rfl
  f7 := ⟨Tryz.f238.name, by decide, Tryz.func238.trans (congrArg some (by kernel_rfl))⟩
  f10 := ⟨Tryz.f326.name, by decide, Tryz.func326.trans (congrArg some (by kernel_rfl))⟩
  t0 := Tryz.underlying0
  a0 := Tryz.isAgg0
  z0 := Tryz.sizeOf0
  v0 := Tryz.zeroValue0
  t4 := Tryz.underlying4
  a4 := Tryz.isAgg4
  z4 := Tryz.sizeOf4
  v4 := Tryz.zeroValue4
  t23 := Tryz.underlying330
  a23 := Tryz.isAgg330
  z23 := Tryz.sizeOf330
  v23 := Tryz.zeroValue330
  t26 := Tryz.underlying3
  a26 := Tryz.isAgg3
  z26 := Tryz.sizeOf3
  v26 := Tryz.zeroValue3
  t27 := Tryz.underlying297
  a27 := Tryz.isAgg297
  z27 := Tryz.sizeOf297
  v27 := Tryz.zeroValue297
  t28 := Tryz.underlying298
  a28 := Tryz.isAgg298
  z28 := Tryz.sizeOf298
  v28 := Tryz.zeroValue298
  t33 := Tryz.underlying120
  a33 := Tryz.isAgg120
  z33 := Tryz.sizeOf120
  v33 := Tryz.zeroValue120 }
open Go.RowKit Go.Maps Go.Sort
theorem Tryz.isorts214 (m : Nat) : AnyZI.SortsIn Tryz.prog Tryz.isorted214_ren Fence.wide m :=
  ⟨fun blk off cap ss W hH hblk hsz => callsIn_wide.2 (AnyM.slices_Sort_int Tryz.isort110 blk off cap ss W hH hblk hsz),
   fun p cap W => callsIn_wide.2 (AnyM.slices_Sort_int_none Tryz.isort110 p cap W)⟩

theorem Tryz.imaps_Keys_215 (mb : Option Nat) (W : World) : CallsIn Fence.wide 5 Tryz.prog 215 #[.map mb] W fun e w' => e = .returned (.func (.func 312) #[] #[.pointer (some ⟨W.heap.size, 0, none⟩)]) ∧ w' = W.alloc (.cells #[.map mb] 283) :=
  AnyZI.keys_in Tryz.ikeys215 Fence.wide 5 trivial rfl mb W

set_option maxHeartbeats 1000000 in
theorem Tryz.islices_Sorted_keys_214_215 {H : Type} (b nn : Nat) (D0 : DataW H) (R : Value → Option (DataW H × List MemPlace)) (w : World) (hown : w.ownsMap Tryz.prog 3 R b nn D0) (hmax : Maps.size D0 ≤ maxLen) (hbytes : Maps.size D0 * 8 ≤ 140737488355328) :
    CallsIn Fence.wide 5 Tryz.prog 214 #[.func (.func 312) #[] #[.pointer (some ⟨w.heap.size, 0, none⟩)]] (w.alloc (.cells #[.map (some b)] 283)) fun e w' => ∃ (v : Value) (ss : List Int), e = .returned v ∧ ss.Perm (intKeys D0) ∧
      w'.ownsRow (w.alloc (.cells #[.map (some b)] 283)).heap.size 3 1 v ss.length ((ss.mergeSort (fun x y => decide (x ≤ y))).map encZ) ∧ (v = .slice none 0 0 ↔ ss = []) ∧ Below (w.alloc (.cells #[.map (some b)] 283)).heap.size (w.alloc (.cells #[.map (some b)] 283)) w' := by
  have hbl := hown.lt
  have hseq : SeqGives Fence.wide 2 Tryz.prog 312 #[.pointer (some ⟨w.heap.size, 0, none⟩)] encZ (fun ss => ss.Perm (intKeys D0)) (Maps.size D0) (w.alloc (.cells #[.map (some b)] 283)) :=
    AnyZI.keys_gives (ρ := Tryz.ikeys215_ren) { Tryz.ikeys215 with } Fence.wide _ trivial rfl (by omega) w.heap.size b nn D0 _ (by simp) (by simp) (by
      obtain ⟨es, clock, hb, Ft, hs, hD⟩ := hown
      exact ⟨es, clock, (Below.heap_alloc _ _ b hbl).trans hb, Ft, hs, hD⟩)
  exact AnyZI.sorted_in Tryz.isorted214 Fence.wide 5 trivial trivial trivial trivial rfl (by omega) (Tryz.isorts214 _) (enters_of Tryz.func110 (by kernel_rfl) rfl) 312 #[.pointer (some ⟨w.heap.size, 0, none⟩)] trivial (enters_of Tryz.func312 (by kernel_rfl) rfl) _ _ hmax hbytes _ hseq

theorem Tryz.imaps_Keys_238 (mb : Option Nat) (W : World) : CallsIn Fence.wide 5 Tryz.prog 238 #[.map mb] W fun e w' => e = .returned (.func (.func 326) #[] #[.pointer (some ⟨W.heap.size, 0, none⟩)]) ∧ w' = W.alloc (.cells #[.map mb] 330) :=
  AnyZI.keys_in Tryz.ikeys238 Fence.wide 5 trivial rfl mb W

set_option maxHeartbeats 1000000 in
theorem Tryz.islices_Sorted_keys_214_238 {H : Type} (b nn : Nat) (D0 : DataW H) (R : Value → Option (DataW H × List MemPlace)) (w : World) (hown : w.ownsMap Tryz.prog 3 R b nn D0) (hmax : Maps.size D0 ≤ maxLen) (hbytes : Maps.size D0 * 8 ≤ 140737488355328) :
    CallsIn Fence.wide 5 Tryz.prog 214 #[.func (.func 326) #[] #[.pointer (some ⟨w.heap.size, 0, none⟩)]] (w.alloc (.cells #[.map (some b)] 330)) fun e w' => ∃ (v : Value) (ss : List Int), e = .returned v ∧ ss.Perm (intKeys D0) ∧
      w'.ownsRow (w.alloc (.cells #[.map (some b)] 330)).heap.size 3 1 v ss.length ((ss.mergeSort (fun x y => decide (x ≤ y))).map encZ) ∧ (v = .slice none 0 0 ↔ ss = []) ∧ Below (w.alloc (.cells #[.map (some b)] 330)).heap.size (w.alloc (.cells #[.map (some b)] 330)) w' := by
  have hbl := hown.lt
  have hseq : SeqGives Fence.wide 2 Tryz.prog 326 #[.pointer (some ⟨w.heap.size, 0, none⟩)] encZ (fun ss => ss.Perm (intKeys D0)) (Maps.size D0) (w.alloc (.cells #[.map (some b)] 330)) :=
    AnyZI.keys_gives (ρ := Tryz.ikeys238_ren) { Tryz.ikeys238 with } Fence.wide _ trivial rfl (by omega) w.heap.size b nn D0 _ (by simp) (by simp) (by
      obtain ⟨es, clock, hb, Ft, hs, hD⟩ := hown
      exact ⟨es, clock, (Below.heap_alloc _ _ b hbl).trans hb, Ft, hs, hD⟩)
  exact AnyZI.sorted_in Tryz.isorted214 Fence.wide 5 trivial trivial trivial trivial rfl (by omega) (Tryz.isorts214 _) (enters_of Tryz.func110 (by kernel_rfl) rfl) 326 #[.pointer (some ⟨w.heap.size, 0, none⟩)] trivial (enters_of Tryz.func326 (by kernel_rfl) rfl) _ _ hmax hbytes _ hseq
end Go.Proofs
