/-
  DERIVED: THE SHELF's CONTRACTS AT THIS DUMP, IN PLAIN WORDS (tools/lay-plain.mjs out of 'YtiaiikacjcfccaaGreatIter0.lean', which tools/lay-shelf.mjs wrote): THE SAME DECLARATIONS UNDER THE SAME NAMES: 'import', 'namespace', 'open', 'def', 'theorem' AND NOTHING ELSE: no command of the shelf's: FOR A HAND-IN. Each laying: the table of numbers ('.._ren') and one theorem, a field a fact of the dump's own or the kernel's comparison; each contract: ONE APPLICATION.
-/
import Derived.Shelf.SlIter.Nil
import Derived.Shelf.SortM.Plain
import Derived.Shelf.SortM.SortNone
import Derived.Ground.GgzProg
import Derived.Ground.SlgmProg
import Derived.Test.YtiaiikacjcfccaaGreatProg
namespace Go.Proofs
open Go.Shelf
def Tryz.keys277_ren : Go.Shelf.Ren := ⟨fun | 7 => 277 | 10 => 353 | n => n, fun | 23 => 289 | 26 => 9 | 3 => 309 | 28 => 378 | 0 => 0 | 27 => 377 | 33 => 421 | 4 => 4 | n => n, fun | n => n⟩
theorem Tryz.keys277 : Go.Proofs.SlLaysZ.n7 Tryz.prog Tryz.keys277_ren := {
  mixed := by kernel_rfl
  f7 := ⟨Tryz.f277.name, by decide, Tryz.func277.trans (congrArg some (by kernel_rfl))⟩
  f10 := ⟨Tryz.f353.name, by decide, Tryz.func353.trans (congrArg some (by kernel_rfl))⟩
  t0 := Tryz.underlying0
  a0 := Tryz.isAgg0
  z0 := Tryz.sizeOf0
  v0 := Tryz.zeroValue0
  t4 := Tryz.underlying4
  a4 := Tryz.isAgg4
  z4 := Tryz.sizeOf4
  v4 := Tryz.zeroValue4
  t23 := Tryz.underlying289
  a23 := Tryz.isAgg289
  z23 := Tryz.sizeOf289
  v23 := Tryz.zeroValue289
  t26 := Tryz.underlying9
  a26 := Tryz.isAgg9
  z26 := Tryz.sizeOf9
  v26 := Tryz.zeroValue9
  t27 := Tryz.underlying377
  a27 := Tryz.isAgg377
  z27 := Tryz.sizeOf377
  v27 := Tryz.zeroValue377
  t28 := Tryz.underlying378
  a28 := Tryz.isAgg378
  z28 := Tryz.sizeOf378
  v28 := Tryz.zeroValue378
  t33 := Tryz.underlying421
  a33 := Tryz.isAgg421
  z33 := Tryz.sizeOf421
  v33 := Tryz.zeroValue421 }
def Tryz.sorted276_ren : Go.Shelf.Ren := ⟨fun | 6 => 276 | 8 => 351 | 9 => 352 | 11 => 390 | 13 => 240 | 12 => 391 | 23 => 336 | 24 => 337 | 14 => 420 | 15 => 421 | 16 => 422 | 17 => 423 | 18 => 424 | 19 => 425 | 20 => 426 | 21 => 427 | 22 => 428 | 25 => 439 | 26 => 383 | 27 => 384 | 28 => 440 | 29 => 441 | 30 => 442 | 31 => 446 | n => n, fun | 26 => 9 | 28 => 378 | 24 => 369 | 0 => 0 | 3 => 3 | 37 => 235 | 48 => 408 | 50 => 37 | 4 => 4 | 40 => 402 | 39 => 401 | 45 => 194 | 5 => 5 | 9 => 9 | 51 => 439 | 55 => 442 | 57 => 457 | 58 => 186 | 33 => 421 | n => n, fun | n => n⟩
theorem Tryz.sorted276 : Go.Proofs.SlLaysZ.n6 Tryz.prog Tryz.sorted276_ren := {
  mixed := by kernel_rfl
  f6 := ⟨Tryz.f276.name, by decide, Tryz.func276.trans (congrArg some (by kernel_rfl))⟩
  f8 := ⟨Tryz.f351.name, by decide, Tryz.func351.trans (congrArg some (by kernel_rfl))⟩
  f11 := ⟨Tryz.f390.name, by decide, Tryz.func390.trans (congrArg some (by kernel_rfl))⟩
  t0 := Tryz.underlying0
  a0 := Tryz.isAgg0
  z0 := Tryz.sizeOf0
  v0 := Tryz.zeroValue0
  t24 := Tryz.underlying369
  a24 := Tryz.isAgg369
  z24 := Tryz.sizeOf369
  v24 := Tryz.zeroValue369
  t26 := Tryz.underlying9
  a26 := Tryz.isAgg9
  z26 := Tryz.sizeOf9
  v26 := Tryz.zeroValue9
  t28 := Tryz.underlying378
  a28 := Tryz.isAgg378
  z28 := Tryz.sizeOf378
  v28 := Tryz.zeroValue378
  i26 := by kernel_rfl }
def Tryz.sort352_ren : Go.Shelf.Ren := ⟨fun | 6 => 352 | 8 => 240 | 9 => 391 | 19 => 336 | 20 => 337 | 21 => 420 | 22 => 421 | 23 => 422 | 24 => 423 | 25 => 424 | 26 => 425 | 27 => 426 | 28 => 427 | 29 => 428 | 36 => 439 | 31 => 383 | 32 => 384 | 37 => 440 | 38 => 441 | 39 => 442 | 41 => 446 | n => n, fun | 27 => 369 | 29 => 9 | 3 => 3 | 32 => 235 | 26 => 369 | 0 => 0 | 44 => 408 | 46 => 37 | 4 => 4 | 36 => 402 | 35 => 401 | 41 => 194 | 5 => 5 | 9 => 9 | 53 => 439 | 57 => 442 | 63 => 457 | 64 => 186 | n => n, fun | n => n⟩
theorem Tryz.sort352 : Go.Proofs.SlLaysM.n6 Tryz.prog Tryz.sort352_ren := {
  mixed := by kernel_rfl
  f6 := ⟨Tryz.f352.name, by decide, Tryz.func352.trans (congrArg some (by kernel_rfl))⟩
  f8 := Tryz.func240.trans (congrArg some (by kernel_rfl))
  f9 := ⟨Tryz.f391.name, by decide, Tryz.func391.trans (congrArg some (by kernel_rfl))⟩
  f19 := Tryz.func336.trans (congrArg some (by kernel_rfl))
  f20 := Tryz.func337.trans (congrArg some (by kernel_rfl))
  f21 := ⟨Tryz.f420.name, by decide, Tryz.func420.trans (congrArg some (by kernel_rfl))⟩
  f22 := ⟨Tryz.f421.name, by decide, Tryz.func421.trans (congrArg some (by kernel_rfl))⟩
  f23 := ⟨Tryz.f422.name, by decide, Tryz.func422.trans (congrArg some (by kernel_rfl))⟩
  f24 := ⟨Tryz.f423.name, by decide, Tryz.func423.trans (congrArg some (by kernel_rfl))⟩
  f25 := ⟨Tryz.f424.name, by decide, Tryz.func424.trans (congrArg some (by kernel_rfl))⟩
  f26 := ⟨Tryz.f425.name, by decide, Tryz.func425.trans (congrArg some (by kernel_rfl))⟩
  f27 := ⟨Tryz.f426.name, by decide, Tryz.func426.trans (congrArg some (by kernel_rfl))⟩
  f28 := ⟨Tryz.f427.name, by decide, Tryz.func427.trans (congrArg some (by kernel_rfl))⟩
  f29 := ⟨Tryz.f428.name, by decide, Tryz.func428.trans (congrArg some (by kernel_rfl))⟩
  f31 := Tryz.func383.trans (congrArg some (by kernel_rfl))
  f32 := Tryz.func384.trans (congrArg some (by kernel_rfl))
  f36 := ⟨Tryz.f439.name, by decide, Tryz.func439.trans (congrArg some (by kernel_rfl))⟩
  f37 := ⟨Tryz.f440.name, by decide, Tryz.func440.trans (congrArg some (by kernel_rfl))⟩
  f38 := ⟨Tryz.f441.name, by decide, Tryz.func441.trans (congrArg some (by kernel_rfl))⟩
  f39 := ⟨Tryz.f442.name, by decide, Tryz.func442.trans (congrArg some (by kernel_rfl))⟩
  f41 := ⟨Tryz.f446.name, by decide, Tryz.func446.trans (congrArg some (by kernel_rfl))⟩
  t0 := Tryz.underlying0
  a0 := Tryz.isAgg0
  z0 := Tryz.sizeOf0
  v0 := Tryz.zeroValue0
  t3 := Tryz.underlying3
  a3 := Tryz.isAgg3
  z3 := Tryz.sizeOf3
  v3 := Tryz.zeroValue3
  t4 := Tryz.underlying4
  a4 := Tryz.isAgg4
  z4 := Tryz.sizeOf4
  v4 := Tryz.zeroValue4
  t5 := Tryz.underlying5
  a5 := Tryz.isAgg5
  z5 := Tryz.sizeOf5
  v5 := Tryz.zeroValue5
  t9 := Tryz.underlying9
  a9 := Tryz.isAgg9
  z9 := Tryz.sizeOf9
  v9 := Tryz.zeroValue9
  t26 := Tryz.underlying369
  a26 := Tryz.isAgg369
  z26 := Tryz.sizeOf369
  v26 := Tryz.zeroValue369
  t27 := Tryz.underlying369
  a27 := Tryz.isAgg369
  z27 := Tryz.sizeOf369
  v27 := Tryz.zeroValue369
  t29 := Tryz.underlying9
  a29 := Tryz.isAgg9
  z29 := Tryz.sizeOf9
  v29 := Tryz.zeroValue9
  t32 := Tryz.underlying235
  a32 := Tryz.isAgg235
  z32 := Tryz.sizeOf235
  v32 := Tryz.zeroValue235
  t35 := Tryz.underlying401
  a35 := Tryz.isAgg401
  z35 := Tryz.sizeOf401
  v35 := Tryz.zeroValue401
  t36 := Tryz.underlying402
  a36 := Tryz.isAgg402
  z36 := Tryz.sizeOf402
  v36 := Tryz.zeroValue402
  t41 := Tryz.underlying194
  a41 := Tryz.isAgg194
  z41 := Tryz.sizeOf194
  v41 := Tryz.zeroValue194
  t44 := Tryz.underlying408
  a44 := Tryz.isAgg408
  z44 := Tryz.sizeOf408
  v44 := Tryz.zeroValue408
  t46 := Tryz.underlying37
  a46 := Tryz.isAgg37
  z46 := Tryz.sizeOf37
  v46 := Tryz.zeroValue37
  t53 := Tryz.underlying439
  a53 := Tryz.isAgg439
  z53 := Tryz.sizeOf439
  v53 := Tryz.zeroValue439
  t57 := Tryz.underlying442
  a57 := Tryz.isAgg442
  z57 := Tryz.sizeOf442
  v57 := Tryz.zeroValue442
  t63 := Tryz.underlying457
  a63 := Tryz.isAgg457
  z63 := Tryz.sizeOf457
  v63 := Tryz.zeroValue457
  t64 := Tryz.underlying186
  a64 := Tryz.isAgg186
  z64 := Tryz.sizeOf186
  v64 := Tryz.zeroValue186 }
def Tryz.keys279_ren : Go.Shelf.Ren := ⟨fun | 7 => 279 | 10 => 354 | n => n, fun | 23 => 290 | 26 => 9 | 3 => 313 | 28 => 378 | 0 => 0 | 27 => 377 | 33 => 421 | 4 => 4 | n => n, fun | n => n⟩
theorem Tryz.keys279 : Go.Proofs.SlLaysZ.n7 Tryz.prog Tryz.keys279_ren := {
  mixed := by kernel_rfl
  f7 := ⟨Tryz.f279.name, by decide, Tryz.func279.trans (congrArg some (by kernel_rfl))⟩
  f10 := ⟨Tryz.f354.name, by decide, Tryz.func354.trans (congrArg some (by kernel_rfl))⟩
  t0 := Tryz.underlying0
  a0 := Tryz.isAgg0
  z0 := Tryz.sizeOf0
  v0 := Tryz.zeroValue0
  t4 := Tryz.underlying4
  a4 := Tryz.isAgg4
  z4 := Tryz.sizeOf4
  v4 := Tryz.zeroValue4
  t23 := Tryz.underlying290
  a23 := Tryz.isAgg290
  z23 := Tryz.sizeOf290
  v23 := Tryz.zeroValue290
  t26 := Tryz.underlying9
  a26 := Tryz.isAgg9
  z26 := Tryz.sizeOf9
  v26 := Tryz.zeroValue9
  t27 := Tryz.underlying377
  a27 := Tryz.isAgg377
  z27 := Tryz.sizeOf377
  v27 := Tryz.zeroValue377
  t28 := Tryz.underlying378
  a28 := Tryz.isAgg378
  z28 := Tryz.sizeOf378
  v28 := Tryz.zeroValue378
  t33 := Tryz.underlying421
  a33 := Tryz.isAgg421
  z33 := Tryz.sizeOf421
  v33 := Tryz.zeroValue421 }
open Go.RowKit Go.Maps Go.Sort
/-- slices.Sort's two contracts at this dump, at the fence that asks nothing. -/
theorem Tryz.sorts276 (m : Nat) : AnyZ.SortsIn Tryz.prog Tryz.sorted276_ren Fence.wide m :=
  ⟨fun blk off cap ss W hH hblk hsz => callsIn_wide.2 (AnyM.slices_Sort_string Tryz.sort352 blk off cap ss W hH hblk hsz),
   fun p cap W => callsIn_wide.2 (AnyM.slices_Sort_string_none Tryz.sort352 p cap W)⟩

/-- **maps.Keys[map[string]*latchkey/counters.group,string,*latchkey/counters.group], at whatever map, the nil one too:** a function value over ONE NEW BLOCK, which holds the map. -/
theorem Tryz.maps_Keys_277 (mb : Option Nat) (W : World) : CallsIn Fence.wide 5 Tryz.prog 277 #[.map mb] W fun e w' => e = .returned (.func (.func 353) #[] #[.pointer (some ⟨W.heap.size, 0, none⟩)]) ∧ w' = W.alloc (.cells #[.map mb] 289) :=
  AnyZ.keys_in Tryz.keys277 Fence.wide 5 trivial rfl mb W

set_option maxHeartbeats 1000000 in
/-- **slices.Sorted[string] AT WHAT maps.Keys[map[string]*latchkey/counters.group,string,*latchkey/counters.group] HANDED BACK FOR A MAP THAT IS NOT nil** ('w': the world AHEAD of maps.Keys' call): A NEW SLICE THAT HOLDS THE MAP's KEYS, SORTED; nil just where it has none; nothing that lay before has turned. -/
theorem Tryz.slices_Sorted_keys_276_277 {H : Type} (b nn : Nat) (D0 : DataW H) (R : Value → Option (DataW H × List MemPlace)) (w : World) (hown : w.ownsMap Tryz.prog 9 R b nn D0) (hmax : Maps.size D0 ≤ maxLen) (hbytes : Maps.size D0 * 16 ≤ 140737488355328) :
    CallsIn Fence.wide 5 Tryz.prog 276 #[.func (.func 353) #[] #[.pointer (some ⟨w.heap.size, 0, none⟩)]] (w.alloc (.cells #[.map (some b)] 289)) fun e w' => ∃ (v : Value) (ss : List (List UInt8)), e = .returned v ∧ ss.Perm (strKeys D0) ∧
      w'.ownsRow (w.alloc (.cells #[.map (some b)] 289)).heap.size 9 1 v ss.length ((ss.mergeSort (fun x y => decide (x ≤ y))).map encStr) ∧ (v = .slice none 0 0 ↔ ss = []) ∧ Below (w.alloc (.cells #[.map (some b)] 289)).heap.size (w.alloc (.cells #[.map (some b)] 289)) w' := by
  have hbl := hown.lt
  have hseq : SeqGives Fence.wide 2 Tryz.prog 353 #[.pointer (some ⟨w.heap.size, 0, none⟩)] encStr (fun ss => ss.Perm (strKeys D0)) (Maps.size D0) (w.alloc (.cells #[.map (some b)] 289)) :=
    AnyZ.keys_gives (ρ := Tryz.keys277_ren) { Tryz.keys277 with } Fence.wide _ trivial rfl (by omega) w.heap.size b nn D0 _ (by simp) (by simp) (by
      obtain ⟨es, clock, hb, Ft, hs, hD⟩ := hown
      exact ⟨es, clock, (Below.heap_alloc _ _ b hbl).trans hb, Ft, hs, hD⟩)
  exact AnyZ.sorted_in Tryz.sorted276 Fence.wide 5 trivial trivial trivial trivial rfl (by omega) (Tryz.sorts276 _) (enters_of Tryz.func352 (by kernel_rfl) rfl) 353 #[.pointer (some ⟨w.heap.size, 0, none⟩)] trivial (enters_of Tryz.func353 (by kernel_rfl) rfl) _ _ hmax hbytes _ hseq

set_option maxHeartbeats 1000000 in
/-- **.. AND FOR THE nil MAP: nil.** -/
theorem Tryz.slices_Sorted_keys_nil_276_277 (w : World) :
    CallsIn Fence.wide 5 Tryz.prog 276 #[.func (.func 353) #[] #[.pointer (some ⟨w.heap.size, 0, none⟩)]] (w.alloc (.cells #[.map none] 289)) fun e w' => ∃ (v : Value) (ss : List (List UInt8)), e = .returned v ∧ ss = [] ∧
      w'.ownsRow (w.alloc (.cells #[.map none] 289)).heap.size 9 1 v ss.length ((ss.mergeSort (fun x y => decide (x ≤ y))).map encStr) ∧ (v = .slice none 0 0 ↔ ss = []) ∧ Below (w.alloc (.cells #[.map none] 289)).heap.size (w.alloc (.cells #[.map none] 289)) w' := by
  have hseq : SeqGives Fence.wide 2 Tryz.prog 353 #[.pointer (some ⟨w.heap.size, 0, none⟩)] encStr (fun ss : List (List UInt8) => ss = []) 0 (w.alloc (.cells #[.map none] 289)) :=
    AnyZ.keys_gives_nil (ρ := Tryz.keys277_ren) { Tryz.keys277 with } Fence.wide _ trivial rfl w.heap.size _ (by simp) (by simp)
  exact AnyZ.sorted_in Tryz.sorted276 Fence.wide 5 trivial trivial trivial trivial rfl (by omega) (Tryz.sorts276 _) (enters_of Tryz.func352 (by kernel_rfl) rfl) 353 #[.pointer (some ⟨w.heap.size, 0, none⟩)] trivial (enters_of Tryz.func353 (by kernel_rfl) rfl) _ 0 (Nat.zero_le _) (by omega) _ hseq

/-- **maps.Keys[map[string]*latchkey/counters.once,string,*latchkey/counters.once], at whatever map, the nil one too:** a function value over ONE NEW BLOCK, which holds the map. -/
theorem Tryz.maps_Keys_279 (mb : Option Nat) (W : World) : CallsIn Fence.wide 5 Tryz.prog 279 #[.map mb] W fun e w' => e = .returned (.func (.func 354) #[] #[.pointer (some ⟨W.heap.size, 0, none⟩)]) ∧ w' = W.alloc (.cells #[.map mb] 290) :=
  AnyZ.keys_in Tryz.keys279 Fence.wide 5 trivial rfl mb W

set_option maxHeartbeats 1000000 in
/-- **slices.Sorted[string] AT WHAT maps.Keys[map[string]*latchkey/counters.once,string,*latchkey/counters.once] HANDED BACK FOR A MAP THAT IS NOT nil** ('w': the world AHEAD of maps.Keys' call): A NEW SLICE THAT HOLDS THE MAP's KEYS, SORTED; nil just where it has none; nothing that lay before has turned. -/
theorem Tryz.slices_Sorted_keys_276_279 {H : Type} (b nn : Nat) (D0 : DataW H) (R : Value → Option (DataW H × List MemPlace)) (w : World) (hown : w.ownsMap Tryz.prog 9 R b nn D0) (hmax : Maps.size D0 ≤ maxLen) (hbytes : Maps.size D0 * 16 ≤ 140737488355328) :
    CallsIn Fence.wide 5 Tryz.prog 276 #[.func (.func 354) #[] #[.pointer (some ⟨w.heap.size, 0, none⟩)]] (w.alloc (.cells #[.map (some b)] 290)) fun e w' => ∃ (v : Value) (ss : List (List UInt8)), e = .returned v ∧ ss.Perm (strKeys D0) ∧
      w'.ownsRow (w.alloc (.cells #[.map (some b)] 290)).heap.size 9 1 v ss.length ((ss.mergeSort (fun x y => decide (x ≤ y))).map encStr) ∧ (v = .slice none 0 0 ↔ ss = []) ∧ Below (w.alloc (.cells #[.map (some b)] 290)).heap.size (w.alloc (.cells #[.map (some b)] 290)) w' := by
  have hbl := hown.lt
  have hseq : SeqGives Fence.wide 2 Tryz.prog 354 #[.pointer (some ⟨w.heap.size, 0, none⟩)] encStr (fun ss => ss.Perm (strKeys D0)) (Maps.size D0) (w.alloc (.cells #[.map (some b)] 290)) :=
    AnyZ.keys_gives (ρ := Tryz.keys279_ren) { Tryz.keys279 with } Fence.wide _ trivial rfl (by omega) w.heap.size b nn D0 _ (by simp) (by simp) (by
      obtain ⟨es, clock, hb, Ft, hs, hD⟩ := hown
      exact ⟨es, clock, (Below.heap_alloc _ _ b hbl).trans hb, Ft, hs, hD⟩)
  exact AnyZ.sorted_in Tryz.sorted276 Fence.wide 5 trivial trivial trivial trivial rfl (by omega) (Tryz.sorts276 _) (enters_of Tryz.func352 (by kernel_rfl) rfl) 354 #[.pointer (some ⟨w.heap.size, 0, none⟩)] trivial (enters_of Tryz.func354 (by kernel_rfl) rfl) _ _ hmax hbytes _ hseq

set_option maxHeartbeats 1000000 in
/-- **.. AND FOR THE nil MAP: nil.** -/
theorem Tryz.slices_Sorted_keys_nil_276_279 (w : World) :
    CallsIn Fence.wide 5 Tryz.prog 276 #[.func (.func 354) #[] #[.pointer (some ⟨w.heap.size, 0, none⟩)]] (w.alloc (.cells #[.map none] 290)) fun e w' => ∃ (v : Value) (ss : List (List UInt8)), e = .returned v ∧ ss = [] ∧
      w'.ownsRow (w.alloc (.cells #[.map none] 290)).heap.size 9 1 v ss.length ((ss.mergeSort (fun x y => decide (x ≤ y))).map encStr) ∧ (v = .slice none 0 0 ↔ ss = []) ∧ Below (w.alloc (.cells #[.map none] 290)).heap.size (w.alloc (.cells #[.map none] 290)) w' := by
  have hseq : SeqGives Fence.wide 2 Tryz.prog 354 #[.pointer (some ⟨w.heap.size, 0, none⟩)] encStr (fun ss : List (List UInt8) => ss = []) 0 (w.alloc (.cells #[.map none] 290)) :=
    AnyZ.keys_gives_nil (ρ := Tryz.keys279_ren) { Tryz.keys279 with } Fence.wide _ trivial rfl w.heap.size _ (by simp) (by simp)
  exact AnyZ.sorted_in Tryz.sorted276 Fence.wide 5 trivial trivial trivial trivial rfl (by omega) (Tryz.sorts276 _) (enters_of Tryz.func352 (by kernel_rfl) rfl) 354 #[.pointer (some ⟨w.heap.size, 0, none⟩)] trivial (enters_of Tryz.func354 (by kernel_rfl) rfl) _ 0 (Nat.zero_le _) (by omega) _ hseq

end Go.Proofs
