/-
  slices.Sorted(maps.Keys(m)) at a map of the call's own, keys ints.
-/
import Derived.Test.YtodojllclghoiaaArms
import Derived.Test.YtodojllclghoiaaIterI
import Derived.Lib.SlKeysI
namespace Go.Proofs.Ytodojllclghoiaa
set_option linter.unusedVariables false
set_option linter.unusedSimpArgs false
open Go.Maps Go.Sort Go.RowKit Go.ChangeMaps
open Go.WideElems (rd rg Fit rg_of)

theorem insert_permI {H : Type} (x : Lit × DataW H) : ∀ l : List (Lit × DataW H), (DataW.insert x l).Perm (x :: l)
  | [] => .refl _
  | y :: r => by
    unfold DataW.insert
    split
    · exact .refl _
    · exact ((insert_permI x r).cons y).trans (.swap x y r)

theorem insertAll_permI {H : Type} : ∀ l : List (Lit × DataW H), (l.foldr DataW.insert []).Perm l
  | [] => .refl _
  | x :: r => (insert_permI x _).trans ((insertAll_permI r).cons x)

theorem ownsMap_of_mpI {P : Program} {k : TypeId} {w : World} {b : Nat} {kvs : List (Value × Value)} {names : List Int} (hk : P.underlying k = some (.int .i64)) (hb : Hp.on w (.mp b (.int .i64) kvs)) (hn : kvs.map (·.1) = names.map (Value.int .i64))
    (hl : names.length ≤ maxLen) (hs : ∀ s ∈ names, (Lit.int .i64 s).wf = true) :
    ∃ D : DataW Unit, w.ownsMap P k (fun _ => some (.nil, [])) b names.length D ∧ (intKeys D).Perm names ∧ Maps.size D = names.length := by
  obtain ⟨es, clock, hh, hst, hkv, hkey⟩ := hb
  have hlen : es.size = names.length := by
    have h1 := congrArg List.length hn
    have h2 := congrArg List.length hkv
    simp at h1 h2; omega
  have hkeys : es.toList.map (·.key) = names.map (Value.int .i64) := by
    rw [← hn, ← hkv, List.map_map]; rfl
  have hrd : ∀ x ∈ es.toList, ∃ s : Int, s ∈ names ∧ x.key = .int .i64 s ∧ rd (H := Unit) P k (fun _ => some (.nil, [])) x = some (.int .i64 s, .nil) := by
    intro x hx
    have h1 : x.key ∈ es.toList.map (·.key) := List.mem_map.2 ⟨x, hx, rfl⟩
    rw [hkeys] at h1
    obtain ⟨s, h2, h3⟩ := List.mem_map.1 h1
    refine ⟨s, h2, h3.symm, ?_⟩
    unfold Go.WideElems.rd
    rw [← h3, Go.Maps.keyOf_int_mk hk (hs s h2)]
    rfl
  refine ⟨_, ⟨es, clock, hh, ⟨by omega, hst, fun x hx => ?_⟩, by omega, rfl⟩, ?_, ?_⟩
  · obtain ⟨s, _, _, h⟩ := hrd x hx
    exact ⟨_, h⟩
  · have h1 := (insertAll_permI (es.toList.map (rg (H := Unit) P k (fun _ => some (.nil, []))))).map (fun p => Go.intOf p.1)
    refine h1.trans (List.Perm.of_eq ?_)
    rw [List.map_map]
    have h2 : es.toList.map ((fun p : Lit × DataW Unit => Go.intOf p.1) ∘ rg (H := Unit) P k (fun _ => some (.nil, []))) = (es.toList.map (·.key)).map (fun v => match v with | .int _ s => s | _ => 0) := by
      rw [List.map_map]
      apply List.map_congr_left
      intro x hx
      obtain ⟨s, _, h3, h4⟩ := hrd x hx
      simp [rg_of h4, h3, Go.intOf]
    rw [h2, hkeys, List.map_map]
    have h3 : ((fun v : Value => match v with | .int _ s => s | _ => 0) ∘ Value.int .i64) = id := by funext x; rfl
    rw [h3, List.map_id]
  · show List.length _ = _
    rw [(insertAll_permI _).length_eq, List.length_map, Array.length_toList, hlen]

/-- slices.Sorted of a map's keys. -/
def sortIK (names : List Int) : List Int := names.mergeSort leI

theorem sorted_keysI_c {w0 w : World} {H : List Hp} (hS : St w0 w H) (i : Nat) {b : Nat} {kvs : List (Value × Value)} {names : List Int} (hi : H[i]? = some (.mp b (.int .i64) kvs)) (hn : kvs.map (·.1) = names.map (Value.int .i64))
    (hl : names.length ≤ 4611686018427) (hs : ∀ s ∈ names, (Lit.int .i64 s).wf = true) :
    Calls Try.prog 32 #[.func (.func 48) #[] #[.pointer (some ⟨w.heap.size, 0, none⟩)]] (w.alloc (.cells #[.map (some b)] 60)) fun e w' =>
      ∃ ao cap, e = .returned (.slice ao names.length cap) ∧ St w0 w' (.row 3 1 ao names.length cap ((sortIK names).map (Value.int .i64)) :: H) := by
  obtain ⟨D, hD, hp, hsz⟩ := ownsMap_of_mpI (P := Try.prog) Try.underlying3 (hS.at_ i hi) hn (by unfold maxLen; omega) hs
  refine (callsIn_wide.1 (Try.islices_Sorted_keys_32_33 b _ D _ w hD (by rw [hsz]; unfold maxLen; omega) (by rw [hsz]; omega))).mono ?_
  rintro e w' ⟨v, ss, rfl, hp2, hrow, hnil, hb⟩
  have hp3 := hp2.trans hp
  have hlen : ss.length = names.length := by rw [hp3.length_eq]
  have hms : (ss.mergeSort fun x y => decide (x ≤ y)).map encZ = (sortIK names).map (Value.int .i64) := by
    have := mergeSort_of_perm_i hp3
    show (ss.mergeSort leI).map encZ = _
    rw [this]
    rfl
  rw [hms, hlen] at hrow
  obtain ⟨hlx, hcase⟩ := hrow
  have hT : Turn w w' [] := by
    refine ⟨hb.os, hb.tape, hb.output, Nat.le_trans (by simp) hb.size, fun k hk _ => ?_⟩
    rw [hb.block k (by simp; omega)]
    exact Below.heap_alloc _ _ _ hk
  have key : ∃ ao cap, v = .slice ao names.length cap ∧ (∀ g, ao.map Addr.block = some g → w.heap.size ≤ g) := by
    rcases hcase with ⟨hv, h0⟩ | ⟨g, cap', cur, hv, hg, _⟩
    · exact ⟨none, 0, by rw [hv, h0], fun g h => by simp at h⟩
    · exact ⟨_, _, hv, fun g' h => by simp at h hg; omega⟩
  obtain ⟨ao, cap, rfl, hfp⟩ := key
  refine ⟨ao, cap, rfl, ?_⟩
  refine hS.step (A := []) (A' := [.row 3 1 ao names.length cap ((sortIK names).map (Value.int .i64))]) (R := H) (by simpa [fps] using hT) (by rw [show fps [Hp.row 3 1 ao names.length cap ((sortIK names).map (Value.int .i64))] = Hp.fp (.row 3 1 ao names.length cap ((sortIK names).map (Value.int .i64))) by simp [fps]]; exact row_fp_nodup) ?_ ?_
  · intro g hg
    simp [fps, Hp.fp] at hg
    right
    apply hfp
    obtain ⟨a, h1, h2⟩ := hg
    rw [h1, ← h2]; rfl
  · intro x hx
    simp at hx; subst hx
    refine ⟨hlx, ?_⟩
    rcases hcase with h | ⟨g, cap', cur, hv, hg, r⟩
    · exact .inl h
    · exact .inr ⟨g, cap', cur, hv, Nat.zero_le _, r⟩

end Go.Proofs.Ytodojllclghoiaa
