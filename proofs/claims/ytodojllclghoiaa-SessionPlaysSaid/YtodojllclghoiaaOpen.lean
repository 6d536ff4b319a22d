/-
  What an argument that reads says of its cells, and the row's last word for arguments of whatever types.
-/
import Derived.Test.YtodojllclghoiaaPost
import Derived.Deep.Slices
import Derived.Deep.Fields
import Derived.ChangeOld
import Derived.SizedLaws
import Derived.Carry
import Derived.OpenShut
namespace Go.Proofs.Ytodojllclghoiaa
set_option linter.unusedVariables false
set_option linter.unusedSimpArgs false
open Go.ChangeShapes Go.WideShapes Go.ChangeAt Go.RowKit

/-- The cells read as the type t, through old memory; nothing weighs more than a reading may. -/
def Rd (P : Program) (w : World) (t : TypeId) (cs : List Value) : Prop :=
  ∃ (H : Type) (enc : TypeId × Value → H) (n : Nat) (x : DataW H × List MemPlace), DataW.trod enc P w 0 (fun _ => true) true n t cs = some x ∧ ∀ m ∈ x.1.weights P t, m ≤ reachBytes

section
variable {P : Program} {w : World} {t : TypeId} {cs : List Value}

theorem Rd.int {k : IntKind} (h : Rd P w t cs) (ht : P.underlying t = some (.int k)) : ∃ n, cs = [.int k n] ∧ (Lit.int k n).wf = true := by
  obtain ⟨H, enc, n, x, h, _⟩ := h
  obtain ⟨m, h1, _, h2⟩ := DataW.trod_int ht h
  exact ⟨m, h1, h2⟩

theorem Rd.bool (h : Rd P w t cs) (ht : P.underlying t = some .bool) : ∃ b, cs = [.bool b] := by
  obtain ⟨H, enc, n, x, h, _⟩ := h
  obtain ⟨m, h1, _⟩ := DataW.trod_bool ht h
  exact ⟨m, h1⟩

theorem Rd.string (h : Rd P w t cs) (ht : P.underlying t = some .string) : ∃ s : ByteArray, cs = [.string s] ∧ s.size ≤ reachBytes := by
  obtain ⟨H, enc, n, x, h, hw⟩ := h
  obtain ⟨s, h1, rfl, _⟩ := DataW.trod_string ht h
  refine ⟨s, h1, ?_⟩
  have := hw s.data.toList.length (by simp [DataW.weights])
  exact this

theorem weights_mem_all {H : Type} {P : Program} {e : TypeId} : ∀ {ds : List (DataW H)} {d : DataW H}, d ∈ ds → ∀ n ∈ d.weights P e, n ∈ DataW.weightsAll P e ds
  | d0 :: ds, d, hd, n, hn => by
    simp only [DataW.weightsAll, List.mem_append]
    rcases List.mem_cons.1 hd with rfl | hd
    · exact .inl hn
    · exact .inr (weights_mem_all hd n hn)
  | [], _, hd, _, _ => by cases hd

theorem Rd.fields {fs : Array Field} (h : Rd P w t cs) (ht : P.underlying t = some (.struct fs)) :
    cs.length = P.cellsOf t ∧ ∀ (i : Nat) (f : Field), fs[i]? = some f → Rd P w f.type ((cs.drop f.offset).take (P.cellsOf f.type)) := by
  obtain ⟨H, enc, n, x, h, hw⟩ := h
  obtain ⟨xs, n', rfl, rfl, hl, hxl, hf⟩ := DataW.trod_struct ht h
  refine ⟨hl, fun i f hi => ?_⟩
  have h1 := hf i f hi
  have hlt : i < xs.length := by rw [hxl]; exact (Array.getElem?_eq_some_iff.1 hi).1
  rw [List.getElem?_eq_getElem hlt] at h1
  refine ⟨H, enc, n', _, h1, fun m hm => hw m ?_⟩
  have e : DataW.weights P t (DataW.agg (xs.map (·.1))) = DataW.weightsEach P (fs.toList.map (·.type)) (xs.map (·.1)) := by simp [DataW.weights, ht]
  rw [e]
  refine DataW.weights_mem_each (j := i) (t := f.type) (d := xs[i].1) ?_ ?_ m hm
  · rw [List.getElem?_map, Array.getElem?_toList, hi]; rfl
  · rw [List.getElem?_map, List.getElem?_eq_getElem hlt]; rfl

theorem Rd.slice {e : TypeId} (h : Rd P w t cs) (ht : P.underlying t = some (.slice e)) {k : Nat} (hk : P.cellsOf e = k) (h0 : 0 < k) :
    ∃ (ao : Option Addr) (len cap : Nat) (C : Nat → List Value), cs = [.slice ao len cap] ∧ len ≤ cap ∧ cap ≤ maxLen ∧ cap * P.bytesOf e ≤ reachBytes ∧ (ao = none → len = 0 ∧ cap = 0) ∧
      ∀ i, i < cap → (C i).length = k ∧ Rd P w e (C i) ∧ ∃ b off, ao = some ⟨b, off, none⟩ ∧ ∀ j, j < k → w.cell? ⟨b, off + i * k + j, none⟩ = (C i)[j]? := by
  obtain ⟨H, enc, n, x, h, hw⟩ := h
  rcases Go.Deep.open_slice ht h with ⟨rfl, _⟩ | ⟨a, len, cap, m, n', D, Pl, rfl, _, hl, hm, hmm, hx, hi⟩
  · exact ⟨none, 0, 0, fun _ => [], rfl, Nat.le_refl _, Nat.zero_le _, by simp, fun _ => ⟨rfl, rfl⟩, fun i hi => by omega⟩
  · simp only [if_true] at hmm
    subst hmm
    subst hx
    rw [hk] at hi
    have hi' : ∀ i : Nat, ∃ cs' : List Value, i < m → w.cells? 0 (a.add (i * k)) k = some cs' ∧ DataW.trod enc P w 0 (fun _ => true) true n' e cs' = some (D i, Pl i) := fun i => by
      by_cases h : i < m
      · obtain ⟨cs', h1⟩ := hi i h; exact ⟨cs', fun _ => h1⟩
      · exact ⟨[], fun h' => absurd h' h⟩
    have ew : DataW.weights P t (DataW.slice ((List.range len).map D) ((List.range (m - len)).map fun j => D (len + j))) =
        (len + (m - len)) * P.bytesOf e :: (DataW.weightsAll P e ((List.range len).map D) ++ DataW.weightsAll P e ((List.range (m - len)).map fun j => D (len + j))) := by simp [DataW.weights, ht]
    obtain ⟨C, hC⟩ := Classical.axiomOfChoice hi'
    refine ⟨some a, len, m, C, rfl, hl, hm, ?_, (fun h => by cases h), fun i him => ?_⟩
    · have := hw ((len + (m - len)) * P.bytesOf e) (by rw [ew]; exact List.mem_cons_self)
      rwa [show len + (m - len) = m by omega] at this
    · obtain ⟨hc, htr⟩ := hC i him
      obtain ⟨_, hcl, hat⟩ := World.cells?_some hc
      refine ⟨hcl, ⟨H, enc, n', _, htr, fun q hq => hw q ?_⟩, ?_⟩
      · rw [ew]
        refine List.mem_cons_of_mem _ (List.mem_append.2 ?_)
        by_cases hil : i < len
        · exact .inl (weights_mem_all (List.mem_map.2 ⟨i, List.mem_range.2 hil, rfl⟩) q hq)
        · exact .inr (weights_mem_all (List.mem_map.2 ⟨i - len, List.mem_range.2 (by omega), by rw [show len + (i - len) = i by omega]⟩) q hq)
      · have hsp : a.spot = none := by
          obtain ⟨hc0, _⟩ := hC 0 (by omega)
          obtain ⟨_, hcl0, hat0⟩ := World.cells?_some hc0
          have h1 := hat0 0 h0
          rw [List.getElem?_eq_getElem (by omega)] at h1
          have h2 := World.cell?_spot h1
          rw [Nat.zero_mul] at h2
          exact h2
        obtain ⟨b, off, spot⟩ := a
        simp only at hsp
        subst hsp
        exact ⟨b, off, rfl, fun j hj => by have := hat j hj; rw [add_plain, add_plain] at this; exact this⟩

theorem Rd.array {k : Nat} {e : TypeId} (h : Rd P w t cs) (ht : P.underlying t = some (.array k e)) :
    cs.length = P.cellsOf t ∧ ∀ i, i < k → Rd P w e ((cs.drop (i * P.cellsOf e)).take (P.cellsOf e)) := by
  obtain ⟨H, enc, n, x, h, hw⟩ := h
  obtain ⟨xs, m, rfl, rfl, hl, hxl, hf⟩ := DataW.trod_array ht h
  refine ⟨hl, fun i hi => ?_⟩
  have h1 := hf i hi
  have hlt : i < xs.length := by omega
  rw [List.getElem?_eq_getElem hlt] at h1
  refine ⟨H, enc, m, _, h1, fun q hq => hw q ?_⟩
  have e : DataW.weights P t (DataW.agg (xs.map (·.1))) = DataW.weightsAll P e (xs.map (·.1)) := by simp [DataW.weights, ht]
  rw [e]
  exact weights_mem_all (List.mem_map.2 ⟨xs[i], List.getElem_mem hlt, rfl⟩) q hq

theorem Rd.isSlice {e : TypeId} (h : Rd P w t cs) (ht : P.underlying t = some (.slice e)) : ∃ a n c, cs = [Value.slice a n c] := by
  obtain ⟨H, enc, n, x, h, hw⟩ := h
  rcases Go.Deep.open_slice ht h with ⟨rfl, _⟩ | ⟨a, len, cap, m, n', D, Pl, rfl, _⟩
  · exact ⟨_, _, _, rfl⟩
  · exact ⟨_, _, _, rfl⟩

theorem cons_of_len {α : Type} {l : List α} {n : Nat} (h : l.length = n + 1) : ∃ a r, l = a :: r ∧ r.length = n := by
  cases l with
  | nil => simp at h
  | cons a r => exact ⟨a, r, rfl, by simpa using h⟩

/-- A value by itself. -/
def RdV (P : Program) (w : World) (t : TypeId) (v : Value) : Prop := (∃ r b, Value.okWide P w r b t v) ∧ Rd P w t v.cells.toList

theorem RdV.int {v : Value} {k : IntKind} (h : RdV P w t v) (ht : P.underlying t = some (.int k)) : ∃ n, v = .int k n ∧ (Lit.int k n).wf = true := by
  obtain ⟨⟨r, b, hv⟩, h⟩ := h
  obtain ⟨n, rfl⟩ := okWide_int ht hv
  obtain ⟨m, h1, h2⟩ := h.int ht
  simp [Value.cells] at h1; subst h1
  exact ⟨_, rfl, h2⟩
theorem RdV.string {v : Value} (h : RdV P w t v) (ht : P.underlying t = some .string) : ∃ s : ByteArray, v = .string s ∧ s.size ≤ reachBytes := by
  obtain ⟨⟨r, b, hv⟩, h⟩ := h
  obtain ⟨n, rfl⟩ := okWide_string ht hv
  obtain ⟨m, h1, h2⟩ := h.string ht
  simp [Value.cells] at h1; subst h1
  exact ⟨_, rfl, h2⟩
theorem RdV.bool {v : Value} (h : RdV P w t v) (ht : P.underlying t = some .bool) : ∃ b : Bool, v = .bool b := by
  obtain ⟨⟨r, b, hv⟩, h⟩ := h
  exact okWide_bool ht hv
theorem RdV.struct {v : Value} {fs : Array Field} (h : RdV P w t v) (ht : P.underlying t = some (.struct fs)) : ∃ cs : List Value, v = .agg cs.toArray ∧ cs.length = P.cellsOf t ∧ Rd P w t cs := by
  obtain ⟨⟨r, b, hv⟩, h⟩ := h
  obtain ⟨cs, rfl, h1⟩ := okWide_struct ht hv
  exact ⟨cs.toList, rfl, by simpa using h1, h⟩
theorem RdV.array {v : Value} {n : Nat} {e : TypeId} (h : RdV P w t v) (ht : P.underlying t = some (.array n e)) : ∃ cs : List Value, v = .agg cs.toArray ∧ cs.length = P.cellsOf t ∧ Rd P w t cs := by
  obtain ⟨⟨r, b, hv⟩, h⟩ := h
  simp only [Value.okWide, ht] at hv
  obtain ⟨cs, rfl, h1, _⟩ := hv
  exact ⟨cs.toList, rfl, by simpa using h1, h⟩
theorem RdV.slice {v : Value} {e : TypeId} (h : RdV P w t v) (ht : P.underlying t = some (.slice e)) {k : Nat} (hk : P.cellsOf e = k) (h0 : 0 < k) :
    ∃ (ao : Option Addr) (len cap : Nat) (C : Nat → List Value), v = .slice ao len cap ∧ len ≤ cap ∧ cap ≤ maxLen ∧ cap * P.bytesOf e ≤ reachBytes ∧ (ao = none → len = 0 ∧ cap = 0) ∧
      ∀ i, i < cap → (C i).length = k ∧ Rd P w e (C i) ∧ ∃ b off, ao = some ⟨b, off, none⟩ ∧ ∀ j, j < k → w.cell? ⟨b, off + i * k + j, none⟩ = (C i)[j]? := by
  obtain ⟨⟨r, b, hv⟩, h⟩ := h
  obtain ⟨a, l, c, rfl⟩ := okWide_slice ht hv
  obtain ⟨ao, len, cap, C, h1, h2⟩ := h.slice ht hk h0
  simp [Value.cells] at h1
  obtain ⟨rfl, rfl, rfl⟩ := h1
  exact ⟨_, _, _, C, rfl, h2⟩
end

/-- Old memory stays. -/
theorem St.oldCell {w0 w : World} {H : List Hp} (h : St w0 w H) {a : Addr} {v : Value} (hc : w0.cell? a = some v) : w.cell? a = some v := by
  obtain ⟨c, e, fr, hb⟩ : ∃ c e fr, w0.heap[a.block]? = some (.cells c e fr) := by
    unfold World.cell? at hc
    split at hc
    · exact ⟨_, _, _, by assumption⟩
    · cases hc
  have hlt := (Array.getElem?_eq_some_iff.1 hb).1
  have h1 := h.old.block a.block hlt (by simp)
  unfold World.cell? at hc ⊢
  rw [h1]; exact hc

section
variable {H : Type} {enc : TypeId × Value → H} {P : Program}
theorem rdv_of {W : World} {r : Reach} {b : Nat} {ts : List TypeId} {ds : List (DataW H)} {j : Nat} {t : TypeId} {v : Value} {d : DataW H} {p : List MemPlace} (hv : Value.okWide P W r b t v) (h : DataW.Trod enc P W 0 (fun _ => true) true t v d p)
    (hsz : (DataW.weightsEach P ts ds).all (· ≤ reachBytes) = true) (ht : ts[j]? = some t) (hd : ds[j]? = some d) : RdV P W t v := by
  obtain ⟨n, hn⟩ := h
  refine ⟨⟨r, b, hv⟩, H, enc, n, _, hn, fun m hm => ?_⟩
  have := List.all_eq_true.1 hsz m (DataW.weights_mem_each ht hd m hm)
  simpa using this

theorem post_of_rd {f : Func} {s : ChangeSpec} {apart fresh handsOn : Bool} {W W' : World} {args : Array Value} {v : Value} {ds gs : List (DataW H)} {pa pv : List MemPlace}
    (hW : DataW.Whole enc P f.params.toList s.vars apart W args.toList ds gs (pa ++ pv))
    (hres : ∀ (b : Nat) (sp : Nat → Bool) (hd : Bool), DataW.TrodAll enc P W' b sp hd f.resultTypes.toList (v.resultList f.resultTypes.size) (s.fn H (ds ++ gs)).results [])
    (hargs : DataW.TrodAll enc P W' 0 (fun b => decide (b < W.heap.size)) true f.params.toList args.toList (s.fn H (ds ++ gs)).args pa)
    (hvars : DataW.TrodVars enc P W' (fun b => decide (b < W.heap.size)) s.vars (s.fn H (ds ++ gs)).vars pv)
    (hk : W.keptBut W' (· ∈ pa ++ pv)) :
    s.post enc P f apart fresh handsOn false W args v W' :=
  ⟨ds, gs, pa ++ pv, [], pa, pv, hW, hres _ _ _, hargs, hvars, World.keptBut_mono (fun p hp => ⟨hp, .inr (List.mem_append.1 hp)⟩) hk, fun h => by cases h⟩
end
end Go.Proofs.Ytodojllclghoiaa
