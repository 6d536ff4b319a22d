/-
  Ranging over a map that no round writes: the map and its iterator as one heaplet, 'mpi': what is still to come, and the entry that came last.
-/
import Derived.Test.YtodojllclghoiaaArms
namespace Go.Proofs.Ytodojllclghoiaa
set_option linter.unusedVariables false
set_option linter.unusedSimpArgs false
open Go.MapKept

theorem leftOf_push {es : Array MapEntry} {clock : Nat} (h : Stamped es clock) (seen : Array Nat) {j : Nat} {e : MapEntry} (hj : (leftOf es seen).toList[j]? = some e) :
    (leftOf es (seen.push e.born)).toList = (leftOf es seen).toList.eraseIdx j := by
  have hnd : ((leftOf es seen).toList.map (·.born)).Nodup := by
    unfold leftOf
    rw [Array.toList_filter]
    exact (List.Sublist.map _ List.filter_sublist).nodup h.2.1
  have e1 : (leftOf es (seen.push e.born)).toList = (leftOf es seen).toList.filter (fun x => x.born != e.born) := by
    unfold leftOf
    rw [Array.toList_filter, Array.toList_filter, List.filter_filter]
    refine List.filter_congr (fun x _ => ?_)
    simp only [Array.contains_push, Bool.not_or]
    rw [Bool.and_comm]
    rfl
  rw [e1]
  generalize (leftOf es seen).toList = L at hnd hj
  clear e1
  induction L generalizing j with
  | nil => simp at hj
  | cons y r ih =>
    simp only [List.map_cons, List.nodup_cons] at hnd
    cases j with
    | zero =>
      simp at hj; subst hj
      rw [List.filter_cons_of_neg (by simp), List.eraseIdx_cons_zero]
      refine List.filter_eq_self.2 (fun x hx => ?_)
      simp only [bne_iff_ne]
      intro e2
      exact hnd.1 (List.mem_map.2 ⟨x, hx, e2⟩)
    | succ j =>
      simp only [List.getElem?_cons_succ] at hj
      rw [List.eraseIdx_cons_succ, List.filter_cons_of_pos, ih hnd.2 hj]
      simp only [bne_iff_ne]
      intro e2
      exact hnd.1 (List.mem_map.2 ⟨e, List.mem_of_getElem? hj, e2.symm⟩)

section
variable {P : Program} {K : Act → World → Prop} {gd : Option (Nat × Bool)} {dst : Option Tmp} {ty : TypeId} {pos : String} {after : Array Edge} {a : Act} {Q : Exit → Act → World → Prop} {w0 w : World} {H : List Hp}
  {t k e : TypeId} {x : Operand} {b r : Nat} {d : TypeDesc} {kvs left : List (Value × Value)} {cur : Option (Value × Value)}

theorem opA_range (hS : St w0 w H) (i : Nat) (hx : a.eval x = .map (some b)) (hi : H[i]? = some (.mp b d kvs)) (ht : P.underlying t = some (.map k e))
    (hK : ∀ r w', St w0 w' (H.set i (.mpi b d kvs r kvs none)) → K (a.put dst (.pointer (some ⟨r, 0, none⟩))) w') : Oper.wp P ⟨dst, .range t x, ty, pos, after, gd⟩ a w K Q := by
  obtain ⟨es, clock, hb, hst, hkv, hks⟩ := hS.at_ i hi
  have hrun := run_range_map (P := P) w t k e b es clock ht hb
  have hlt : b < w.heap.size := (Array.getElem?_eq_some_iff.1 hb).1
  unfold Oper.wp
  simp only [execOp, hx, Sem.run_bind, hrun, Result.andThen_ok, Sem.run_pure]
  have hg := World.grownBy_alloc w (.mapIter (some b) clock #[] clock) none
  refine hK _ _ (hS.setAt i hi ((Turn.of_grown hg).mono (by simp)) (by simp [Hp.fp]; omega) (fun c hc => ?_) ⟨es, clock, #[], (hg.block b hlt (by simp)).trans hb, hst, hkv, hks, Go.heap_alloc_new w _, ?_, by simp⟩)
  · simp [Hp.fp] at hc ⊢
    rcases hc with rfl | rfl
    · exact .inl rfl
    · exact .inr (Nat.le_refl _)
  · rw [← hkv]
    have : (leftOf es #[]).toList = es.toList := by
      unfold leftOf
      rw [Array.toList_filter]
      exact List.filter_eq_self.2 (by simp)
    rw [this]

theorem opA_next (hS : St w0 w H) (i : Nat) (hx : a.eval x = .pointer (some ⟨r, 0, none⟩)) (hi : H[i]? = some (.mpi b d kvs r left cur))
    (hK1 : left = [] → K (a.put dst (.tuple #[.bool false])) w)
    (hK2 : ∀ j p w', left[j]? = some p → St w0 w' (H.set i (.mpi b d kvs r (left.eraseIdx j) (some p))) → K (a.put dst (.tuple #[.bool true, p.1, p.2])) w') : Oper.wp P ⟨dst, .next x false, ty, pos, after, gd⟩ a w K Q := by
  obtain ⟨es, clock, seen, hb, hst, hkv, hks, hr, hleft, hcur⟩ := hS.at_ i hi
  unfold Oper.wp
  rcases run_next_at (P := P) w ty r b clock clock seen es clock hr hb hst.1 (Nat.le_refl _) with ⟨h0, hrun⟩ | ⟨en, hen, w1, hw1, hrun⟩
  · have hl : left = [] := by rw [← hleft]; simp [Array.eq_empty_of_size_eq_zero h0]
    simp only [execOp, hx, Sem.run_bind, hrun, Result.andThen_ok, Sem.run_pure]
    exact hK1 hl
  · obtain ⟨j, hj⟩ := List.getElem?_of_mem hen
    have hb1 : w1.heap[b]? = some (.map es clock) := by rcases hw1 with rfl | rfl <;> exact hb
    have hr1 : w1.heap[r]? = some (.mapIter (some b) clock seen clock) := by rcases hw1 with rfl | rfl <;> exact hr
    have hne : b ≠ r := fun e1 => by subst e1; rw [hb] at hr; cases hr
    have hlt : r < w1.heap.size := (Array.getElem?_eq_some_iff.1 hr1).1
    simp only [execOp, hx, Sem.run_bind, hrun, Result.andThen_ok, Sem.run_pure]
    have hen' : en ∈ es.toList := by
      unfold leftOf at hen
      rw [Array.toList_filter] at hen
      exact (List.mem_filter.1 hen).1
    refine hK2 j (en.key, en.val) _ (by rw [← hleft, List.getElem?_map, hj]; rfl) (hS.setAt i hi ?_ (by simp [Hp.fp, hne]) (by simp [Hp.fp]) ⟨es, clock, seen.push en.born, ?_, hst, hkv, hks, ?_, ?_, ?_⟩)
    · refine ⟨?_, ?_, ?_, ?_, fun c hc hn => ?_⟩
      · rcases hw1 with rfl | rfl <;> rfl
      · rcases hw1 with rfl | rfl <;> rfl
      · rcases hw1 with rfl | rfl <;> rfl
      · rcases hw1 with rfl | rfl <;> simp [ChangeMaps.setBlock]
      · simp [Hp.fp] at hn
        have : (ChangeMaps.setBlock w1 r (.mapIter (some b) clock (seen.push en.born) clock)).heap[c]? = w1.heap[c]? := by
          simp [ChangeMaps.setBlock, Array.getElem?_setIfInBounds, Ne.symm hn.2]
        rw [this]
        rcases hw1 with rfl | rfl <;> rfl
    · simp [ChangeMaps.setBlock, Array.getElem?_setIfInBounds, Ne.symm hne, hb1]
    · simp [ChangeMaps.setBlock, Array.getElem?_setIfInBounds, hlt]
    · rw [leftOf_push hst seen hj, ← hleft, ChangeMaps.map_eraseIdx]
    · intro p hp
      injection hp with hp
      exact ⟨en, seen, rfl, hen', hp⟩

theorem opA_entry (hS : St w0 w H) (i : Nat) {p : Value × Value} (hx : a.eval x = .pointer (some ⟨r, 0, none⟩)) (hi : H[i]? = some (.mpi b d kvs r left (some p)))
    (hK : K (a.put dst (.tuple #[p.1, p.2])) w) : Oper.wp P ⟨dst, .entry x, ty, pos, after, gd⟩ a w K Q := by
  obtain ⟨es, clock, seen, hb, hst, hkv, hks, hr, hleft, hcur⟩ := hS.at_ i hi
  obtain ⟨en, seen', rfl, hen, rfl⟩ := hcur p rfl
  have hrun := run_entry_at (P := P) w r b clock seen' es clock en hr hb hen hst.2.1
  unfold Oper.wp
  simp only [execOp, hx, Sem.run_bind, hrun, Result.andThen_ok, Sem.run_pure]
  exact hK

end

section
variable {P : Program} {ops : Array Oper} {rest : List Oper} {dst : Option Tmp} {ty : TypeId} {pos : String} {after : Array Edge} {a : Act} {Q : Exit → Act → World → Prop} {w0 w : World} {H : List Hp}
  {t k e : TypeId} {x : Operand} {b r : Nat} {d : TypeDesc} {kvs left : List (Value × Value)} {cur : Option (Value × Value)}

theorem wpA_range (hS : St w0 w H) (i : Nat) (hx : a.eval x = .map (some b)) (hi : H[i]? = some (.mp b d kvs)) (ht : P.underlying t = some (.map k e))
    (hK : ∀ r w', St w0 w' (H.set i (.mpi b d kvs r kvs none)) → wpList P ops Q rest (a.put dst (.pointer (some ⟨r, 0, none⟩))) w') : wpList P ops Q (⟨dst, .range t x, ty, pos, after, none⟩ :: rest) a w :=
  wpList_plain rfl fun _ h => opA_range hS i hx hi ht (fun r w' h_ => h _ _ (hK r w' h_))

theorem wpA_next (hS : St w0 w H) (i : Nat) (hx : a.eval x = .pointer (some ⟨r, 0, none⟩)) (hi : H[i]? = some (.mpi b d kvs r left cur))
    (hK1 : left = [] → wpList P ops Q rest (a.put dst (.tuple #[.bool false])) w)
    (hK2 : ∀ j p w', left[j]? = some p → St w0 w' (H.set i (.mpi b d kvs r (left.eraseIdx j) (some p))) → wpList P ops Q rest (a.put dst (.tuple #[.bool true, p.1, p.2])) w') :
    wpList P ops Q (⟨dst, .next x false, ty, pos, after, none⟩ :: rest) a w :=
  wpList_plain rfl fun _ h => opA_next hS i hx hi (fun h1 => h _ _ (hK1 h1)) (fun j p w' h1 h2 => h _ _ (hK2 j p w' h1 h2))

theorem wpA_entry (hS : St w0 w H) (i : Nat) {p : Value × Value} (hx : a.eval x = .pointer (some ⟨r, 0, none⟩)) (hi : H[i]? = some (.mpi b d kvs r left (some p)))
    (hK : wpList P ops Q rest (a.put dst (.tuple #[p.1, p.2])) w) : wpList P ops Q (⟨dst, .entry x, ty, pos, after, none⟩ :: rest) a w :=
  wpList_plain rfl fun _ h => opA_entry hS i hx hi (h _ _ hK)
end

/-- The range is over: the map alone. -/
theorem St.unrange {w0 w : World} {H : List Hp} (hS : St w0 w H) (i : Nat) {b r : Nat} {d : TypeDesc} {kvs left : List (Value × Value)} {cur : Option (Value × Value)} (hi : H[i]? = some (.mpi b d kvs r left cur)) : St w0 w (H.set i (.mp b d kvs)) := by
  obtain ⟨es, clock, seen, hb, hst, hkv, hks, _⟩ := hS.at_ i hi
  exact hS.setAt i hi (Turn.refl _ _) (by simp [Hp.fp]) (by simp [Hp.fp]) ⟨es, clock, hb, hst, hkv, hks⟩

end Go.Proofs.Ytodojllclghoiaa
