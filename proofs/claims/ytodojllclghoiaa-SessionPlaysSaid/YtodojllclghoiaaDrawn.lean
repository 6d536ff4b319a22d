/-
  A region that draws its order, carried by a relation 'R' of what is listed and the world: an operation that yields its value in every world that the relation allows, while what comes behind it isn't listed, may be taken first.
-/
import Derived.Test.YtodojllclghoiaaArms
import Derived.OrdersHeld
import Derived.Deep.RegionHeld
namespace Go.Proofs.Ytodojllclghoiaa
set_option linter.unusedVariables false
set_option linter.unusedSimpArgs false

section
variable {P : Program} {ops : Array Oper} {Q : Exit → Act → World → Prop} {md : Region.Mode} {R : Array Bool → World → Prop}

def wpAnyR (P : Program) (md : Region.Mode) (ops : Array Oper) (Q : Exit → Act → World → Prop) (R : Array Bool → World → Prop) : Nat → Array Bool → Act → World → Prop
  | 0, listed, a, w => Region.ready md ops listed = [] ∧ Q .normal a w
  | fuel + 1, listed, a, w =>
    (Region.ready md ops listed = [] → Q .normal a w) ∧
    ∀ i ∈ Region.ready md ops listed, wpOp P ops Q i (fun a' w' => R (listed.setIfInBounds i true) w' ∧ wpAnyR P md ops Q R fuel (listed.setIfInBounds i true) a' w') a w

theorem wpAny_of_R : ∀ (fuel : Nat) (listed : Array Bool) (a : Act) (w : World), wpAnyR P md ops Q R fuel listed a w → wpAny P md ops Q fuel listed a w
  | 0, _, _, _, h => h
  | fuel + 1, _, _, _, h => ⟨h.1, fun i hi => wpOp_mono (fun a' w' h' => wpAny_of_R fuel _ a' w' h'.2) (h.2 i hi)⟩

theorem wpAnyR_first {i : Nat} {oi : Oper} {v : Value} {F : World → Prop} (hi : ops[i]? = some oi) (hsel : ∀ (j : Nat) (o : Oper) cs b, ops[j]? = some o → o.op ≠ .select cs b)
    (hQ : ∀ c a w, Q (.panic c) (a.put oi.dst v) w → Q (.panic c) a w) (D : List Nat)
    (hcl : ∀ j ∈ D, ∃ oj, ops[j]? = some oj ∧ ∃ e ∈ oj.after, Region.binds md e = true ∧ (e.on = i ∨ e.on ∈ D))
    (hRi : ∀ l w, R (l.setIfInBounds i true) w ↔ R l w) (hF : ∀ l w, (∀ j ∈ D, l.getD j true = false) → R l w → F w) :
    ∀ (fuel : Nat) (listed : Array Bool) (a : Act) (w : World),
      (∀ j oj, ops[j]? = some oj → j ≠ i → listed.getD j true = false → (∀ e ∈ oj.after, Region.binds md e = true → e.on ≠ i) → oi.apart ops oj = true) →
      i ∈ Region.ready md ops listed → (∀ j ∈ D, listed.getD j true = false) → YieldsIf P ops F oi v a → R listed w →
      wpAnyR P md ops Q R fuel (listed.setIfInBounds i true) (a.put oi.dst v) w → wpAnyR P md ops Q R (fuel + 1) listed a w := by
  intro fuel
  induction fuel with
  | zero =>
    intro listed a w _ hr hD hy hR H
    refine ⟨fun h => (by rw [h] at hr; cases hr), fun j hj => ?_⟩
    by_cases hji : j = i
    · subst hji; exact hy.wpOp hi (hF _ _ hD hR) ⟨(hRi _ _).2 hR, H⟩
    · have := ready_mono hj hji
      rw [H.1] at this
      cases this
  | succ fuel ih =>
    intro listed a w hfree hr hD hy hR H
    refine ⟨fun h => (by rw [h] at hr; cases hr), fun j hj => ?_⟩
    by_cases hji : j = i
    · subst hji; exact hy.wpOp hi (hF _ _ hD hR) ⟨(hRi _ _).2 hR, H⟩
    · have h1 := H.2 j (ready_mono hj hji)
      obtain ⟨hjun, oj, hoj, hall⟩ := mem_ready.1 hj
      have off : ∀ k, listed.getD k true = false → listed.getD k false = false := fun k hk => by
        rcases Nat.lt_or_ge k listed.size with h' | h'
        · simpa [h'] using hk
        · simp [Array.getElem?_eq_none h']
      have hnot : ∀ e ∈ oj.after, Region.binds md e = true → e.on ≠ i := fun e he hb heq => by
        have h1 := hall e he hb
        rw [heq, off i (mem_ready.1 hr).1] at h1
        cases h1
      have hjD : j ∉ D := fun hm => by
        obtain ⟨oj', ho', e, he, hb, hor⟩ := hcl j hm
        rw [hoj] at ho'
        obtain rfl := Option.some.inj ho'
        rcases hor with h2 | h2
        · exact hnot e he hb h2
        · have h3 := hall e he hb
          rw [off e.on (hD _ h2)] at h3
          cases h3
      have h2 := wpOp_putIf hoj (hfree j oj hoj hji hjun hnot) (fun cs b => hsel i oi cs b hi) (fun cs b => hsel j oj cs b hoj) hQ hy h1
      have hfree' : ∀ k ok, ops[k]? = some ok → k ≠ i → (listed.setIfInBounds j true).getD k true = false →
          (∀ e ∈ ok.after, Region.binds md e = true → e.on ≠ i) → oi.apart ops ok = true := fun k ok hk hki hun hno => by
        refine hfree k ok hk hki ?_ hno
        by_cases hjk : j = k
        · subst hjk; exact hjun
        · rw [getD_set_ne true hjk] at hun; exact hun
      refine wpOp_mono (fun a' w' h3 => ?_) h2
      have h4 := h3.2.1
      rw [Array.setIfInBounds_comm _ _ (Ne.symm hji)] at h4
      have h5 := (hRi _ _).1 h4
      refine ⟨h5, ih (listed.setIfInBounds j true) a' w' hfree' (ready_mono hr (Ne.symm hji)) (fun k hk => ?_) h3.1 h5 ?_⟩
      · rw [getD_set_ne true (fun e : j = k => hjD (by rw [e]; exact hk))]
        exact hD k hk
      · rw [Array.setIfInBounds_comm _ _ hji]
        exact h3.2.2

/-- Whether every number of D waits, by one binding edge, for i or for another of D. -/
def waits (md : Region.Mode) (ops : Array Oper) (i : Nat) (D : List Nat) : Bool :=
  D.all fun j => match ops[j]? with | some oj => oj.after.any fun e => Region.binds md e && (e.on == i || D.contains e.on) | none => false

theorem waits_spec {i : Nat} {D : List Nat} (h : waits md ops i D = true) : ∀ j ∈ D, ∃ oj, ops[j]? = some oj ∧ ∃ e ∈ oj.after, Region.binds md e = true ∧ (e.on = i ∨ e.on ∈ D) := by
  intro j hj
  have h1 := List.all_eq_true.1 h j hj
  split at h1
  · rename_i oj hoj
    obtain ⟨e, he, h2⟩ := Array.any_eq_true'.1 h1
    simp only [Bool.and_eq_true, Bool.or_eq_true, beq_iff_eq, List.contains_iff_mem] at h2
    exact ⟨oj, hoj, e, he, h2.1, h2.2⟩
  · cases h1

/-- Number i is taken first. -/
theorem wpAnyR_take {i : Nat} {oi : Oper} {v : Value} {F : World → Prop} {fuel : Nat} {listed : Array Bool} {a : Act} {w : World} (D : List Nat) (hi : ops[i]? = some oi)
    (hs : Region.noSelect ops = true) (hf : Region.free md ops listed i = true) (hr : (Region.ready md ops listed).contains i = true) (hcl : waits md ops i D = true) (hD : (D.all fun j => !listed.getD j true) = true)
    (hQ : ∀ c a w, Q (.panic c) (a.put oi.dst v) w → Q (.panic c) a w) (hRi : ∀ l w, R (l.setIfInBounds i true) w ↔ R l w) (hF : ∀ l w, (∀ j ∈ D, l.getD j true = false) → R l w → F w) (hy : YieldsIf P ops F oi v a) (hR : R listed w)
    (h : wpAnyR P md ops Q R fuel (listed.setIfInBounds i true) (a.put oi.dst v) w) : wpAnyR P md ops Q R (fuel + 1) listed a w :=
  wpAnyR_first hi (Region.noSelect_spec hs) hQ D (waits_spec hcl) hRi hF fuel listed a w (Region.free_spec hi hf) (by simpa using hr) (fun j hj => by simpa using List.all_eq_true.1 hD j hj) hy hR h

/-- The one that may come up. -/
theorem wpAnyR_one {i : Nat} {o : Oper} {fuel : Nat} {listed : Array Bool} {a : Act} {w : World} (hr : Region.ready md ops listed = [i]) (ho : ops[i]? = some o) (hg : o.guard = none)
    (h : ∀ K : Act → World → Prop, (∀ a' w', R (listed.setIfInBounds i true) w' → wpAnyR P md ops Q R fuel (listed.setIfInBounds i true) a' w' → K a' w') → Oper.wp P o a w K Q) : wpAnyR P md ops Q R (fuel + 1) listed a w := by
  refine ⟨fun h0 => (by rw [hr] at h0; cases h0), fun j hj => ?_⟩
  rw [hr] at hj
  obtain rfl := List.mem_singleton.1 hj
  refine wpOp_step ho (fun K' hK => ?_)
  have hw : Region.wanted o (yielded ops a.tmps) = true := by simp [Region.wanted, hg]
  rw [if_pos hw]
  exact h K' (fun a' w' h1 h2 => hK a' w' ⟨h1, h2⟩)

theorem wpAnyR_takeL {l : List Oper} {i : Nat} {oi : Oper} {v : Value} {F : World → Prop} {fuel : Nat} {listed : Array Bool} {a : Act} {w : World} (D : List Nat) (hi : l[i]? = some oi)
    (hs : Region.noSelect l.toArray = true) (hf : Region.free md l.toArray listed i = true) (hr : (Region.ready md l.toArray listed).contains i = true) (hcl : waits md l.toArray i D = true) (hD : (D.all fun j => !listed.getD j true) = true)
    (hQ : ∀ c a w, Q (.panic c) (a.put oi.dst v) w → Q (.panic c) a w) (hRi : ∀ l w, R (l.setIfInBounds i true) w ↔ R l w) (hF : ∀ l w, (∀ j ∈ D, l.getD j true = false) → R l w → F w) (hg : oi.guard = none)
    (hy : ∀ w, F w → (execOp a.eval oi).run P w = .ok (.value v) w) (hR : R listed w)
    (h : wpAnyR P md l.toArray Q R fuel (listed.setIfInBounds i true) (a.put oi.dst v) w) : wpAnyR P md l.toArray Q R (fuel + 1) listed a w :=
  wpAnyR_take (F := F) D (by simpa using hi) hs hf hr hcl hD hQ hRi hF (Or.inl ⟨by simp [Region.wanted, hg], hy⟩) hR h

theorem wpAnyR_oneL {l : List Oper} {i : Nat} {o : Oper} {fuel : Nat} {listed : Array Bool} {a : Act} {w : World} (hr : Region.ready md l.toArray listed = [i]) (ho : l[i]? = some o) (hg : o.guard = none)
    (h : ∀ K : Act → World → Prop, (∀ a' w', R (listed.setIfInBounds i true) w' → wpAnyR P md l.toArray Q R fuel (listed.setIfInBounds i true) a' w' → K a' w') → Oper.wp P o a w K Q) : wpAnyR P md l.toArray Q R (fuel + 1) listed a w :=
  wpAnyR_one hr (by simpa using ho) hg h

theorem wpAnyR_done {listed : Array Bool} {a : Act} {w : World} (hr : Region.ready md ops listed = []) (h : Q .normal a w) : ∀ fuel, wpAnyR P md ops Q R fuel listed a w
  | 0 => ⟨hr, h⟩
  | _ + 1 => ⟨fun _ => h, by rw [hr]; simp⟩

theorem wp_region_R {id : Nat} {a : Act} {w : World} (hm : P.follows .mixedOrders = true)
    (h : wpAnyR P .any ops Q R ops.size (Array.replicate ops.size false) a w.drew) : (Code.region id ops true).wp P Q a w :=
  wp_region_any hm (wpAny_of_R _ _ _ _ h)
end

section
variable {P : Program} {ops : Array Oper} {C : World → Prop} {Q : Act → Prop}

/-- A region that draws and only reads: at whatever class of worlds. -/
theorem wp_region_quietC {id : Nat} {Q : Exit → Act → World → Prop} {a : Act} {w : World} {l : List Oper} (C : World → Prop) (hm : P.follows .mixedOrders = true) (hB : Region.lexB .any l.toArray = true) (hC : C w.drew)
    (h : wpQuiet P l.toArray C (fun a' => ∀ w', C w' → Q .normal a' w') l a) : (Code.region id l.toArray true).wp P Q a w :=
  wp_region_quiet (C := C) hm hB hC (by simpa using h)
end
end Go.Proofs.Ytodojllclghoiaa
