/-
  Arguments of which nothing is known but that each cell is one: what the evaluator is told of them.
-/
import Derived.Test.YtkfalpmimdcneaaGreatDoorEv12
import Derived.Test.YtkfalpmimdcneaaGreatDoorOpen
namespace Go.Proofs.YtkfalpmimdcneaaGreatDoor
set_option linter.unusedVariables false
set_option linter.unusedSimpArgs false
open Go.RowKit

theorem cellOk_one {P : Program} {w : World} {r : Reach} {b : Nat} {t : TypeId} {v : Value} (h : Cell.ok P w r b t v) : v.oneCell' = true := by
  unfold Cell.ok at h
  split at h <;> first | rfl | exact h.elim

theorem cellWide_one {P : Program} {w : World} {r : Reach} {b : Nat} {t : TypeId} {v : Value} (h : Cell.okWide P w r b t v) : v.oneCell' = true := by
  unfold Cell.okWide at h
  split at h <;> first | rfl | exact cellOk_one h

def scalarT (P : Program) (t : TypeId) : Bool := match P.underlying t with
  | some (.struct _) | some (.array _ _) => false
  | _ => true

theorem RdV.cel {P : Program} {w : World} {t : TypeId} {v : Value} (h : RdV P w t v) (hs : scalarT P t = true) : v.oneCell' = true := by
  obtain ⟨⟨r, b, hv⟩, _⟩ := h
  unfold Value.okWide at hv
  unfold scalarT at hs
  split at hv
  · rename_i e; rw [e] at hs; cases hs
  · rename_i e; rw [e] at hs; cases hs
  · exact cellWide_one hv

theorem RdV.cels {P : Program} {w : World} {t : TypeId} {v : Value} (h : RdV P w t v) (hs : scalarT P t = false) : ∃ cs : List Value, v = .agg cs.toArray ∧ cs.length = P.cellsOf t ∧ ∀ c ∈ cs, c.oneCell' = true := by
  obtain ⟨⟨r, b, hv⟩, _⟩ := h
  unfold Value.okWide at hv
  unfold scalarT at hs
  have key : ∃ cs, v = .agg cs ∧ cs.size = P.cellsOf t ∧ Row.okWide P w r b t cs := by
    split at hv
    · exact hv
    · exact hv
    · rename_i h1 h2
      split at hs
      · rename_i e; exact (h1 _ e).elim
      · rename_i e; exact (h2 _ _ e).elim
      · cases hs
  obtain ⟨cs, rfl, h1, ts, _, _, h4⟩ := key
  refine ⟨cs.toList, rfl, by simpa using h1, fun c hc => ?_⟩
  obtain ⟨i, hi⟩ := List.getElem?_of_mem hc
  obtain ⟨u, _, h5⟩ := h4 i c (by simpa using hi)
  exact cellWide_one h5

theorem RL_cels {ρ : List Loc} : ∀ {cs : List Value}, (∀ c ∈ cs, c.oneCell' = true) → RL ρ (cs.map .cel) cs
  | [], _ => RL.none
  | c :: r, h => RL.cons (by rw [R_cel]; exact ⟨rfl, h c (by simp)⟩) (RL_cels fun x hx => h x (List.mem_cons_of_mem _ hx))

theorem R_cels {ρ : List Loc} {cs : List Value} (h : ∀ c ∈ cs, c.oneCell' = true) : R ρ (.agg (cs.map .cel)) (.agg cs.toArray) := by
  rw [R_agg]; exact ⟨cs, RL_cels h, rfl⟩

theorem says_bare {prim : CallF} {P : Program} (hm : P.follows .mixedOrders = true) (hprim : ∀ w0, SF P w0 prim) {depth fuel : Nat} {f : FuncId} {args : List AV} {vs : List Value} (h : saysTrue prim P depth fuel f args = true) (hv : RL [] args vs) (w : World) : Calls P f vs.toArray w fun e w' => e = .returned (.bool true) ∧ St w w' [] :=
  (says_calls hm hprim h hv w).mono fun _ _ ⟨h1, _, h2⟩ => ⟨h1, h2.sub (List.nil_sublist _)⟩

theorem cellWide_nb {P : Program} {w : World} {r : Reach} {b : Nat} {t : TypeId} {v : Value} (h : Cell.okWide P w r b t v) (hb : (match P.underlying t with | some .bool => false | _ => true) = true) : boolV v = none := by
  cases v with
  | bool x =>
    unfold Cell.okWide Cell.ok at h
    split at hb
    · cases hb
    · rename_i hne
      split at h
      all_goals first | contradiction | skip
      split at h <;> first | contradiction | (rename_i e _ ; exact (hne e).elim) | exact h.elim | skip
  | _ => rfl

theorem cellWide_b {P : Program} {w : World} {r : Reach} {b : Nat} {t : TypeId} {v : Value} (h : Cell.okWide P w r b t v) (hb : (match P.underlying t with | some .bool => false | _ => true) = false) : ∃ x, v = .bool x := by
  have ht : P.underlying t = some .bool := by
    split at hb
    · assumption
    · cases hb
  simp only [Cell.okWide, Cell.ok, ht] at h
  cases v <;> first | exact ⟨_, rfl⟩ | exact h.elim

/-- Whether the i-th cell of a type's values is of no bool's type. -/
def nbAt (P : Program) (t : TypeId) (i : Nat) : Bool := match P.cellTypes P.depth t with
  | some ts => match ts[i % ts.length]? with
    | some u => match P.underlying u with | some .bool => false | _ => true
    | none => false
  | none => false

def bAt (P : Program) (t : TypeId) (i : Nat) : Bool := match P.cellTypes P.depth t with
  | some ts => match ts[i % ts.length]? with
    | some u => match P.underlying u with | some .bool => true | _ => false
    | none => false
  | none => false

theorem RdV.cells1 {P : Program} {w : World} {t : TypeId} {v : Value} (h : RdV P w t v) (hs : scalarT P t = false) :
    ∃ cs : List Value, v = .agg cs.toArray ∧ cs.length = P.cellsOf t ∧ ∀ i c, cs[i]? = some c → c.oneCell' = true ∧ (nbAt P t i = true → boolV c = none) ∧ (bAt P t i = true → ∃ x, c = .bool x) := by
  obtain ⟨⟨r, b, hv⟩, _⟩ := h
  unfold Value.okWide at hv
  unfold scalarT at hs
  have key : ∃ cs, v = .agg cs ∧ cs.size = P.cellsOf t ∧ Row.okWide P w r b t cs := by
    split at hv
    · exact hv
    · exact hv
    · rename_i h1 h2
      split at hs
      · rename_i e; exact (h1 _ e).elim
      · rename_i e; exact (h2 _ _ e).elim
      · cases hs
  obtain ⟨cs, rfl, h1, ts, hts, _, h4⟩ := key
  refine ⟨cs.toList, rfl, by simpa using h1, fun i c hc => ?_⟩
  obtain ⟨u, h6, h5⟩ := h4 i c (by simpa using hc)
  refine ⟨cellWide_one h5, fun hn => ?_, fun hn => ?_⟩
  · unfold nbAt at hn
    rw [hts] at hn
    simp only [h6] at hn
    exact cellWide_nb h5 hn
  · unfold bAt at hn
    rw [hts] at hn
    simp only [h6] at hn
    refine cellWide_b h5 ?_
    split at hn
    · rfl
    · cases hn

theorem RdV.cel1 {P : Program} {w : World} {t : TypeId} {v : Value} (h : RdV P w t v) (hs : scalarT P t = true) (hb : (match P.underlying t with | some .bool => false | _ => true) = true) : boolV v = none := by
  obtain ⟨⟨r, b, hv⟩, _⟩ := h
  unfold Value.okWide at hv
  unfold scalarT at hs
  split at hv
  · rename_i e; rw [e] at hs; cases hs
  · rename_i e; rw [e] at hs; cases hs
  · exact cellWide_nb hv hb

theorem R_argI {ρ : List Loc} {i : Nat} {V : Value} (h : ρ[i]? = some ⟨0, 0, V⟩) (h1 : V.oneCell' = true) (h2 : boolV V = none) : R ρ (.arg i) V := by
  rw [R_arg]; exact ⟨_, h, rfl, h1, h2⟩
theorem R_celI {ρ : List Loc} {V : Value} (h1 : V.oneCell' = true) : R ρ (.cel V) V := by
  rw [R_cel]; exact ⟨rfl, h1⟩
theorem R_aggI {ρ : List Loc} {l : List AV} {vs : List Value} (h : RL ρ l vs) : R ρ (.agg l) (.agg vs.toArray) := by
  rw [R_agg]; exact ⟨vs, h, rfl⟩

/-- Blocks that stand for arguments alone. -/
def deads : Nat → AH → AH
  | 0, A => A
  | k + 1, A => deads k (A.push .dead)

theorem Rel.pushDead {w0 w : World} {Fr : List Hp} {ρ : List Loc} {A : AH} (h : Rel w0 Fr ρ A w) (l : Loc) : Rel w0 Fr (ρ ++ [l]) (A.push .dead) w := by
  obtain ⟨H, h1, h2, h3⟩ := h.ex
  exact h.push h1 h3 (h2.nilRow 0 0) trivial

theorem Rel.args {w0 w : World} {Fr : List Hp} : ∀ (vs : List Value) {ρ : List Loc} {A : AH}, Rel w0 Fr ρ A w → Rel w0 Fr (ρ ++ vs.map (⟨0, 0, ·⟩)) (deads vs.length A) w
  | [], _, _, h => by simpa [deads] using h
  | v :: r, ρ, A, h => by
    have := Rel.args r (h.pushDead ⟨0, 0, v⟩)
    simpa [deads] using this

/-- Whether a call answers 'true', whatever happens and whatever its k cells are. -/
def saysTrueN (prim : CallF) (P : Program) (depth fuel : Nat) (f : FuncId) (k : Nat) (args : List AV) : Bool := match evF prim P fuel depth f args (deads k ⟨0, .nil, []⟩) with
  | some outs => outs.all fun p => match p.1 with | .lit (.bool true) => true | _ => false
  | none => false

theorem saysN_calls {prim : CallF} {P : Program} (hm : P.follows .mixedOrders = true) (hprim : ∀ w0, SF P w0 prim) {depth fuel : Nat} {f : FuncId} {args : List AV} {vs xs : List Value} {k : Nat} (hk : xs.length = k) (h : saysTrueN prim P depth fuel f k args = true) (hv : RL (xs.map (⟨0, 0, ·⟩)) args vs) (w : World) : Calls P f vs.toArray w fun e w' => e = .returned (.bool true) ∧ St w w' [] := by
  subst hk
  unfold saysTrueN at h
  split at h
  · rename_i outs ho
    refine evF_sound hm (hprim w) depth f _ _ outs ho [] _ w vs (Rel.args xs (Rel.init w)) (by simpa using hv) _ fun v A' ρ' V w' hmem hp hr hv => ?_
    have := List.all_eq_true.1 h _ hmem
    simp only at this
    split at this
    · rw [R_lit] at hv
      obtain ⟨H, _, hS, _⟩ := hr.ex
      exact ⟨by rw [hv], hS.sub (List.nil_sublist _)⟩
    · cases this
  · cases h

/-- .. with package-level variables of one cell. -/
def saysTrueG (prim : CallF) (P : Program) (depth fuel : Nat) (f : FuncId) (k : Nat) (gl : List (Nat × AV)) (args : List AV) : Bool := match evF prim P fuel depth f args ⟨(deads k ⟨0, .nil, []⟩).n, (deads k ⟨0, .nil, []⟩).m, gl⟩ with
  | some outs => outs.all fun p => match p.1 with | .lit (.bool true) => true | _ => false
  | none => false

theorem Rel.withGl {w0 w : World} {Fr : List Hp} {ρ : List Loc} {A : AH} (h : Rel w0 Fr ρ A w) {gl : List (Nat × AV)} (hg : ∀ p ∈ gl, ∃ V, w0.cell? ⟨p.1, 0, none⟩ = some V ∧ R ρ p.2 V) : Rel w0 Fr ρ ⟨A.n, A.m, gl⟩ w := ⟨h.len, hg, h.ex⟩

theorem saysG_calls {prim : CallF} {P : Program} (hm : P.follows .mixedOrders = true) (hprim : ∀ w0, SF P w0 prim) {depth fuel : Nat} {f : FuncId} {args : List AV} {vs xs : List Value} {k : Nat} {gl : List (Nat × AV)} (hk : xs.length = k) (h : saysTrueG prim P depth fuel f k gl args = true) (hv : RL (xs.map (⟨0, 0, ·⟩)) args vs) (w : World)
    (hg : ∀ p ∈ gl, ∃ V, w.cell? ⟨p.1, 0, none⟩ = some V ∧ R (xs.map (⟨0, 0, ·⟩)) p.2 V) : Calls P f vs.toArray w fun e w' => e = .returned (.bool true) ∧ St w w' [] := by
  subst hk
  unfold saysTrueG at h
  split at h
  · rename_i outs ho
    have hR0 := Rel.args xs (Rel.init w)
    rw [List.nil_append] at hR0
    refine evF_sound hm (hprim w) depth f _ _ outs ho [] _ w vs (hR0.withGl hg) hv _ fun v A' ρ' V w' hmem hp hr hv => ?_
    have := List.all_eq_true.1 h _ hmem
    simp only at this
    split at this
    · rw [R_lit] at hv
      obtain ⟨H, _, hS, _⟩ := hr.ex
      exact ⟨by rw [hv], hS.sub (List.nil_sublist _)⟩
    · cases this
  · cases h

theorem R_sent {ρ : List Loc} {T i : Nat} {a : Addr} (h : ρ[i]? = some ⟨0, 0, .pointer (some a)⟩) : R ρ (.ifc T (.opq i)) (.iface T (.pointer (some a))) := by
  rw [R_ifc]; exact ⟨_, by rw [R_opq]; exact ⟨_, a, h, rfl, rfl⟩, rfl⟩
end Go.Proofs.YtkfalpmimdcneaaGreatDoor
