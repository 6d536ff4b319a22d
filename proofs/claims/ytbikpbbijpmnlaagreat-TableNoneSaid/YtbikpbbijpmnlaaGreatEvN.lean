/-
  Arguments of which nothing is known but that each cell is one: what the evaluator is told of them.
-/
import Derived.Test.YtbikpbbijpmnlaaGreatEv12
import Derived.Test.YtbikpbbijpmnlaaGreatOpen
namespace Go.Proofs.YtbikpbbijpmnlaaGreat
set_option linter.unusedVariables false
set_option linter.unusedSimpArgs false
open Go.RowKit

theorem cellOk_one {P : Program} {w : World} {r : Reach} {b : Nat} {t : TypeId} {v : Value} (h : Cell.ok P w r b t v) : v.oneCell' = true := by
  unfold Cell.ok at h
  split at h <;> first | rfl | exact h.elim

theorem cellWide_one {P : Program} {w : World} {r : Reach} {b : Nat} {t : TypeId} {v : Value} (h : Cell.okWide P w r b t v) : v.oneCell' = true := by
  unfold Cell.okWide at h
  split at h <;> first | rfl | exact cellOk_one h

def scalarT (P : Program) (t : TypeId) : Bool := match P.underlying t with
  | some (.struct _) | some (.array _ _) => false
  | _ => true

theorem RdV.cel {P : Program} {w : World} {t : TypeId} {v : Value} (h : RdV P w t v) (hs : scalarT P t = true) : v.oneCell' = true := by
  obtain ⟨⟨r, b, hv⟩, _⟩ := h
  unfold Value.okWide at hv
  unfold scalarT at hs
  split at hv
  · rename_i e; rw [e] at hs; cases hs
  · rename_i e; rw [e] at hs; cases hs
  · exact cellWide_one hv

theorem RdV.cels {P : Program} {w : World} {t : TypeId} {v : Value} (h : RdV P w t v) (hs : scalarT P t = false) : ∃ cs : List Value, v = .agg cs.toArray ∧ cs.length = P.cellsOf t ∧ ∀ c ∈ cs, c.oneCell' = true := by
  obtain ⟨⟨r, b, hv⟩, _⟩ := h
  unfold Value.okWide at hv
  unfold scalarT at hs
  have key : ∃ cs, v = .agg cs ∧ cs.size = P.cellsOf t ∧ Row.okWide P w r b t cs := by
    split at hv
    · exact hv
    · exact hv
    · rename_i h1 h2
      split at hs
      · rename_i e; exact (h1 _ e).elim
      · rename_i e; exact (h2 _ _ e).elim
      · cases hs
  obtain ⟨cs, rfl, h1, ts, _, _, h4⟩ := key
  refine ⟨cs.toList, rfl, by simpa using h1, fun c hc => ?_⟩
  obtain ⟨i, hi⟩ := List.getElem?_of_mem hc
  obtain ⟨u, _, h5⟩ := h4 i c (by simpa using hi)
  exact cellWide_one h5

theorem RL_cels {ρ : List Loc} : ∀ {cs : List Value}, (∀ c ∈ cs, c.oneCell' = true) → RL ρ (cs.map .cel) cs
  | [], _ => RL.none
  | c :: r, h => RL.cons (by rw [R_cel]; exact ⟨rfl, h c (by simp)⟩) (RL_cels fun x hx => h x (List.mem_cons_of_mem _ hx))

theorem R_cels {ρ : List Loc} {cs : List Value} (h : ∀ c ∈ cs, c.oneCell' = true) : R ρ (.agg (cs.map .cel)) (.agg cs.toArray) := by
  rw [R_agg]; exact ⟨cs, RL_cels h, rfl⟩

theorem says_bare {prim : CallF} {P : Program} (hm : P.follows .mixedOrders = true) (hprim : ∀ w0, SF P w0 prim) {depth fuel : Nat} {f : FuncId} {args : List AV} {vs : List Value} (h : saysTrue prim P depth fuel f args = true) (hv : RL [] args vs) (w : World) : Calls P f vs.toArray w fun e w' => e = .returned (.bool true) ∧ St w w' [] :=
  (says_calls hm hprim h hv w).mono fun _ _ ⟨h1, _, h2⟩ => ⟨h1, h2.sub (List.nil_sublist _)⟩
end Go.Proofs.YtbikpbbijpmnlaaGreat
