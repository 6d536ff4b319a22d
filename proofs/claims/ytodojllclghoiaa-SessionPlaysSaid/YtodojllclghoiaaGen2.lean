/-
  General: part of a slice from an element on; a row's element written anew; what is owned beside an abstract state.
-/
import Derived.Test.YtodojllclghoiaaSlMore
import Derived.Test.YtodojllclghoiaaFieldV
import Derived.Test.YtodojllclghoiaaRegA
namespace Go.Proofs.Ytodojllclghoiaa
set_option linter.unusedVariables false
set_option linter.unusedSimpArgs false

/-- What is owned beside it to the front. -/
theorem opn_of_use {w0 w : World} {A R : List Hp} {Pd : World → List Hp → Prop} (hu : ∃ D : List Hp, St w0 w (D ++ (A ++ R)) ∧ ∀ w' R', St w0 w' (D ++ R') → Pd w' R') :
    ∃ D : List Hp, St w0 w (A ++ D) ∧ ∀ w' A', St w0 w' (A' ++ D) → Pd w' (A' ++ R) := by
  obtain ⟨D, hS, hb⟩ := hu
  exact ⟨D ++ R, hS.perm (swapL _ _ _), fun w' A' h => hb w' _ (h.perm (swapL _ _ _))⟩

/-- An element of a row is written anew. -/
theorem row_set {α : Type} {f : α → List Value} {k : Nat} (hf : ∀ x, (f x).length = k) {l : List α} {cur : List Value} {j : Nat} {y : α} (hj : j < l.length) (hx : cur.take (l.length * k) = l.flatMap f) (hl : l.length * k ≤ cur.length) :
    (cur.take (j * k) ++ f y ++ cur.drop (j * k + (f y).length)).take (l.length * k) = (l.set j y).flatMap f ∧ (cur.take (j * k) ++ f y ++ cur.drop (j * k + (f y).length)).length = cur.length := by
  have hjk : j * k + k ≤ l.length * k := by rw [← Nat.succ_mul]; exact Nat.mul_le_mul_right _ hj
  have hlen : (cur.take (j * k)).length = j * k := by rw [List.length_take]; omega
  constructor
  · have h1 : cur.take (j * k) = (l.take j).flatMap f := by
      have := flat_take hf l j
      rw [← this, ← hx, List.take_take, Nat.min_eq_left (by omega)]
    have h2 : (cur.drop (j * k + k)).take (l.length * k - (j * k + k)) = (l.drop (j + 1)).flatMap f := by
      have e1 : (cur.drop (j * k + k)).take (l.length * k - (j * k + k)) = (cur.take (l.length * k)).drop (j * k + k) := by rw [List.drop_take]
      rw [e1, hx, show j * k + k = (j + 1) * k by rw [Nat.succ_mul]]
      have := flat_take hf l (j + 1)
      conv => lhs; rw [← List.take_append_drop (j + 1) l, List.flatMap_append]
      rw [List.drop_left']
      rw [← this, List.length_take, flat_len hf]
      rw [Nat.min_eq_left (Nat.mul_le_mul_right _ hj)]
    rw [hf, List.take_append, List.take_of_length_le (l := cur.take (j * k) ++ f y) (by rw [List.length_append, hlen, hf]; omega), List.length_append, hlen, hf, h1, h2]
    rw [List.set_eq_take_append_cons_drop, if_pos hj]
    simp
  · rw [List.length_append, List.length_append, hlen, hf, List.length_drop]
    omega
/-- One cell of an element is written anew. -/
theorem row_set1 {α : Type} {f : α → List Value} {k : Nat} (hf : ∀ x, (f x).length = k) {l : List α} {cur : List Value} {j q : Nat} {z y : α} {v : Value} (hz : l[j]? = some z) (hx : cur.take (l.length * k) = l.flatMap f) (hl : l.length * k ≤ cur.length) (hq : q < k) (hy : f y = (f z).set q v) :
    (cur.set (j * k + q) v).take (l.length * k) = (l.set j y).flatMap f := by
  have hj := (List.getElem?_eq_some_iff.1 hz).1
  have hjk : j * k + k ≤ l.length * k := by rw [← Nat.succ_mul]; exact Nat.mul_le_mul_right _ hj
  rw [← (row_set hf (y := y) hj hx hl).1]
  congr 1
  have hlen : (cur.take (j * k)).length = j * k := by rw [List.length_take]; omega
  have hcell : ∀ r u, (f z)[r]? = some u → cur[j * k + r]? = some u := by
    intro r u hu
    have h1 := flat_get hf hz r u hu
    rw [← hx, List.getElem?_take] at h1
    split at h1
    · exact h1
    · cases h1
  apply List.ext_getElem?
  intro r
  rw [List.append_assoc]
  by_cases h1 : r < j * k
  · rw [List.getElem?_set_ne (by omega), List.getElem?_append_left (by omega), List.getElem?_take, if_pos h1]
  · obtain ⟨d, rfl⟩ : ∃ d, r = j * k + d := ⟨r - j * k, by omega⟩
    rw [List.getElem?_append_right (by omega), hlen, Nat.add_sub_cancel_left]
    by_cases h2 : d < k
    · rw [List.getElem?_append_left (by rw [hf]; exact h2), hy]
      by_cases h3 : d = q
      · subst h3
        rw [List.getElem?_set_self (by omega), List.getElem?_set_self (by rw [hf]; exact h2)]
      · rw [List.getElem?_set_ne (by omega), List.getElem?_set_ne (by omega)]
        obtain ⟨u, hu⟩ : ∃ u, (f z)[d]? = some u := ⟨_, List.getElem?_eq_getElem (by rw [hf]; exact h2)⟩
        rw [hu]; exact hcell d u hu
    · rw [List.getElem?_set_ne (by omega), List.getElem?_append_right (by rw [hf]; omega), hf, List.getElem?_drop]
      congr 1; omega

/-- 'xs[k:]' of a row. -/
def loAd (ao : Option Addr) (cap k size : Nat) : Option Addr := if cap - k = 0 then ao else ao.map (·.add (k * size))
def sizeP (P : Program) (e : TypeId) (size : Nat) : Bool := match P.info? e with | some i => i.size == size | none => false
theorem run_sliceLo {P : Program} {w : World} {t e : TypeId} {ao : Option Addr} {n cap size : Nat} {k : Nat} (ht : P.underlying t = some (.slice e)) (he : sizeP P e size = true) (h0 : k ≤ n) (h1 : n ≤ cap) :
    (Instr.sliceAt t (.slice ao n cap) (some (.int .i64 k)) none none).run P w = .ok (.slice (loAd ao cap k size) (n - k) (cap - k)) w := by
  unfold sizeP at he
  split at he
  · rename_i i hi
    have hs : i.size = size := by simpa using he
    subst hs
    have e3 : ((k : Int) ≤ (n : Int)) := by omega
    have e4 : ((n : Int) ≤ (cap : Int)) := by omega
    have e5 : (0 : Int) ≤ (k : Int) := by omega
    simp [Instr.sliceAt, Instr.slice, run_underlying ht, Instr.sliceBounds, Instr.sliceBound, asIntOf, h0, h1, sizeOf, typeInfo, hi, Result.andThen, loAd]
    by_cases hc : cap = k
    · rw [if_pos hc, if_pos (by omega)]
    · rw [if_neg hc, if_neg (by omega)]
  · cases he
theorem execOp_sliceLo {P : Program} {w : World} {ρ : Operand → Value} {t e : TypeId} {x y : Operand} {dst : Option Tmp} {ty : TypeId} {pos : String} {after : Array Edge} {gd : Option (Nat × Bool)} {ao : Option Addr} {n cap K size : Nat} {k : Int}
    (hx : ρ x = .slice ao n cap) (hy : ρ y = .int .i64 k) (ht : P.underlying t = some (.slice e)) (he : sizeP P e size = true) (h0 : k = (K : Int)) (h1 : K ≤ n) (h2 : n ≤ cap) :
    (execOp ρ ⟨dst, .slice t x (some y) none none, ty, pos, after, gd⟩).run P w = .ok (.value (.slice (loAd ao cap K size) (n - K) (cap - K))) w := by
  have hr := run_sliceLo (P := P) (w := w) (ao := ao) ht he h1 h2
  simp [execOp, hx, hy, h0, hr, Result.andThen]
theorem Src.lo {P : Program} {w : World} {e : TypeId} {size n cap k : Nat} {ao : Option Addr} {xs : List Value} (h : Hp.on w (.row e size ao n cap xs)) (hk : k ≤ n) (h1 : ∀ u ∈ xs, u.oneCell' = true) :
    Src P w size (.slice (loAd ao cap k size) (n - k) (cap - k)) (n - k) (xs.drop (k * size)) := by
  rcases row_head h with ⟨rfl, rfl, rfl⟩ | ⟨⟨g, rfl⟩, hn⟩
  · have hl := row_length h
    have : xs = [] := List.length_eq_zero_iff.1 (by simpa using hl)
    subst this
    simpa [loAd] using Src.nil (P := P) (w := w) size 0
  · by_cases hz : cap - k = 0
    · have hm : n - k = 0 := by omega
      unfold loAd
      rw [if_pos hz]
      exact Src.from_ h (k := k) (by omega) (.inl hm) h1
    · unfold loAd
      rw [if_neg hz]
      refine Src.from_ h (k := k) (by omega) (.inr ?_) h1
      simp [Addr.add]
      try (intro h0; exact h0.symm)
theorem Src.hi {P : Program} {w : World} {e : TypeId} {size n cap k : Nat} {ao : Option Addr} {xs : List Value} (h : Hp.on w (.row e size ao n cap xs)) (hk : k ≤ n) (h1 : ∀ u ∈ xs, u.oneCell' = true) :
    Src P w size (.slice ao k cap) k (xs.take (k * size)) :=
  Src.row (row_short h hk) (fun u hu => h1 u (List.mem_of_mem_take hu))

section
variable {P : Program} {ops : Array Oper} {rest : List Oper} {Q : Exit → Act → World → Prop} {dst : Option Tmp} {ty : TypeId} {pos : String} {after : Array Edge} {gd : Option (Nat × Bool)} {a : Act} {w : World} {K : Act → World → Prop}
theorem wpA_sliceLo {t e : TypeId} {x y : Operand} {ao : Option Addr} {n cap size k : Nat} (hx : a.eval x = .slice ao n cap) (hy : a.eval y = .int .i64 k) (ht : P.underlying t = some (.slice e)) (he : sizeP P e size = true) (h1 : k ≤ n) (h2 : n ≤ cap)
    (hK : wpList P ops Q rest (a.put dst (.slice (loAd ao cap k size) (n - k) (cap - k))) w) : wpList P ops Q (⟨dst, .slice t x (some y) none none, ty, pos, after, none⟩ :: rest) a w :=
  wpList_plain rfl fun _ h_ => by
    unfold Oper.wp
    rw [execOp_sliceLo hx hy ht he rfl h1 h2]
    exact h_ _ _ hK
end

/-- A region that draws: what its orders read is a part of what is owned, until e spoils it. -/
theorem wp_region_E2 {P : Program} {l : List Oper} {Q : Exit → Act → World → Prop} {a : Act} {w0 w : World} {H : List Hp} {id : Nat} {H0 : List Hp} (e : Nat) (hs : ∀ w, St w0 w H → St w0 w H0) (hS : St w0 w H) (hm : P.follows .mixedOrders = true)
    (h : ∀ w, RE e w0 H0 (Array.replicate l.length false) w → St w0 w H → wpAnyR P .any l.toArray Q (RE e w0 H0) l.length (Array.replicate l.length false) a w) : (Code.region id l.toArray true).wp P Q a w :=
  wp_region_R hm (by simpa using h _ (fun _ => hs _ hS.drew) hS.drew)

/-- The first elements that a test lets in. -/
theorem tw_of {α : Type} {p : α → Bool} : ∀ {l : List α} {j : Nat}, (∀ z ∈ l.take j, p z = true) → (j = l.length ∨ ∃ z, l[j]? = some z ∧ p z = false) → l.takeWhile p = l.take j ∧ l.dropWhile p = l.drop j
  | [], j, _, _ => by simp
  | a :: r, 0, _, h => by
    have ha : p a = false := by
      rcases h with h | ⟨z, h1, h2⟩
      · cases h
      · simp at h1; subst h1; exact h2
    simp [List.takeWhile_cons, List.dropWhile_cons, ha]
  | a :: r, j + 1, h1, h2 => by
    have ha : p a = true := h1 a (by simp)
    obtain ⟨e1, e2⟩ := tw_of (l := r) (j := j) (fun z hz => h1 z (by simp [hz])) (h2.elim (fun h => .inl (by simpa using h)) (fun ⟨z, h, h'⟩ => .inr ⟨z, by simpa using h, h'⟩))
    simp [List.takeWhile_cons, List.dropWhile_cons, ha, e1, e2]
end Go.Proofs.Ytodojllclghoiaa
