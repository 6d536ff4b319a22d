/-
  An evaluator of calls whose arguments and memory are known whole: abstract values, the abstract heap, and what they say of a world.
-/
import Derived.Test.YtkfalpmimdcneaaGreatDoorSlMore
import Derived.Test.YtkfalpmimdcneaaGreatDoorMapIter
import Derived.Test.YtkfalpmimdcneaaGreatDoorFieldV
namespace Go.Proofs.YtkfalpmimdcneaaGreatDoor
set_option linter.unusedVariables false
set_option linter.unusedSimpArgs false

/-- A value: one that names no block, or one that names blocks by their numbers in the abstract heap. -/
inductive AV where
  | lit (v : Value)
  | sym (v : Value)
  | cel (v : Value)
  | arg (i : Nat)
  | opq (i : Nat)
  | ptr (b off : Nat)
  | sl (b off len cap : Nat)
  | rs (b oe oc len : Nat)
  | ez (b : Nat)
  | mp (b : Nat)
  | yld (b : Nat)
  | agg (l : List AV)
  | tup (l : List AV)
  | fn (f : Fn) (a c : List AV)
  | ifc (t : TypeId) (v : AV)

instance : Inhabited AV := ⟨.lit undef⟩

/-- Where a block lies; the capacity of the slice that owns it, where that is drawn; an argument's value. -/
structure Loc where
  blk : Nat
  cap : Nat
  val : Value

instance : Inhabited Loc := ⟨⟨0, 0, undef⟩⟩

def boolV : Value → Option Bool
  | .bool b => some b
  | _ => none

mutual
/-- What a value means, where the blocks lie at ρ. -/
def R (ρ : List Loc) : AV → Value → Prop
  | .lit v, V => V = v
  | .sym v, V => V = v
  | .cel v, V => V = v ∧ v.oneCell' = true
  | .arg i, V => ∃ l, ρ[i]? = some l ∧ V = l.val ∧ V.oneCell' = true ∧ boolV V = none
  | .opq i, V => ∃ l a, ρ[i]? = some l ∧ l.val = .pointer (some a) ∧ V = .pointer (some a)
  | .ptr b o, V => ∃ l, ρ[b]? = some l ∧ V = .pointer (some ⟨l.blk, o, none⟩)
  | .sl b o n c, V => ∃ l, ρ[b]? = some l ∧ V = .slice (some ⟨l.blk, o, none⟩) n c
  | .rs b oe oc n, V => ∃ l o', ρ[b]? = some l ∧ (l.cap - oe ≠ 0 → o' = oc) ∧ V = .slice (some ⟨l.blk, o', none⟩) n (l.cap - oe)
  | .ez b, V => ∃ l o', ρ[b]? = some l ∧ V = .slice (some ⟨l.blk, o', none⟩) 0 0
  | .mp b, V => ∃ l, ρ[b]? = some l ∧ V = .map (some l.blk)
  | .yld b, V => ∃ l, ρ[b]? = some l ∧ V = .func (.yield l.blk) #[] #[]
  | .agg l, V => ∃ vs, RL ρ l vs ∧ V = .agg vs.toArray
  | .tup l, V => ∃ vs, RL ρ l vs ∧ V = .tuple vs.toArray
  | .fn f a c, V => ∃ va vc, RL ρ a va ∧ RL ρ c vc ∧ V = .func f va.toArray vc.toArray
  | .ifc t x, V => ∃ v, R ρ x v ∧ V = .iface t v
def RL (ρ : List Loc) : List AV → List Value → Prop
  | [], vs => vs = []
  | x :: r, vs => ∃ v t, vs = v :: t ∧ R ρ x v ∧ RL ρ r t
end

theorem get_pre {ρ ρ' : List Loc} (h : ρ <+: ρ') {b : Nat} {l : Loc} (hb : ρ[b]? = some l) : ρ'[b]? = some l := by
  obtain ⟨t, rfl⟩ := h
  rw [List.getElem?_append_left (List.getElem?_eq_some_iff.1 hb).1, hb]

mutual
theorem R_mono {ρ ρ' : List Loc} (h : ρ <+: ρ') : ∀ (x : AV) {V : Value}, R ρ x V → R ρ' x V
  | .lit v, _, hx => by simp only [R] at hx ⊢; exact hx
  | .sym v, _, hx => by simp only [R] at hx ⊢; exact hx
  | .cel v, _, hx => by simp only [R] at hx ⊢; exact hx
  | .arg i, _, hx => by simp only [R] at hx ⊢; obtain ⟨l, h1, h2⟩ := hx; exact ⟨l, get_pre h h1, h2⟩
  | .opq i, _, hx => by simp only [R] at hx ⊢; obtain ⟨l, a, h1, h2⟩ := hx; exact ⟨l, a, get_pre h h1, h2⟩
  | .ptr b o, _, hx => by simp only [R] at hx ⊢; obtain ⟨l, h1, h2⟩ := hx; exact ⟨l, get_pre h h1, h2⟩
  | .sl b o n c, _, hx => by simp only [R] at hx ⊢; obtain ⟨l, h1, h2⟩ := hx; exact ⟨l, get_pre h h1, h2⟩
  | .rs b oe oc n, _, hx => by simp only [R] at hx ⊢; obtain ⟨l, o', h1, h2⟩ := hx; exact ⟨l, o', get_pre h h1, h2⟩
  | .ez b, _, hx => by simp only [R] at hx ⊢; obtain ⟨l, o', h1, h2⟩ := hx; exact ⟨l, o', get_pre h h1, h2⟩
  | .mp b, _, hx => by simp only [R] at hx ⊢; obtain ⟨l, h1, h2⟩ := hx; exact ⟨l, get_pre h h1, h2⟩
  | .yld b, _, hx => by simp only [R] at hx ⊢; obtain ⟨l, h1, h2⟩ := hx; exact ⟨l, get_pre h h1, h2⟩
  | .agg l, _, hx => by simp only [R] at hx ⊢; obtain ⟨vs, h1, h2⟩ := hx; exact ⟨vs, RL_mono h l h1, h2⟩
  | .tup l, _, hx => by simp only [R] at hx ⊢; obtain ⟨vs, h1, h2⟩ := hx; exact ⟨vs, RL_mono h l h1, h2⟩
  | .fn f a c, _, hx => by simp only [R] at hx ⊢; obtain ⟨va, vc, h1, h2, h3⟩ := hx; exact ⟨va, vc, RL_mono h a h1, RL_mono h c h2, h3⟩
  | .ifc t x, _, hx => by simp only [R] at hx ⊢; obtain ⟨v, h1, h2⟩ := hx; exact ⟨v, R_mono h x h1, h2⟩
theorem RL_mono {ρ ρ' : List Loc} (h : ρ <+: ρ') : ∀ (l : List AV) {vs : List Value}, RL ρ l vs → RL ρ' l vs
  | [], _, hx => by simp only [RL] at hx ⊢; exact hx
  | x :: r, _, hx => by simp only [RL] at hx ⊢; obtain ⟨v, t, h1, h2, h3⟩ := hx; exact ⟨v, t, h1, R_mono h x h2, RL_mono h r h3⟩
end

section
variable {ρ : List Loc}
@[simp] theorem R_lit {v V : Value} : R ρ (.lit v) V ↔ V = v := by simp only [R]
@[simp] theorem R_sym {v V : Value} : R ρ (.sym v) V ↔ V = v := by simp only [R]
@[simp] theorem R_cel {v V : Value} : R ρ (.cel v) V ↔ V = v ∧ v.oneCell' = true := by simp only [R]
@[simp] theorem R_arg {i : Nat} {V : Value} : R ρ (.arg i) V ↔ ∃ l, ρ[i]? = some l ∧ V = l.val ∧ V.oneCell' = true ∧ boolV V = none := by simp only [R]
@[simp] theorem R_opq {i : Nat} {V : Value} : R ρ (.opq i) V ↔ ∃ l a, ρ[i]? = some l ∧ l.val = .pointer (some a) ∧ V = .pointer (some a) := by simp only [R]
@[simp] theorem R_ptr {b o : Nat} {V : Value} : R ρ (.ptr b o) V ↔ ∃ l, ρ[b]? = some l ∧ V = .pointer (some ⟨l.blk, o, none⟩) := by simp only [R]
@[simp] theorem R_sl {b o n c : Nat} {V : Value} : R ρ (.sl b o n c) V ↔ ∃ l, ρ[b]? = some l ∧ V = .slice (some ⟨l.blk, o, none⟩) n c := by simp only [R]
@[simp] theorem R_rs {b oe oc n : Nat} {V : Value} : R ρ (.rs b oe oc n) V ↔ ∃ l o', ρ[b]? = some l ∧ (l.cap - oe ≠ 0 → o' = oc) ∧ V = .slice (some ⟨l.blk, o', none⟩) n (l.cap - oe) := by simp only [R]
@[simp] theorem R_ez {b : Nat} {V : Value} : R ρ (.ez b) V ↔ ∃ l o', ρ[b]? = some l ∧ V = .slice (some ⟨l.blk, o', none⟩) 0 0 := by simp only [R]
@[simp] theorem R_mp {b : Nat} {V : Value} : R ρ (.mp b) V ↔ ∃ l, ρ[b]? = some l ∧ V = .map (some l.blk) := by simp only [R]
@[simp] theorem R_yld {b : Nat} {V : Value} : R ρ (.yld b) V ↔ ∃ l, ρ[b]? = some l ∧ V = .func (.yield l.blk) #[] #[] := by simp only [R]
@[simp] theorem R_agg {l : List AV} {V : Value} : R ρ (.agg l) V ↔ ∃ vs, RL ρ l vs ∧ V = .agg vs.toArray := by simp only [R]
@[simp] theorem R_tup {l : List AV} {V : Value} : R ρ (.tup l) V ↔ ∃ vs, RL ρ l vs ∧ V = .tuple vs.toArray := by simp only [R]
@[simp] theorem R_fn {f : Fn} {a c : List AV} {V : Value} : R ρ (.fn f a c) V ↔ ∃ va vc, RL ρ a va ∧ RL ρ c vc ∧ V = .func f va.toArray vc.toArray := by simp only [R]
@[simp] theorem R_ifc {t : TypeId} {x : AV} {V : Value} : R ρ (.ifc t x) V ↔ ∃ v, R ρ x v ∧ V = .iface t v := by simp only [R]
@[simp] theorem RL_nil {vs : List Value} : RL ρ [] vs ↔ vs = [] := by simp only [RL]
@[simp] theorem RL_cons {x : AV} {r : List AV} {vs : List Value} : RL ρ (x :: r) vs ↔ ∃ v t, vs = v :: t ∧ R ρ x v ∧ RL ρ r t := by simp only [RL]

theorem RL.cons {x : AV} {v : Value} {r : List AV} {vs : List Value} (h : R ρ x v) (t : RL ρ r vs) : RL ρ (x :: r) (v :: vs) := by rw [RL_cons]; exact ⟨v, vs, rfl, h, t⟩
theorem RL.none : RL ρ [] [] := by simp

theorem RL.length : ∀ {l : List AV} {vs : List Value}, RL ρ l vs → vs.length = l.length
  | [], vs, h => by rw [RL_nil] at h; simp [h]
  | x :: r, vs, h => by rw [RL_cons] at h; obtain ⟨v, t, rfl, _, h2⟩ := h; simp [RL.length h2]

theorem RL.get : ∀ {l : List AV} {vs : List Value}, RL ρ l vs → ∀ {i : Nat} {x : AV}, l[i]? = some x → ∃ v, vs[i]? = some v ∧ R ρ x v
  | [], _, _, i, x, h => by simp at h
  | y :: r, vs, h, i, x, hi => by
    rw [RL_cons] at h; obtain ⟨v, t, rfl, h1, h2⟩ := h
    cases i with
    | zero => simp at hi; subst hi; exact ⟨v, rfl, h1⟩
    | succ i => simpa using RL.get h2 (by simpa using hi)

theorem RL.append : ∀ {l l' : List AV} {vs vs' : List Value}, RL ρ l vs → RL ρ l' vs' → RL ρ (l ++ l') (vs ++ vs')
  | [], l', vs, vs', h, h' => by rw [RL_nil] at h; subst h; simpa using h'
  | x :: r, l', vs, vs', h, h' => by
    rw [RL_cons] at h; obtain ⟨v, t, rfl, h1, h2⟩ := h
    rw [List.cons_append, RL_cons]
    exact ⟨v, t ++ vs', rfl, h1, RL.append h2 h'⟩

theorem RL.take : ∀ {l : List AV} {vs : List Value} (n : Nat), RL ρ l vs → RL ρ (l.take n) (vs.take n)
  | [], vs, n, h => by rw [RL_nil] at h; subst h; simp
  | x :: r, vs, 0, h => by simp
  | x :: r, vs, n + 1, h => by
    rw [RL_cons] at h; obtain ⟨v, t, rfl, h1, h2⟩ := h
    rw [List.take_succ_cons, List.take_succ_cons, RL_cons]
    exact ⟨v, _, rfl, h1, RL.take n h2⟩

theorem RL.drop : ∀ {l : List AV} {vs : List Value} (n : Nat), RL ρ l vs → RL ρ (l.drop n) (vs.drop n)
  | [], vs, n, h => by rw [RL_nil] at h; subst h; simp
  | x :: r, vs, 0, h => by simpa using h
  | x :: r, vs, n + 1, h => by
    rw [RL_cons] at h; obtain ⟨v, t, rfl, h1, h2⟩ := h
    simpa using RL.drop n h2

theorem RL.lits (vs : List Value) : RL ρ (vs.map .lit) vs := by
  induction vs with
  | nil => simp
  | cons v r ih => rw [List.map_cons, RL_cons]; exact ⟨v, r, rfl, by simp, ih⟩

theorem RL.syms (vs : List Value) : RL ρ (vs.map .sym) vs := by
  induction vs with
  | nil => simp
  | cons v r ih => rw [List.map_cons, RL_cons]; exact ⟨v, r, rfl, by simp, ih⟩

theorem RL.append_inv : ∀ {l l' : List AV} {vs : List Value}, RL ρ (l ++ l') vs → ∃ a b, vs = a ++ b ∧ RL ρ l a ∧ RL ρ l' b
  | [], l', vs, h => ⟨[], vs, rfl, by simp, h⟩
  | x :: r, l', vs, h => by
    rw [List.cons_append, RL_cons] at h
    obtain ⟨v, t, rfl, h1, h2⟩ := h
    obtain ⟨a, b, rfl, h3, h4⟩ := RL.append_inv h2
    exact ⟨v :: a, b, rfl, by rw [RL_cons]; exact ⟨v, a, rfl, h1, h3⟩, h4⟩
end

mutual
/-- The value, where it names no block. -/
def pureV : AV → Option Value
  | .lit v => some v
  | .agg l => (pureL l).map fun vs => .agg vs.toArray
  | .tup l => (pureL l).map fun vs => .tuple vs.toArray
  | .fn f a c => match pureL a, pureL c with | some va, some vc => some (.func f va.toArray vc.toArray) | _, _ => none
  | .ifc t x => (pureV x).map (.iface t)
  | _ => none
def pureL : List AV → Option (List Value)
  | [] => some []
  | x :: r => match pureV x, pureL r with | some v, some t => some (v :: t) | _, _ => none
end

mutual
theorem pureV_R {ρ : List Loc} : ∀ (x : AV) {v V : Value}, pureV x = some v → R ρ x V → V = v
  | .lit v, _, _, h, hx => by simp only [pureV, Option.some.injEq] at h; rw [R_lit] at hx; rw [hx, h]
  | .agg l, _, _, h, hx => by
    rw [R_agg] at hx; obtain ⟨vs, h1, rfl⟩ := hx
    simp only [pureV, Option.map_eq_some_iff] at h; obtain ⟨ws, h2, rfl⟩ := h
    rw [pureL_R l h2 h1]
  | .tup l, _, _, h, hx => by
    rw [R_tup] at hx; obtain ⟨vs, h1, rfl⟩ := hx
    simp only [pureV, Option.map_eq_some_iff] at h; obtain ⟨ws, h2, rfl⟩ := h
    rw [pureL_R l h2 h1]
  | .fn f a c, _, _, h, hx => by
    rw [R_fn] at hx; obtain ⟨va, vc, h1, h2, rfl⟩ := hx
    simp only [pureV] at h
    split at h
    · rename_i wa wc ha hc
      cases h
      rw [pureL_R a ha h1, pureL_R c hc h2]
    · cases h
  | .ifc t x, _, _, h, hx => by
    rw [R_ifc] at hx; obtain ⟨v, h1, rfl⟩ := hx
    simp only [pureV, Option.map_eq_some_iff] at h; obtain ⟨w, h2, rfl⟩ := h
    rw [pureV_R x h2 h1]
  | .sym .., _, _, h, _ => by simp [pureV] at h
  | .cel .., _, _, h, _ => by simp [pureV] at h
  | .arg .., _, _, h, _ => by simp [pureV] at h
  | .opq .., _, _, h, _ => by simp [pureV] at h
  | .ptr .., _, _, h, _ => by simp [pureV] at h
  | .sl .., _, _, h, _ => by simp [pureV] at h
  | .rs .., _, _, h, _ => by simp [pureV] at h
  | .ez .., _, _, h, _ => by simp [pureV] at h
  | .mp .., _, _, h, _ => by simp [pureV] at h
  | .yld .., _, _, h, _ => by simp [pureV] at h
theorem pureL_R {ρ : List Loc} : ∀ (l : List AV) {vs ws : List Value}, pureL l = some ws → RL ρ l vs → vs = ws
  | [], _, _, h, hx => by simp only [pureL, Option.some.injEq] at h; rw [RL_nil] at hx; rw [hx, h]
  | x :: r, _, _, h, hx => by
    rw [RL_cons] at hx; obtain ⟨v, t, rfl, h1, h2⟩ := hx
    simp only [pureL] at h
    split at h
    · rename_i w u hw hu
      cases h
      rw [pureV_R x hw h1, pureL_R r hu h2]
    · cases h
end

/-! a trie -/
inductive PT (α : Type) where
  | nil
  | node (l : PT α) (v : Option α) (r : PT α)

namespace PT
variable {α : Type}
def get : PT α → Nat → Option α
  | .nil, _ => none
  | .node l v r, n => bif Nat.beq n 0 then v else bif Nat.beq (Nat.mod n 2) 1 then get l (Nat.div (Nat.sub n 1) 2) else get r (Nat.div (Nat.sub n 1) 2)
def one : Nat → Nat → α → PT α
  | 0, _, x => .node .nil (some x) .nil
  | f + 1, n, x => bif Nat.beq n 0 then .node .nil (some x) .nil else bif Nat.beq (Nat.mod n 2) 1 then .node (one f (Nat.div (Nat.sub n 1) 2) x) none .nil else .node .nil none (one f (Nat.div (Nat.sub n 1) 2) x)
def set : PT α → Nat → α → PT α
  | .nil, n, x => one n n x
  | .node l v r, n, x => bif Nat.beq n 0 then .node l (some x) r else bif Nat.beq (Nat.mod n 2) 1 then .node (set l (Nat.div (Nat.sub n 1) 2) x) v r else .node l v (set r (Nat.div (Nat.sub n 1) 2) x)

theorem get_node (l r : PT α) (v : Option α) (n : Nat) : get (.node l v r) n = if n = 0 then v else if n % 2 = 1 then get l ((n - 1) / 2) else get r ((n - 1) / 2) := by
  simp only [get, cond_eq_ite, Nat.beq_eq]
  rfl
theorem set_node (l r : PT α) (v : Option α) (n : Nat) (x : α) : set (.node l v r) n x = if n = 0 then .node l (some x) r else if n % 2 = 1 then .node (set l ((n - 1) / 2) x) v r else .node l v (set r ((n - 1) / 2) x) := by
  simp only [set, cond_eq_ite, Nat.beq_eq]
  rfl
theorem one_succ (f n : Nat) (x : α) : one (f + 1) n x = if n = 0 then .node .nil (some x) .nil else if n % 2 = 1 then .node (one f ((n - 1) / 2) x) none .nil else .node .nil none (one f ((n - 1) / 2) x) := by
  simp only [one, cond_eq_ite, Nat.beq_eq]
  rfl

theorem get_one (x : α) : ∀ (f n k : Nat), n ≤ f → get (one f n x) k = if k = n then some x else none := by
  intro f
  induction f with
  | zero =>
    intro n k h
    obtain rfl : n = 0 := by omega
    simp only [one, get_node, get]
    split <;> simp_all
  | succ f ih =>
    intro n k h
    rw [one_succ]
    split
    · rename_i hn
      subst hn
      rw [get_node]
      by_cases hk : k = 0
      · simp [hk]
      · simp [hk, get]
    · split
      · rw [get_node]
        by_cases hk : k = 0
        · rw [if_pos hk, if_neg (by omega)]
        · rw [if_neg hk]
          split
          · rw [ih _ _ (by omega)]
            by_cases e : k = n
            · rw [if_pos (by rw [e]), if_pos e]
            · rw [if_neg (by omega), if_neg e]
          · rw [if_neg (by rintro rfl; omega)]; simp only [get]
      · rw [get_node]
        by_cases hk : k = 0
        · rw [if_pos hk, if_neg (by omega)]
        · rw [if_neg hk]
          split
          · rw [if_neg (by rintro rfl; omega)]; simp only [get]
          · rw [ih _ _ (by omega)]
            by_cases e : k = n
            · rw [if_pos (by rw [e]), if_pos e]
            · rw [if_neg (by omega), if_neg e]

theorem get_set (x : α) : ∀ (t : PT α) (n k : Nat), get (set t n x) k = if k = n then some x else get t k
  | .nil, n, k => by simp only [set, get]; rw [get_one x n n k (Nat.le_refl _)]
  | .node l v r, n, k => by
    rw [set_node]
    by_cases hn : n = 0
    · rw [if_pos hn, get_node, get_node]
      by_cases hk : k = 0
      · rw [if_pos hk, if_pos (by omega)]
      · have : k ≠ n := by omega
        simp [hk, this]
    · rw [if_neg hn]
      by_cases h2 : n % 2 = 1
      · rw [if_pos h2, get_node, get_node]
        by_cases hk : k = 0
        · rw [if_pos hk, if_neg (by omega), if_pos hk]
        · rw [if_neg hk, if_neg hk]
          by_cases hk2 : k % 2 = 1
          · rw [if_pos hk2, if_pos hk2, get_set x l]
            by_cases e : k = n
            · rw [if_pos (by rw [e]), if_pos e]
            · rw [if_neg (by omega), if_neg e]
          · rw [if_neg hk2, if_neg hk2, if_neg (by rintro rfl; omega)]
      · rw [if_neg h2, get_node, get_node]
        by_cases hk : k = 0
        · rw [if_pos hk, if_neg (by omega), if_pos hk]
        · rw [if_neg hk, if_neg hk]
          by_cases hk2 : k % 2 = 1
          · rw [if_pos hk2, if_pos hk2, if_neg (by rintro rfl; omega)]
          · rw [if_neg hk2, if_neg hk2, get_set x r]
            by_cases e : k = n
            · rw [if_pos (by rw [e]), if_pos e]
            · rw [if_neg (by omega), if_neg e]
end PT

/-! the abstract heap -/
abbrev KV := List (Value × AV)

inductive AO where
  | blk (t : TypeId) (xs : List AV) (sz : Option Nat)
  | rob (t : TypeId) (xs : List AV)
  | mp (d : TypeDesc) (kvs : KV)
  | mpi (d : TypeDesc) (kvs : KV) (r : Nat) (left : KV) (cur : Option (Value × AV))
  | itr (b : Nat)
  | dfr
  | lop
  | dead

structure AH where
  n : Nat
  m : PT AO
  gl : List (Nat × AV)

def AH.get (A : AH) (b : Nat) : AO := (A.m.get b).getD .dead
def AH.set (A : AH) (b : Nat) (o : AO) : AH := ⟨A.n, A.m.set b o, A.gl⟩
def AH.push (A : AH) (o : AO) : AH := ⟨A.n + 1, A.m.set A.n o, A.gl⟩

theorem AH.get_set (A : AH) (b : Nat) (o : AO) (k : Nat) : (A.set b o).get k = if k = b then o else A.get k := by
  simp only [AH.get, AH.set, PT.get_set]; split <;> rfl
theorem AH.get_push (A : AH) (o : AO) (k : Nat) : (A.push o).get k = if k = A.n then o else A.get k := by
  simp only [AH.get, AH.push, PT.get_set]; split <;> rfl

/-- Keys, and what the values mean. -/
def RK (ρ : List Loc) (kvs : KV) (ws : List (Value × Value)) : Prop := ws.map (·.1) = kvs.map (·.1) ∧ RL ρ (kvs.map (·.2)) (ws.map (·.2))

/-- What lies behind the cells that are known. -/
def Tl (l : Loc) (vs tail : List Value) : Option Nat → Prop
  | none => tail = []
  | some s => (vs ++ tail).length = l.cap * s ∧ l.cap ≤ maxLen

/-- The entry that came last. -/
def Cur (ρ : List Loc) (wc : Option (Value × Value)) : Option (Value × AV) → Prop
  | none => wc = none
  | some p => ∃ v, R ρ p.2 v ∧ wc = some (p.1, v)

def RO (ρ : List Loc) (l : Loc) : AO → Hp → Prop
  | .blk t xs sz, h => ∃ vs tail, RL ρ xs vs ∧ h = .cells l.blk (vs ++ tail) t ∧ Tl l vs tail sz
  | .rob t xs, h => ∃ vs tail fr, RL ρ xs vs ∧ h = .obj l.blk (.cells (vs ++ tail).toArray t fr) ∧ (vs ++ tail).length = l.cap ∧ l.cap ≤ maxLen
  | .mp d kvs, h => ∃ ws, RK ρ kvs ws ∧ h = .mp l.blk d ws
  | .mpi d kvs r left cur, h => ∃ lr ws wl wc, ρ[r]? = some lr ∧ RK ρ kvs ws ∧ RK ρ left wl ∧ Cur ρ wc cur ∧ h = .mpi l.blk d ws lr.blk wl wc
  | .itr _, _ => True
  | .dfr, h => h = .obj l.blk (.deferred (some []))
  | .lop, h => ∃ r : Loop, h = .obj l.blk (.loop r) ∧ r.state = .ready ∧ r.pending = none
  | .dead, _ => True

theorem RK.mono {ρ ρ' : List Loc} (h : ρ <+: ρ') {kvs : KV} {ws : List (Value × Value)} (hk : RK ρ kvs ws) : RK ρ' kvs ws := ⟨hk.1, RL_mono h _ hk.2⟩

theorem RO.mono {ρ ρ' : List Loc} (h : ρ <+: ρ') {l : Loc} {o : AO} {x : Hp} (hx : RO ρ l o x) : RO ρ' l o x := by
  cases o with
  | blk t xs sz => obtain ⟨vs, tail, h1, h2⟩ := hx; exact ⟨vs, tail, RL_mono h _ h1, h2⟩
  | rob t xs => obtain ⟨vs, tail, fr, h1, h2⟩ := hx; exact ⟨vs, tail, fr, RL_mono h _ h1, h2⟩
  | mp d kvs => obtain ⟨ws, h1, h2⟩ := hx; exact ⟨ws, h1.mono h, h2⟩
  | mpi d kvs r left cur =>
    obtain ⟨lr, ws, wl, wc, h1, h2, h3, h4, h5⟩ := hx
    refine ⟨lr, ws, wl, wc, get_pre h h1, h2.mono h, h3.mono h, ?_, h5⟩
    cases cur with
    | none => exact h4
    | some p => obtain ⟨v, h6, h7⟩ := h4; exact ⟨v, R_mono h _ h6, h7⟩
  | itr b => trivial
  | dfr => exact hx
  | lop => exact hx
  | dead => trivial

/-- The heaplets of the abstract heap's blocks, then the frame. -/
structure HL (n : Nat) (Fr H : List Hp) : Prop where
  le : n ≤ H.length
  drop : H.drop n = Fr

theorem HL.set {n : Nat} {Fr H : List Hp} (h : HL n Fr H) {b : Nat} (hb : b < n) (x : Hp) : HL n Fr (H.set b x) :=
  ⟨by rw [List.length_set]; exact h.le, by rw [List.drop_set_of_lt hb]; exact h.drop⟩

/-- A heaplet put at the place n. -/
def ins (n : Nat) (x : Hp) (H : List Hp) : List Hp := H.take n ++ x :: H.drop n

theorem ins_perm (n : Nat) (x : Hp) (H : List Hp) : (x :: H).Perm (ins n x H) := by
  have := (List.perm_middle (a := x) (l₁ := H.take n) (l₂ := H.drop n)).symm
  rw [List.take_append_drop] at this
  exact this

theorem HL.ins {n : Nat} {Fr H : List Hp} (h : HL n Fr H) (x : Hp) : HL (n + 1) Fr (Go.Proofs.YtkfalpmimdcneaaGreatDoor.ins n x H) := by
  have hl : (H.take n).length = n := by rw [List.length_take]; have := h.le; omega
  refine ⟨?_, ?_⟩
  · unfold Go.Proofs.YtkfalpmimdcneaaGreatDoor.ins
    rw [List.length_append, hl]; simp
  · unfold Go.Proofs.YtkfalpmimdcneaaGreatDoor.ins
    rw [List.drop_append, List.drop_eq_nil_of_le (by rw [hl]; omega), hl, show n + 1 - n = 1 by omega]
    exact h.drop

theorem ins_lt {n : Nat} {x : Hp} {H : List Hp} (hn : n ≤ H.length) {b : Nat} (hb : b < n) : (ins n x H)[b]? = H[b]? := by
  unfold ins
  rw [List.getElem?_append_left (by rw [List.length_take]; omega), List.getElem?_take, if_pos hb]

theorem ins_at {n : Nat} {x : Hp} {H : List Hp} (hn : n ≤ H.length) : (ins n x H)[n]? = some x := by
  unfold ins
  have hl : (H.take n).length = n := by rw [List.length_take]; omega
  rw [List.getElem?_append_right (by rw [hl]; exact Nat.le_refl _), hl, Nat.sub_self]; rfl

/-- The world w is as the abstract heap says, the blocks lying at ρ; the frame Fr beside. -/
structure Rel (w0 : World) (Fr : List Hp) (ρ : List Loc) (A : AH) (w : World) : Prop where
  len : ρ.length = A.n
  gl : ∀ p ∈ A.gl, ∃ V, w0.cell? ⟨p.1, 0, none⟩ = some V ∧ R ρ p.2 V
  ex : ∃ H : List Hp, HL A.n Fr H ∧ St w0 w H ∧ ∀ b l h, ρ[b]? = some l → H[b]? = some h → RO ρ l (A.get b) h

section
variable {w0 w w' : World} {Fr : List Hp} {ρ : List Loc} {A : AH}

theorem Rel.init (w : World) : Rel w [] [] ⟨0, .nil, []⟩ w := ⟨rfl, by simp, [], ⟨Nat.le_refl _, rfl⟩, St.init w, by simp⟩

theorem Rel.lt (h : Rel w0 Fr ρ A w) {b : Nat} {l : Loc} (hb : ρ[b]? = some l) : b < A.n := by rw [← h.len]; exact (List.getElem?_eq_some_iff.1 hb).1

/-- The heaplet of a block. -/
theorem Rel.out (h : Rel w0 Fr ρ A w) {b : Nat} {l : Loc} (hb : ρ[b]? = some l) : ∃ (H : List Hp) (x : Hp), HL A.n Fr H ∧ St w0 w H ∧ (∀ b l h, ρ[b]? = some l → H[b]? = some h → RO ρ l (A.get b) h) ∧ H[b]? = some x ∧ RO ρ l (A.get b) x := by
  obtain ⟨H, h1, h2, h3⟩ := h.ex
  have hlt : b < H.length := Nat.lt_of_lt_of_le (h.lt hb) h1.le
  exact ⟨H, H[b], h1, h2, h3, List.getElem?_eq_getElem hlt, h3 b l _ hb (List.getElem?_eq_getElem hlt)⟩

theorem Rel.put {H : List Hp} (h : Rel w0 Fr ρ A w) (h1 : HL A.n Fr H) (h3 : ∀ b l h, ρ[b]? = some l → H[b]? = some h → RO ρ l (A.get b) h) {b : Nat} {l : Loc} (hb : ρ[b]? = some l) {x : Hp} {o : AO} (hS : St w0 w' (H.set b x)) (ho : RO ρ l o x) : Rel w0 Fr ρ (A.set b o) w' := by
  refine ⟨h.len, h.gl, H.set b x, h1.set (h.lt hb) x, hS, fun c m y hc hy => ?_⟩
  rw [AH.get_set]
  by_cases e : c = b
  · subst e
    rw [if_pos rfl]
    rw [hb] at hc; cases hc
    have hlt : c < H.length := Nat.lt_of_lt_of_le (h.lt hb) h1.le
    rw [List.getElem?_set_self hlt] at hy; cases hy
    exact ho
  · rw [if_neg e]
    rw [List.getElem?_set_ne (Ne.symm e)] at hy
    exact h3 c m y hc hy

theorem Rel.push {H : List Hp} (h : Rel w0 Fr ρ A w) (h1 : HL A.n Fr H) (h3 : ∀ b l h, ρ[b]? = some l → H[b]? = some h → RO ρ l (A.get b) h) {l : Loc} {x : Hp} {o : AO} (hS : St w0 w' (x :: H)) (ho : RO (ρ ++ [l]) l o x) : Rel w0 Fr (ρ ++ [l]) (A.push o) w' := by
  refine ⟨by simp [AH.push, h.len], fun p hp => let ⟨V, q1, q2⟩ := h.gl p hp; ⟨V, q1, R_mono (List.prefix_append _ _) _ q2⟩, ins A.n x H, h1.ins x, hS.perm (ins_perm _ _ _), fun c m y hc hy => ?_⟩
  rw [AH.get_push]
  by_cases e : c = A.n
  · subst e
    rw [if_pos rfl]
    rw [List.getElem?_append_right (by rw [h.len]; exact Nat.le_refl _), h.len] at hc
    rw [ins_at h1.le] at hy
    simp at hc hy
    subst hc; subst hy
    exact ho
  · rw [if_neg e]
    have hlt : c < A.n := by have := (List.getElem?_eq_some_iff.1 hc).1; simp [h.len] at this; omega
    rw [List.getElem?_append_left (by rw [h.len]; exact hlt)] at hc
    rw [ins_lt h1.le hlt] at hy
    exact (h3 c m y hc hy).mono (List.prefix_append _ _)

theorem Rel.drew (h : Rel w0 Fr ρ A w) : Rel w0 Fr ρ A w.drew := by
  obtain ⟨H, h1, h2, h3⟩ := h.ex
  exact ⟨h.len, h.gl, H, h1, h2.drew, h3⟩

/-- The block's number behind a push. -/
theorem Rel.last (h : Rel w0 Fr ρ A w) (l : Loc) : (ρ ++ [l])[A.n]? = some l := by
  rw [List.getElem?_append_right (by rw [h.len]; exact Nat.le_refl _), h.len]; simp

/-- A new block of the frame's. -/
theorem Rel.frame' {H : List Hp} (h : Rel w0 Fr ρ A w) (h1 : HL A.n Fr H) (h3 : ∀ b l h, ρ[b]? = some l → H[b]? = some h → RO ρ l (A.get b) h) {x : Hp} (hS : St w0 w' (x :: H)) : Rel w0 (x :: Fr) ρ A w' := by
  refine ⟨h.len, h.gl, ins A.n x H, ⟨?_, ?_⟩, hS.perm (ins_perm _ _ _), fun c m y hc hy => ?_⟩
  · have := h1.le; unfold ins; rw [List.length_append, List.length_take]; simp; omega
  · have hl : (H.take A.n).length = A.n := by rw [List.length_take]; have := h1.le; omega
    unfold ins
    rw [List.drop_append, List.drop_eq_nil_of_le (by rw [hl]; exact Nat.le_refl _), hl, Nat.sub_self, List.drop_zero, h1.drop]; rfl
  · have hlt : c < A.n := h.lt hc
    rw [ins_lt h1.le hlt] at hy
    exact h3 c m y hc hy

/-- A block of the frame's is taken in. -/
theorem Rel.absorb {A' : AH} (h : Rel w0 Fr ρ A w) {x : Hp} {Fr' : List Hp} (hp : Fr.Perm (x :: Fr')) {l : Loc} {o : AO} (ho : RO (ρ ++ [l]) l o x) (hA : A' = A.push o) : Rel w0 Fr' (ρ ++ [l]) A' w := by
  subst hA
  obtain ⟨H, h1, h2, h3⟩ := h.ex
  have e : H = H.take A.n ++ Fr := by rw [← h1.drop, List.take_append_drop]
  have hl : (H.take A.n).length = A.n := by rw [List.length_take]; have := h1.le; omega
  have hS : St w0 w (x :: (H.take A.n ++ Fr')) := by
    refine h2.perm ?_
    rw [e]
    rw [show (H.take A.n ++ Fr).take A.n = H.take A.n from by rw [List.take_append_of_le_length (by omega), List.take_of_length_le (by omega)]]
    exact (hp.append_left _).trans List.perm_middle
  have h0 : Rel w0 Fr' ρ A w := ⟨h.len, h.gl, H.take A.n ++ Fr', ⟨by rw [List.length_append]; omega, by rw [List.drop_append_of_le_length (by omega), List.drop_of_length_le (by omega)]; rfl⟩, hS.tail, fun c m y hc hy => by
    have hlt := h.lt hc
    rw [List.getElem?_append_left (by omega), List.getElem?_take, if_pos hlt] at hy
    exact h3 c m y hc hy⟩
  exact h0.push ⟨by rw [List.length_append]; omega, by rw [List.drop_append_of_le_length (by omega), List.drop_of_length_le (by omega)]; rfl⟩ (fun c m y hc hy => by
    have hlt := h.lt hc
    rw [List.getElem?_append_left (by omega), List.getElem?_take, if_pos hlt] at hy
    exact h3 c m y hc hy) hS ho
end
end Go.Proofs.YtkfalpmimdcneaaGreatDoor
