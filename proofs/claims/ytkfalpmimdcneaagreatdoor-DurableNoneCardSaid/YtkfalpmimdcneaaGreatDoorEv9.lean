/-
  The evaluator: a region that draws its order: run in the text's order, and whatever is not ordered must come to the same.
-/
import Derived.Test.YtkfalpmimdcneaaGreatDoorEv8
namespace Go.Proofs.YtkfalpmimdcneaaGreatDoor
set_option linter.unusedVariables false
set_option linter.unusedSimpArgs false

/-! values, compared -/
def intEq : Int → Int → Bool
  | .ofNat m, .ofNat n => Nat.beq m n
  | .negSucc m, .negSucc n => Nat.beq m n
  | _, _ => false
theorem intEq_out {m n : Int} (h : intEq m n = true) : m = n := by
  cases m <;> cases n <;> simp [intEq] at h <;> rw [h]

def vEq1 : Value → Value → Bool
  | .bool a, .bool b => a == b
  | .int k m, .int k' n => decide (k = k') && intEq m n
  | .string a, .string b => beqU a.data.toList b.data.toList
  | .pointer none, .pointer none => true
  | .slice none n c, .slice none n' c' => Nat.beq n n' && Nat.beq c c'
  | .map none, .map none => true
  | .nilFunc, .nilFunc => true
  | .nilIface, .nilIface => true
  | _, _ => false
theorem vEq1_out {a b : Value} (h : vEq1 a b = true) : a = b := by
  unfold vEq1 at h
  split at h
  · simp at h; rw [h]
  · simp only [Bool.and_eq_true, decide_eq_true_eq] at h; rw [h.1, intEq_out h.2]
  · rename_i a b
    have := beqU_iff.1 h
    cases a; cases b
    simp only [Value.string.injEq, ByteArray.mk.injEq]
    exact Array.ext' this
  · rfl
  · simp only [Bool.and_eq_true] at h; rw [Nat.eq_of_beq_eq_true h.1, Nat.eq_of_beq_eq_true h.2]
  · rfl
  · rfl
  · rfl
  · cases h

def vsEq : List Value → List Value → Bool
  | [], [] => true
  | x :: r, y :: s => vEq1 x y && vsEq r s
  | _, _ => false
theorem vsEq_out : ∀ {a b : List Value}, vsEq a b = true → a = b
  | [], [], _ => rfl
  | x :: r, y :: s, h => by simp only [vsEq, Bool.and_eq_true] at h; rw [vEq1_out h.1, vsEq_out h.2]
  | [], _ :: _, h => by cases h
  | _ :: _, [], h => by cases h

def vEq (a b : Value) : Bool := match a, b with
  | .agg x, .agg y => vsEq x.toList y.toList
  | .tuple x, .tuple y => vsEq x.toList y.toList
  | .func (.func f) x c, .func (.func g) y d => Nat.beq f g && (vsEq x.toList y.toList && vsEq c.toList d.toList)
  | a, b => vEq1 a b
theorem vEq_out {a b : Value} (h : vEq a b = true) : a = b := by
  unfold vEq at h
  split at h
  · rw [Array.ext' (vsEq_out h)]
  · rw [Array.ext' (vsEq_out h)]
  · simp only [Bool.and_eq_true] at h
    rw [Nat.eq_of_beq_eq_true h.1, Array.ext' (vsEq_out h.2.1), Array.ext' (vsEq_out h.2.2)]
  · exact vEq1_out h

mutual
def aEq : AV → AV → Bool
  | .lit v, .lit u => vEq v u
  | .ptr b o, .ptr b' o' => Nat.beq b b' && Nat.beq o o'
  | .sl b o n c, .sl b' o' n' c' => (Nat.beq b b' && Nat.beq o o') && (Nat.beq n n' && Nat.beq c c')
  | .rs b o n c, .rs b' o' n' c' => (Nat.beq b b' && Nat.beq o o') && (Nat.beq n n' && Nat.beq c c')
  | .ez b, .ez b' => Nat.beq b b'
  | .mp b, .mp b' => Nat.beq b b'
  | .arg i, .arg j => Nat.beq i j
  | .opq i, .opq j => Nat.beq i j
  | .agg l, .agg l' => aEqL l l'
  | .tup l, .tup l' => aEqL l l'
  | .fn (.func f) a c, .fn (.func g) a' c' => Nat.beq f g && (aEqL a a' && aEqL c c')
  | .ifc t x, .ifc t' x' => Nat.beq t t' && aEq x x'
  | _, _ => false
def aEqL : List AV → List AV → Bool
  | [], [] => true
  | x :: r, y :: s => aEq x y && aEqL r s
  | _, _ => false
end

mutual
theorem aEq_out : ∀ {x y : AV}, aEq x y = true → x = y := by
  intro x y h
  unfold aEq at h
  split at h <;> (try simp only [Bool.and_eq_true] at h)
  · rw [vEq_out h]
  · rw [Nat.eq_of_beq_eq_true h.1, Nat.eq_of_beq_eq_true h.2]
  · rw [Nat.eq_of_beq_eq_true h.1.1, Nat.eq_of_beq_eq_true h.1.2, Nat.eq_of_beq_eq_true h.2.1, Nat.eq_of_beq_eq_true h.2.2]
  · rw [Nat.eq_of_beq_eq_true h.1.1, Nat.eq_of_beq_eq_true h.1.2, Nat.eq_of_beq_eq_true h.2.1, Nat.eq_of_beq_eq_true h.2.2]
  · rw [Nat.eq_of_beq_eq_true h]
  · rw [Nat.eq_of_beq_eq_true h]
  · rw [Nat.eq_of_beq_eq_true h]
  · rw [Nat.eq_of_beq_eq_true h]
  · rw [aEqL_out h]
  · rw [aEqL_out h]
  · rw [Nat.eq_of_beq_eq_true h.1, aEqL_out h.2.1, aEqL_out h.2.2]
  · rw [Nat.eq_of_beq_eq_true h.1, aEq_out h.2]
  · cases h
theorem aEqL_out : ∀ {l m : List AV}, aEqL l m = true → l = m := by
  intro l m h
  unfold aEqL at h
  split at h
  · rfl
  · simp only [Bool.and_eq_true] at h; rw [aEq_out h.1, aEqL_out h.2]
  · cases h
end

/-! what an operation touches -/
def isEff (P : Program) : Op → Bool
  | .convert _ u _ => match P.underlying u with | some (.slice _) => true | _ => false
  | .move _ | .assign _ | .pick .. | .load .. | .fieldAddr .. | .nilCheck _ | .build .. | .makeFunc .. | .makeInterface .. | .extract .. | .field .. | .index .. | .indexAddr .. | .slice .. | .lookup .. | .entry _ | .typeAssert .. | .binOp .. | .unOp .. => false
  | .call { callee := .builtin .len, .. } | .call { callee := .builtin .cap, .. } | .call { callee := .builtin .max, .. } | .call { callee := .builtin .min, .. } => false
  | _ => true

def isNH : Op → Bool
  | .move _ | .assign _ | .pick .. | .fieldAddr .. | .nilCheck _ | .build .. | .extract .. | .field .. | .unOp .. => true
  | _ => false

section
variable {P : Program} {w0 w : World} {Fr : List Hp} {ρ ρ' : List Loc} {A A' : AH} {a : Act} {T T' : Tm} {callF : CallF} {ev ev' : Operand → AV}

theorem orPure_keeps {o : Oper} {v : AV} (h : (orPure P ev o A).run callF A = some [(v, A')]) : A' = A := by
  unfold orPure at h
  split at h
  · cases h; rfl
  · cases h; rfl
  · cases h

theorem orPure_any {o : Oper} {v : AV} (h : (orPure P ev o A).run callF A = some [(v, A')]) (B : AH) : (orPure P ev o B).run callF B = some [(v, B)] := by
  unfold orPure at h ⊢
  split at h
  · cases h; rfl
  · cases h; rfl
  · cases h

theorem of_keeps {o : Oper} {f : Outs} {v : AV} (hf : f = some [(v, A')] → A' = A) (h : (OR.of f (fun _ => orPure P ev o A)).run callF A = some [(v, A')]) : A' = A := by
  rcases or_of h with h | h
  · exact hf h
  · exact orPure_keeps h

/-- What keeps the heap, keeps it. -/
theorem ne_step {o : Oper} (hn : isEff P o.op = false) {v : AV} (h : aStep callF P ev o A = some [(v, A')]) : A' = A := by
  obtain ⟨dst, op, ty, pos, after, gd⟩ := o
  unfold aStep aOp at h
  simp only at h hn
  split at h
  case h_1 => cases h; rfl
  case h_2 => cases h; rfl
  case h_38 => cases h
  case h_39 => exact orPure_keeps h
  case h_37 => simp [isEff] at hn
  all_goals first
    | (simp [isEff] at hn; done)
    | exact of_keeps (fun q => by
        first
        | (unfold aPick at q; (try simp only [cond_eq_ite] at q); (repeat' split at q) <;> first | (cases q; done) | (cases q; rfl) | (rw [Option.map_eq_some_iff] at q; obtain ⟨_, _, q⟩ := q; cases q; rfl))
        | (unfold aLoad at q; (try simp only [cond_eq_ite] at q); (repeat' split at q) <;> first | (cases q; done) | (cases q; rfl) | (rw [Option.map_eq_some_iff] at q; obtain ⟨_, _, q⟩ := q; cases q; rfl))
        | (unfold aFieldAddr at q; (try simp only [cond_eq_ite] at q); (repeat' split at q) <;> first | (cases q; done) | (cases q; rfl) | (rw [Option.map_eq_some_iff] at q; obtain ⟨_, _, q⟩ := q; cases q; rfl))
        | (unfold aNilCheck at q; (try simp only [cond_eq_ite] at q); (repeat' split at q) <;> first | (cases q; done) | (cases q; rfl) | (rw [Option.map_eq_some_iff] at q; obtain ⟨_, _, q⟩ := q; cases q; rfl))
        | (unfold aBuild at q; (try simp only [cond_eq_ite] at q); (repeat' split at q) <;> first | (cases q; done) | (cases q; rfl) | (rw [Option.map_eq_some_iff] at q; obtain ⟨_, _, q⟩ := q; cases q; rfl))
        | (unfold aMakeFunc at q; (try simp only [cond_eq_ite] at q); (repeat' split at q) <;> first | (cases q; done) | (cases q; rfl) | (rw [Option.map_eq_some_iff] at q; obtain ⟨_, _, q⟩ := q; cases q; rfl))
        | (unfold aIface at q; (try simp only [cond_eq_ite] at q); (repeat' split at q) <;> first | (cases q; done) | (cases q; rfl) | (rw [Option.map_eq_some_iff] at q; obtain ⟨_, _, q⟩ := q; cases q; rfl))
        | (unfold aExtract at q; (try simp only [cond_eq_ite] at q); (repeat' split at q) <;> first | (cases q; done) | (cases q; rfl) | (rw [Option.map_eq_some_iff] at q; obtain ⟨_, _, q⟩ := q; cases q; rfl))
        | (unfold aField at q; (try simp only [cond_eq_ite] at q); (repeat' split at q) <;> first | (cases q; done) | (cases q; rfl) | (rw [Option.map_eq_some_iff] at q; obtain ⟨_, _, q⟩ := q; cases q; rfl))
        | (unfold aIndex at q; (try simp only [cond_eq_ite] at q); (repeat' split at q) <;> first | (cases q; done) | (cases q; rfl) | (rw [Option.map_eq_some_iff] at q; obtain ⟨_, _, q⟩ := q; cases q; rfl))
        | (unfold aIndexAddr at q; (try simp only [cond_eq_ite] at q); (repeat' split at q) <;> first | (cases q; done) | (cases q; rfl) | (rw [Option.map_eq_some_iff] at q; obtain ⟨_, _, q⟩ := q; cases q; rfl))
        | (unfold aSlice at q; (try simp only [cond_eq_ite] at q); (repeat' split at q) <;> first | (cases q; done) | (cases q; rfl) | (rw [Option.map_eq_some_iff] at q; obtain ⟨_, _, q⟩ := q; cases q; rfl))
        | (unfold aLookup at q; (try simp only [cond_eq_ite] at q); (repeat' split at q) <;> first | (cases q; done) | (cases q; rfl) | (rw [Option.map_eq_some_iff] at q; obtain ⟨_, _, q⟩ := q; cases q; rfl))
        | (unfold aEntry at q; (try simp only [cond_eq_ite] at q); (repeat' split at q) <;> first | (cases q; done) | (cases q; rfl) | (rw [Option.map_eq_some_iff] at q; obtain ⟨_, _, q⟩ := q; cases q; rfl))
        | (unfold aAssert at q; (try simp only [cond_eq_ite] at q); (repeat' split at q) <;> first | (cases q; done) | (cases q; rfl) | (rw [Option.map_eq_some_iff] at q; obtain ⟨_, _, q⟩ := q; cases q; rfl))
        | (rcases orE_out q with q | q
           rotate_left
           · (unfold aUnsafe at q; (try simp only [cond_eq_ite] at q); (repeat' split at q) <;> first | (cases q; done) | (cases q; rfl))
           rcases aConv_or q with q | ⟨⟨e, he⟩, _⟩
           · (unfold aToString at q; (try simp only [cond_eq_ite] at q); (repeat' split at q) <;> first | (cases q; done) | (cases q; rfl) | (rw [Option.map_eq_some_iff] at q; obtain ⟨_, _, q⟩ := q; cases q; rfl))
           · (simp only [isEff, he, Bool.true_eq_false] at hn))
        | (rcases orE_out q with q | q
           · (unfold aEql at q; (try simp only [cond_eq_ite] at q); (repeat' split at q) <;> first | (cases q; done) | (cases q; rfl) | (rw [Option.map_eq_some_iff] at q; obtain ⟨_, _, q⟩ := q; cases q; rfl))
           · (rcases orE_out q with q | q
              · (unfold aEqlP at q; (try simp only [cond_eq_ite] at q); (repeat' split at q) <;> first | (cases q; done) | (cases q; rfl))
              · (unfold aEqlI at q; (try simp only [cond_eq_ite] at q); (repeat' split at q) <;> first | (cases q; done) | (cases q; rfl))))
        | (unfold aLen at q; (try simp only [cond_eq_ite] at q); (repeat' split at q) <;> first | (cases q; done) | (cases q; rfl) | (rw [Option.map_eq_some_iff] at q; obtain ⟨_, _, q⟩ := q; cases q; rfl))
        | (unfold aCap at q; (try simp only [cond_eq_ite] at q); (repeat' split at q) <;> first | (cases q; done) | (cases q; rfl) | (rw [Option.map_eq_some_iff] at q; obtain ⟨_, _, q⟩ := q; cases q; rfl))) h

theorem of_any {o : Oper} {f : AH → Outs} {v : AV} (hf : f A = some [(v, A')] → f A ≠ none → ∀ B, f B = some [(v, B)]) (hz : f A = none → ∀ B, f B = none) (h : (OR.of (f A) (fun _ => orPure P ev o A)).run callF A = some [(v, A')]) (B : AH) :
    (OR.of (f B) (fun _ => orPure P ev o B)).run callF B = some [(v, B)] := by
  cases hq : f A with
  | none => rw [hz hq B]; rw [hq] at h; exact orPure_any h B
  | some l => rw [hq] at h; rw [hf (by rw [hq]; exact h) (by rw [hq]; simp) B]; rfl

/-- What does not look at the heap. -/
theorem nh_step {o : Oper} (hn : isNH o.op = true) {v : AV} (h : aStep callF P ev o A = some [(v, A')]) (B : AH) : aStep callF P ev o B = some [(v, B)] := by
  obtain ⟨dst, op, ty, pos, after, gd⟩ := o
  cases op <;> simp only [isNH, Bool.false_eq_true] at hn
  case move x => cases h; rfl
  case assign x => cases h; rfl
  case pick c x y =>
    exact of_any (f := aPick (ev c) (ev x) (ev y)) (fun q _ B => by unfold aPick at q ⊢; split at q <;> cases q <;> rfl) (fun q B => by unfold aPick at q ⊢; split at q <;> first | (cases q; done) | rfl) h B
  case fieldAddr s x f =>
    refine of_any (f := aFieldAddr P s (ev x) f) (fun q _ B => ?_) (fun q B => ?_) h B
    · unfold aFieldAddr at q ⊢
      split at q
      · split at q
        · split at q
          · split at q <;> cases q; rfl
          · cases q
        · cases q
      · cases q
    · unfold aFieldAddr at q ⊢
      split at q
      · split at q
        · split at q
          · split at q
            · cases q
            · rfl
          · rfl
        · rfl
      · rfl
  case nilCheck x => exact of_any (f := aNilCheck (ev x)) (fun q _ B => by unfold aNilCheck at q ⊢; split at q <;> cases q; rfl) (fun q B => by unfold aNilCheck at q ⊢; split at q <;> first | (cases q; done) | rfl) h B
  case build t parts =>
    have h' : (OR.of (aBuild P t (parts.toList.map fun p => (p.1, ev p.2)) A) (fun _ => orPure P ev ⟨dst, .build t parts, ty, pos, after, gd⟩ A)).run callF A = some [(v, A')] := h
    refine of_any (f := aBuild P t (parts.toList.map fun (p : Nat × Operand) => (p.1, ev p.2))) (fun q _ B => ?_) (fun q B => ?_) h' B
    · unfold aBuild at q ⊢
      split at q
      · cases q
      · split at q
        · split at q
          · rw [Option.map_eq_some_iff] at q ⊢; obtain ⟨l, h1, h2⟩ := q; cases h2; exact ⟨l, h1, rfl⟩
          · cases q
        · split at q
          · rw [Option.map_eq_some_iff] at q ⊢; obtain ⟨l, h1, h2⟩ := q; cases h2; exact ⟨l, h1, rfl⟩
          · cases q
        · cases q
    · unfold aBuild at q ⊢
      split at q
      · rfl
      · split at q
        · split at q
          · rw [Option.map_eq_none_iff] at q ⊢; exact q
          · rfl
        · split at q
          · rw [Option.map_eq_none_iff] at q ⊢; exact q
          · rfl
        · rfl
  case extract x i =>
    refine of_any (f := aExtract (ev x) i) (fun q _ B => ?_) (fun q B => ?_) h B
    · unfold aExtract at q ⊢
      split at q
      · rw [Option.map_eq_some_iff] at q ⊢; obtain ⟨l, h1, h2⟩ := q; cases h2; exact ⟨_, h1, rfl⟩
      · cases q
    · unfold aExtract at q ⊢
      split at q
      · rw [Option.map_eq_none_iff] at q ⊢; exact q
      · rfl
  case field t x f =>
    refine of_any (f := aField P t (ev x) f) (fun q _ B => ?_) (fun q B => ?_) h B
    · unfold aField at q ⊢
      split at q
      · split at q
        · rw [Option.map_eq_some_iff] at q ⊢; obtain ⟨l, h1, h2⟩ := q; cases h2; exact ⟨_, h1, rfl⟩
        · cases q
      · cases q
    · unfold aField at q ⊢
      split at q
      · split at q
        · rw [Option.map_eq_none_iff] at q ⊢; exact q
        · rfl
      · rfl
  case unOp op t x => exact orPure_any h B

theorem aPure_congr {o : Oper} (hs : ∀ cs b, o.op ≠ .select cs b) (h : ∀ x ∈ o.op.operands, ev x = ev' x) : aPure P ev o = aPure P ev' o := by
  have e1 : (o.op.operands.toList.all fun x => (pureV (ev x)).isSome) = (o.op.operands.toList.all fun x => (pureV (ev' x)).isSome) := by
    rw [Bool.eq_iff_iff, List.all_eq_true, List.all_eq_true]
    constructor
    · intro hh x hx; rw [← h x (by simpa using hx)]; exact hh x hx
    · intro hh x hx; rw [h x (by simpa using hx)]; exact hh x hx
  have e2 : execOp (fun x => (pureV (ev x)).getD undef) o = execOp (fun x => (pureV (ev' x)).getD undef) o := execOp_congr o hs fun x hx => by simp only [h x hx]
  unfold aPure
  rw [e1, e2]

theorem orPure_congr {o : Oper} (hs : ∀ cs b, o.op ≠ .select cs b) (h : ∀ x ∈ o.op.operands, ev x = ev' x) : orPure P ev o A = orPure P ev' o A := by
  unfold orPure
  rw [aPure_congr hs h]

/-- An operation looks at its operands alone. -/
theorem step_congr {o : Oper} (h : ∀ x ∈ o.op.operands, ev x = ev' x) : aStep callF P ev o A = aStep callF P ev' o A := by
  by_cases hs : ∃ cs b, o.op = .select cs b
  · obtain ⟨cs, b, hs⟩ := hs
    unfold aStep aOp
    simp only [hs]
  · have hs' : ∀ cs b, o.op ≠ .select cs b := fun cs b e => hs ⟨cs, b, e⟩
    have hp := orPure_congr (P := P) (A := A) hs' h
    have hpairs : ∀ ps : Array (Nat × Operand), (∀ x ∈ ps.map (·.2), ev x = ev' x) → (ps.toList.map fun p => (p.1, ev p.2)) = (ps.toList.map fun p => (p.1, ev' p.2)) := fun ps hq => by
      apply List.map_congr_left
      intro p hm
      rw [hq p.2 (Array.mem_map.2 ⟨p, by simpa using hm, rfl⟩)]
    have hmap : ∀ xs : Array Operand, (∀ x ∈ xs, ev x = ev' x) → xs.toList.map ev = xs.toList.map ev' := fun xs hq => List.map_congr_left fun x hx => hq x (by simpa using hx)
    obtain ⟨dst, op, ty, pos, after, gd⟩ := o
    unfold aStep aOp
    simp only at hp h ⊢
    rw [hp]
    congr 1
    split
    case h_10 t parts => rw [hpairs parts fun x hx => h x (by simpa [Op.operands] using hx)]
    case h_11 t n parts => rw [hpairs parts fun x hx => h x (by simpa [Op.operands] using hx)]
    case h_14 f x y => rw [hmap x fun z hz => h z (by simp [Op.operands, hz]), hmap y fun z hz => h z (by simp [Op.operands, hz])]
    case h_20 t x lo hi mx =>
      have hx := h x (by simp [Op.operands])
      have hb : ∀ (d : Nat) (q : Option Operand), (∀ z, q = some z → ev z = ev' z) → bndOf ev d q = bndOf ev' d q := fun d q hq => by
        cases q with
        | none => rfl
        | some z => simp only [bndOf]; rw [hq z rfl]
      have hlo := fun d => hb d lo fun z e => h z (by subst e; simp [Op.operands])
      have hhi := fun d => hb d hi fun z e => h z (by subst e; simp [Op.operands])
      have hmx := fun d => hb d mx fun z e => h z (by subst e; simp [Op.operands])
      have e : aSlice P t ev (ev x) lo hi mx A = aSlice P t ev' (ev' x) lo hi mx A := by
        unfold aSlice
        simp only [hx, hlo, hhi, hmx]
        cases mx with
        | none => rfl
        | some z => simp only [h z (by simp [Op.operands])]
      rw [e]
    case h_37 f args ats =>
      rw [h f (by simp [Op.operands, Call.operands]), hmap args fun z hz => h z (by simp [Op.operands, Call.operands, hz])]
    all_goals first
      | rfl
      | (simp only [Op.operands, Call.operands, List.mem_toArray, List.mem_cons, List.not_mem_nil, or_false, forall_eq_or_imp, forall_eq] at h; simp only [h])
      | (simp [Op.operands, Call.operands] at h; simp [h])
end
end Go.Proofs.YtkfalpmimdcneaaGreatDoor
