/-
  The evaluator: one operation, whatever it is.
-/
import Derived.Test.YtkfalpmimdcneaaGreatDoorEv6u
namespace Go.Proofs.YtkfalpmimdcneaaGreatDoor
set_option linter.unusedVariables false
set_option linter.unusedSimpArgs false

abbrev Outs := Option (List (AV × AH))
abbrev CallF := FuncId → List AV → AH → Outs

/-- What an operation asks for. -/
inductive OR where
  | outs (l : List (AV × AH))
  | call (f : FuncId) (args : List AV)
  | no

def OR.of (o : Outs) (e : Unit → OR) : OR := match o with | some l => .outs l | none => e ()

def orPure (P : Program) (ev : Operand → AV) (o : Oper) (A : AH) : OR := match aPure P ev o with
  | some (.value v) => .outs [(.lit v, A)]
  | some .skip => .outs [(.lit undef, A)]
  | _ => .no

/-- The function that a value calls, and what it is handed. -/
def target (P : Program) (f : AV) (args : List AV) : Option (FuncId × List AV) :=
  let go (k : FuncId) (l : List AV) : Option (FuncId × List AV) := match P.funcs[k]? with
    | some fn => bif fn.name != "runtime.NumGoroutine" && fn.body.isSome then some (k, l) else none
    | none => none
  match f with
  | .lit (.func (.func k) x y) => go k (x.toList.map .lit ++ args ++ y.toList.map .lit)
  | .fn (.func k) x y => go k (x ++ args ++ y)
  | _ => none

def aOp (P : Program) (ev : Operand → AV) (o : Oper) (A : AH) : OR :=
  let pu := fun (_ : Unit) => orPure P ev o A
  match o.op with
  | .move x => .outs [(ev x, A)]
  | .assign x => .outs [(ev x, A)]
  | .pick c x y => .of (aPick (ev c) (ev x) (ev y) A) pu
  | .alloc t => .of (aAlloc P t A) pu
  | .box t x => .of (aBox t (ev x) A) pu
  | .load t x => .of (aLoad P t (ev x) A) pu
  | .store t x y => .of (aStore P t (ev x) (ev y) A) pu
  | .fieldAddr s x f => .of (aFieldAddr P s (ev x) f A) pu
  | .nilCheck x => .of (aNilCheck (ev x) A) pu
  | .build t parts => .of (aBuild P t (parts.toList.map fun p => (p.1, ev p.2)) A) pu
  | .buildSlice t n parts => .of (aBuildSlice P t n (parts.toList.map fun p => (p.1, ev p.2)) A) pu
  | .makeMap t none => .of (aMakeMap P t A) pu
  | .makeSlice t x y => .of (aMakeSlice P t (ev x) (ev y) A) pu
  | .makeFunc f x y => .of (aMakeFunc f (x.toList.map ev) (y.toList.map ev) A) pu
  | .makeInterface t x => .of (aIface P t (ev x) A) pu
  | .extract x i => .of (aExtract (ev x) i A) pu
  | .field t x f => .of (aField P t (ev x) f A) pu
  | .index t x i => .of (aIndex P t (ev x) (ev i) A) pu
  | .indexAddr t x i => .of (aIndexAddr P t (ev x) (ev i) A) pu
  | .slice t x lo hi mx => .of (aSlice P t ev (ev x) lo hi mx A) pu
  | .lookup t m i ok => .of (aLookup P t (ev m) (ev i) ok A) pu
  | .mapUpdate t m i x => .of (aUpdate P t (ev m) (ev i) (ev x) A) pu
  | .range t x => .of (aRange P t (ev x) A) pu
  | .next x false => .of (aNext (ev x) A) pu
  | .entry x => .of (aEntry (ev x) A) pu
  | .typeAssert x _ t ok => .of (aAssert P (ev x) t ok A) pu
  | .convert t u x => .of (aConv2 P t u (ev x) A) pu
  | .binOp .eql t x y _ => .of (aEql2 P false t (ev x) (ev y) A) pu
  | .binOp .neq t x y _ => .of (aEql2 P true t (ev x) (ev y) A) pu
  | .call { callee := .builtin .len, args := ⟨[x]⟩, argTypes := ⟨[t]⟩ } => .of (aLen P t (ev x) A) pu
  | .call { callee := .builtin .cap, args := ⟨[x]⟩, argTypes := ⟨[t]⟩ } => .of (aCap P t (ev x) A) pu
  | .call { callee := .builtin .append, args := ⟨[s, x]⟩, argTypes := ⟨[t, u]⟩ } => .of (aAppend P t u (ev s) (ev x) A) pu
  | .call { callee := .builtin .delete, args := ⟨[m, i]⟩, argTypes := ⟨[t, k]⟩ } => .of (aDelete P t k (ev m) (ev i) A) pu
  | .call { callee := .builtin .unsafeSliceData, args := ⟨[x]⟩, .. } => .of (aSliceData (ev x) A) pu
  | .call { callee := .builtin .unsafeString, args := ⟨[x, n]⟩, argTypes := ⟨[t, _]⟩ } => .of (aUnsafeString P t (ev x) (ev n) A) pu
  | .call { callee := .builtin .copy, args := ⟨[x, y]⟩, argTypes := ⟨[t, _]⟩ } => .of (aCopyS P t (ev x) (ev y) A) pu
  | .call { callee := .value f, args, .. } => match target P (ev f) (args.toList.map ev) with
    | some (k, l) => .call k l
    | none => .of (aSame1 P (ev f) (args.toList.map ev) A) pu
  | .select _ _ => .no
  | _ => pu ()

def OR.run (callF : CallF) (A : AH) : OR → Outs
  | .outs l => some l
  | .call f args => callF f args A
  | .no => none

def aStep (callF : CallF) (P : Program) (ev : Operand → AV) (o : Oper) (A : AH) : Outs := (aOp P ev o A).run callF A

/-- The calls are answered as the code answers them. -/
def SF (P : Program) (w0 : World) (callF : CallF) : Prop := ∀ f args A outs, callF f args A = some outs → ∀ Fr ρ w vs, Rel w0 Fr ρ A w → RL ρ args vs → ∀ Post : Ending → World → Prop,
  (∀ v A' ρ' V w', (v, A') ∈ outs → ρ <+: ρ' → Rel w0 Fr ρ' A' w' → R ρ' v V → Post (.returned V) w') → Calls P f vs.toArray w Post

section
variable {P : Program} {w0 w : World} {Fr : List Hp} {ρ : List Loc} {A : AH} {a : Act} {ev : Operand → AV} {outs : List (AV × AH)} {callF : CallF}

theorem good_orPure {o : Oper} (h : (orPure P ev o A).run callF A = some outs) (hs : ∀ cs b, o.op ≠ .select cs b) (hA : Rel w0 Fr ρ A w) (he : ∀ x, R ρ (ev x) (a.eval x)) : Good P w0 Fr o a w ρ outs := by
  unfold orPure at h
  split at h
  · rename_i v hv
    cases h
    exact good_value v (aPure_run hv hs he w) hA (by simp)
  · rename_i hv
    cases h
    exact good_skip (aPure_run hv hs he w) hA
  · cases h

theorem or_of {o : Outs} {o' : Oper} (h : (OR.of o (fun _ => orPure P ev o' A)).run callF A = some outs) :
    o = some outs ∨ (orPure P ev o' A).run callF A = some outs := by
  cases o with
  | some l => exact .inl h
  | none => exact .inr h

theorem target_call {f : AV} {args : List AV} {k : FuncId} {l : List AV} (h : target P f args = some (k, l)) {F : Value} {vs : List Value} (hf : R ρ f F) (ha : RL ρ args vs) :
    ∃ first captured : List Value, ∃ fn : Func, F = .func (.func k) first.toArray captured.toArray ∧ RL ρ l (first ++ vs ++ captured) ∧ P.funcs[k]? = some fn ∧ (fn.name != "runtime.NumGoroutine") = true ∧ fn.body.isSome = true := by
  unfold target at h
  simp only at h
  split at h
  · rename_i k' x y
    rw [R_lit] at hf; subst hf
    split at h
    · rename_i fn hfn
      rw [cond_eq_ite] at h
      split at h
      · rename_i hc
        simp only [Bool.and_eq_true] at hc
        cases h
        exact ⟨x.toList, y.toList, fn, rfl, RL.append (RL.append (RL.lits _) ha) (RL.lits _), hfn, hc.1, hc.2⟩
      · cases h
    · cases h
  · rename_i k' x y
    rw [R_fn] at hf; obtain ⟨va, vc, h1, h2, rfl⟩ := hf
    split at h
    · rename_i fn hfn
      rw [cond_eq_ite] at h
      split at h
      · rename_i hc
        simp only [Bool.and_eq_true] at hc
        cases h
        exact ⟨va, vc, fn, rfl, RL.append (RL.append h1 ha) h2, hfn, hc.1, hc.2⟩
      · cases h
    · cases h
  · cases h

theorem good_call {dst : Option Tmp} {ty : TypeId} {pos : String} {after : Array Edge} {gd : Option (Nat × Bool)} {f : Operand} {args : Array Operand} {ats : Array TypeId} {k : FuncId} {l : List AV} (ht : target P (ev f) (args.toList.map ev) = some (k, l)) (hF : SF P w0 callF) (h : callF k l A = some outs)
    (hA : Rel w0 Fr ρ A w) (he : ∀ x, R ρ (ev x) (a.eval x)) : Good P w0 Fr ⟨dst, .call { callee := .value f, args, argTypes := ats }, ty, pos, after, gd⟩ a w ρ outs := by
  obtain ⟨first, captured, fn, hV, hl, hfn, hn, hb⟩ := target_call ht (he f) (RL_evs he args.toList)
  intro K Q hK
  have hc := hF k l A outs h Fr ρ w _ hA hl (fun e w' => match e with | .returned v => K (a.put dst v) w' | .panicked chain => Q (.panic chain) a w' | .outgrown => LetsOut Q) (fun v A' ρ' V w' hm hp hr hv => hK v A' ρ' V w' hm hp hr hv)
  have hargs : (first.toArray ++ args.map a.eval ++ captured.toArray) = (first ++ args.toList.map a.eval ++ captured).toArray := by
    apply Array.ext'
    simp
  obtain ⟨c, hc0⟩ := Option.isSome_iff_exists.1 hb
  have hn' : ¬ (fn.name == "runtime.NumGoroutine") = true := by simpa using hn
  have hnone : ¬ fn.body.isNone = true := by simp [hc0]
  have hrun : (execOp a.eval ⟨dst, .call { callee := .value f, args, argTypes := ats }, ty, pos, after, gd⟩).run P w = .ok (.enter k (first ++ args.toList.map a.eval ++ captured).toArray) w := by
    simp only [execOp, resolve, hV, Deferred.ofValue, Sem.run_bind, Sem.run_pure, Result.andThen_ok, invoke, callFunc, program, Sem.run, hfn, hn', hnone, if_false, Bool.false_eq_true]
    rw [← hargs]
  unfold Oper.wp
  rw [hrun]
  exact hc.mono fun e w' h => by cases e <;> exact h

theorem good_step {o : Oper} (h : aStep callF P ev o A = some outs) (hF : SF P w0 callF) (hA : Rel w0 Fr ρ A w) (he : ∀ x, R ρ (ev x) (a.eval x)) : Good P w0 Fr o a w ρ outs := by
  obtain ⟨dst, op, ty, pos, after, gd⟩ := o
  unfold aStep aOp at h
  simp only at h
  split at h
  case h_1 => cases h; exact good_move hA (he _)
  case h_2 => cases h; exact good_assign hA (he _)
  case h_38 => cases h
  case h_39 => rename_i hne; exact good_orPure h (fun cs b e => hne cs b e) hA he
  all_goals try (rcases or_of h with h | h)
  all_goals first
    | with_reducible exact good_orPure h (by intros; simp) hA he
    | with_reducible exact good_pick h hA (he _) (he _) (he _)
    | with_reducible exact good_alloc h hA
    | with_reducible exact good_box h hA (he _)
    | with_reducible exact good_load h hA (he _)
    | with_reducible exact good_store h hA (he _) (he _)
    | with_reducible exact good_fieldAddr h hA (he _)
    | with_reducible exact good_nilCheck h hA (he _)
    | with_reducible exact good_build h hA he
    | with_reducible exact good_buildSlice h hA he
    | with_reducible exact good_makeMap h hA
    | with_reducible exact good_makeSlice h hA (he _) (he _)
    | with_reducible exact good_makeFunc h hA he
    | with_reducible exact good_iface h hA (he _)
    | with_reducible exact good_extract h hA (he _)
    | with_reducible exact good_field h hA (he _)
    | with_reducible exact good_index h hA (he _) (he _)
    | with_reducible exact good_indexAddr h hA (he _) (he _)
    | with_reducible exact good_slice h hA he
    | with_reducible exact good_lookup h hA (he _) (he _)
    | with_reducible exact good_update h hA (he _) (he _) (he _)
    | with_reducible exact good_range h hA (he _)
    | with_reducible exact good_next h hA (he _)
    | with_reducible exact good_entry h hA (he _)
    | with_reducible exact good_assert h hA (he _)
    | with_reducible exact good_conv2 h hA (he _)
    | with_reducible exact good_len h hA (he _)
    | with_reducible exact good_cap h hA (he _)
    | with_reducible exact good_append h hA (he _) (he _)
    | with_reducible exact good_delete h hA (he _) (he _)
    | with_reducible exact good_sliceData h hA (he _)
    | with_reducible exact good_unsafeString h hA (he _) (he _)
    | with_reducible exact good_copyS h hA (he _) (he _)
    | skip
  case h_28.inl => exact good_eql2 (.inl rfl) h hA (he _) (he _)
  case h_29.inl => exact good_eql2 (.inr rfl) h hA (he _) (he _)
  case h_37 =>
    split at h
    · rename_i k l ht
      exact good_call ht hF h hA he
    · rcases or_of h with h | h
      · exact good_same1 h hA he
      · exact good_orPure h (by intros; simp) hA he
end
end Go.Proofs.YtkfalpmimdcneaaGreatDoor
