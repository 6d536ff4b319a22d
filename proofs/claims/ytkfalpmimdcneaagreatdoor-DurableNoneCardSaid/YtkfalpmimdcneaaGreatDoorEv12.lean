/-
  The evaluator: code, and calls.
-/
import Derived.Test.YtkfalpmimdcneaaGreatDoorEv11
import Derived.RangeFuncIn
import Derived.Scope
import Derived.RangeFuncLeaves
namespace Go.Proofs.YtkfalpmimdcneaaGreatDoor
set_option linter.unusedVariables false
set_option linter.unusedSimpArgs false

inductive Ex where
  | normal
  | exit (id : Nat)
  | ret
  | goto (l : Nat)

def exOf : Ex → Exit
  | .normal => .normal
  | .exit id => .exit id
  | .ret => .ret
  | .goto l => .goto l

abbrev COuts := Option (List (Ex × Tm × AH))

def evLoop (f : Tm → AH → COuts) : Nat → Tm → AH → COuts
  | 0, _, _ => none
  | m + 1, T, A => match f T A with
    | some outs => bindO outs fun p => match p.1 with
      | .normal => evLoop f m p.2.1 p.2.2
      | _ => some [p]
    | none => none

def inBlk (id : Nat) (p : Ex × Tm × AH) : Ex × Tm × AH := match p.1 with
  | .exit i => bif Nat.beq i id then (.normal, p.2) else p
  | _ => p

def evScope (f : Code → Tm → AH → COuts) (c : Code) : Nat → Code → Tm → AH → COuts
  | 0, _, _, _ => none
  | m + 1, d, T, A => match f d T A with
    | some outs => bindO outs fun p => match p.1 with
      | .goto l => match findLabel c l with
        | some r => evScope f c m r p.2.1 p.2.2
        | none => none
      | _ => some [p]
    | none => none

def evC (callF : CallF) (P : Program) : Nat → Code → Tm → AH → COuts
  | 0, _, _, _ => none
  | n + 1, c, T, A => match c with
    | .skip => some [(.normal, T, A)]
    | .label _ => some [(.normal, T, A)]
    | .region _ ops false => (evOps callF P ops ops.toList T A).map fun l => l.map fun p => (.normal, p)
    | .region _ ops true => (evDraw callF P ops T A).map fun l => l.map fun p => (.normal, p)
    | .seq x y => match evC callF P n x T A with
      | some outs => bindO outs fun p => match p.1 with
        | .normal => evC callF P n y p.2.1 p.2.2
        | _ => some [p]
      | none => none
    | .cond c x y => match evT T c with
      | .lit (.bool true) => evC callF P n x T A
      | .lit (.bool false) => evC callF P n y T A
      | _ => none
    | .block id b => (evC callF P n b T A).map fun l => l.map (inBlk id)
    | .loop b => evLoop (fun T A => evC callF P n b T A) n T A
    | .exit id => some [(.exit id, T, A)]
    | .ret => some [(.ret, T, A)]
    | .scope b => evScope (evC callF P n) b n b T A
    | .goto l => some [(.goto l, T, A)]
    | .rangeFunc f _ _ _ => fN A.n fun m => match target P (evT T f) [.yld (m + 1)] with
      | some (k, l) => match callF k l ((A.push .dfr).push .lop) with
        | some outs => bindO outs fun p => match p.2.get (m + 1) with
          | .lop => some [(.normal, ⟨T.sz, T.m, .mark m :: T.df⟩, p.2.set (m + 1) .dead)]
          | _ => none
        | none => none
      | none => none
    | _ => none

section
variable {P : Program} {w0 w : World} {Fr : List Hp} {ρ ρ' : List Loc} {A A' : AH} {a : Act} {T T' : Tm} {callF : CallF} {ops : Array Oper}

/-- Whatever the evaluator says of code, it does. -/
def SC (P : Program) (w0 : World) (c : Code) (T : Tm) (A : AH) (outs : List (Ex × Tm × AH)) : Prop := ∀ (Fr : List Hp) (ρ : List Loc) (w : World) (a : Act), Rel w0 Fr ρ A w → RA ρ T a → ∀ Q : Exit → Act → World → Prop,
  (∀ e T' A' ρ' w' a', (e, T', A') ∈ outs → ρ <+: ρ' → Rel w0 Fr ρ' A' w' → RA ρ' T' a' → Q (exOf e) a' w') → c.wp P Q a w

/-- A loop, begun. -/
def LoopWp (P : Program) (c : Code) (Q : Exit → Act → World → Prop) (a : Act) (w : World) : Prop := ∀ (b : Frame) (k : List Item) (cs : List Frame),
  ∃ e a' w', Q e a' w' ∧ Arrives P (lone (b.at a (.code c :: .inLoop c :: k)) cs w) b k cs e a' w'

theorem wp_of_loop {c : Code} {Q : Exit → Act → World → Prop} (h : LoopWp P c Q a w) : (Code.loop c).wp P Q a w := fun b k cs => by
  obtain ⟨e, a', w', hq, ha⟩ := h b k cs
  exact ⟨e, a', w', hq, .of_steps (.one step_loop) ha⟩

theorem loop_of_wp {c : Code} {Q : Exit → Act → World → Prop} (h : c.wp P (Exit.then (LoopWp P c Q) Q) a w) : LoopWp P c Q a w := by
  intro b k cs
  obtain ⟨e, a₁, w₁, hq, harr⟩ := h b (.inLoop c :: k) cs
  cases e with
  | normal =>
    obtain ⟨e₂, a₂, w₂, hq₂, harr₂⟩ := hq b k cs
    exact ⟨e₂, a₂, w₂, hq₂, .of_steps (Steps.trans harr (.one step_inLoop)) harr₂⟩
  | exit id => exact ⟨_, a₁, w₁, hq, .pass (x := .inLoop c) rfl (fun _ _ => .inl (by simp)) harr⟩
  | goto l => exact ⟨_, a₁, w₁, hq, .pass (x := .inLoop c) rfl (fun _ _ => .inl (by simp)) harr⟩
  | ret => exact ⟨_, a₁, w₁, hq, .pass (x := .inLoop c) rfl (fun _ _ => .inl (by simp)) harr⟩
  | panic ch => exact ⟨_, a₁, w₁, hq, .pass (x := .inLoop c) rfl (fun _ _ => .inl (by simp)) harr⟩
  | outgrown => exact ⟨_, a₁, w₁, hq, .pass (x := .inLoop c) rfl (fun _ _ => .inl (by simp)) harr⟩

/-- A scope, begun. -/
def ScopeWp (P : Program) (c d : Code) (Q : Exit → Act → World → Prop) (a : Act) (w : World) : Prop := ∀ (b : Frame) (k : List Item) (cs : List Frame),
  ∃ e a' w', Q e a' w' ∧ Arrives P (lone (b.at a (.code d :: .inScope c :: k)) cs w) b k cs e a' w'

theorem wp_of_scope {c : Code} {Q : Exit → Act → World → Prop} (h : ScopeWp P c c Q a w) : (Code.scope c).wp P Q a w := fun b k cs => by
  obtain ⟨e, a', w', hq, ha⟩ := h b k cs
  exact ⟨e, a', w', hq, .of_steps (.one step_scope) ha⟩

/-- As Q; by a goto: on from its label. -/
def inSc (P : Program) (c : Code) (Q : Exit → Act → World → Prop) : Exit → Act → World → Prop
  | .goto l, a, w => ∃ r, findLabel c l = some r ∧ ScopeWp P c r Q a w
  | e, a, w => Q e a w

theorem scope_of_wp {c d : Code} {Q : Exit → Act → World → Prop} (h : d.wp P (inSc P c Q) a w) : ScopeWp P c d Q a w := by
  intro b k cs
  obtain ⟨e, a₁, w₁, hq, harr⟩ := h b (.inScope c :: k) cs
  cases e with
  | normal => exact ⟨.normal, a₁, w₁, hq, Steps.trans harr (.one step_inScope)⟩
  | exit id => exact ⟨.exit id, a₁, w₁, hq, fun k' hk => harr k' (by simp [exitTo, hk])⟩
  | goto l =>
    obtain ⟨r, hf, hs⟩ := hq
    have hg : gotoIn l (.inScope c :: k) = some (.code r :: .inScope c :: k) := by simp [gotoIn, hf]
    obtain ⟨e₂, a₂, w₂, hq₂, harr₂⟩ := hs b k cs
    exact ⟨e₂, a₂, w₂, hq₂, .of_steps (harr _ hg) harr₂⟩
  | ret => exact ⟨_, a₁, w₁, hq, harr⟩
  | panic ch => exact ⟨_, a₁, w₁, hq, harr⟩
  | outgrown => exact ⟨_, a₁, w₁, hq, harr⟩

theorem evScope_sound {c : Code} {f : Code → Tm → AH → COuts} (hf : ∀ d T A outs, f d T A = some outs → SC P w0 d T A outs) : ∀ {m : Nat} {d : Code} {T : Tm} {A : AH} {outs : List (Ex × Tm × AH)}, evScope f c m d T A = some outs → ∀ (Fr : List Hp) (ρ : List Loc) (w : World) (a : Act), Rel w0 Fr ρ A w → RA ρ T a → ∀ Q : Exit → Act → World → Prop,
    (∀ e T' A' ρ' w' a', (e, T', A') ∈ outs → ρ <+: ρ' → Rel w0 Fr ρ' A' w' → RA ρ' T' a' → Q (exOf e) a' w') → ScopeWp P c d Q a w
  | 0, _, _, _, _, h => by cases h
  | m + 1, d, T, A, outs, h => by
    intro Fr ρ w a hA hT Q hQ
    simp only [evScope] at h
    split at h
    · rename_i o1 hf1
      refine scope_of_wp (hf d T A o1 hf1 Fr ρ w a hA hT _ fun e T' A' ρ' w' a' hm hp hr ht => ?_)
      obtain ⟨o2, h1, h2⟩ := bindO_mem h _ hm
      cases e with
      | goto l =>
        simp only at h1
        split at h1
        · rename_i r hr'
          exact ⟨r, hr', evScope_sound hf h1 Fr ρ' w' a' hr ht Q fun e2 T2 A2 ρ2 w2 a2 hm2 hp2 hr2 ht2 => hQ e2 T2 A2 ρ2 w2 a2 (h2 _ hm2) (hp.trans hp2) hr2 ht2⟩
        · cases h1
      | normal =>
        simp only [Option.some.injEq] at h1
        subst h1
        exact hQ _ T' A' ρ' w' a' (h2 _ (List.mem_singleton.2 rfl)) hp hr ht
      | exit id =>
        simp only [Option.some.injEq] at h1
        subst h1
        exact hQ _ T' A' ρ' w' a' (h2 _ (List.mem_singleton.2 rfl)) hp hr ht
      | ret =>
        simp only [Option.some.injEq] at h1
        subst h1
        exact hQ _ T' A' ρ' w' a' (h2 _ (List.mem_singleton.2 rfl)) hp hr ht
    · cases h

theorem evLoop_sound {c : Code} {f : Tm → AH → COuts} (hf : ∀ T A outs, f T A = some outs → SC P w0 c T A outs) : ∀ {m : Nat} {T : Tm} {A : AH} {outs : List (Ex × Tm × AH)}, evLoop f m T A = some outs → ∀ (Fr : List Hp) (ρ : List Loc) (w : World) (a : Act), Rel w0 Fr ρ A w → RA ρ T a → ∀ Q : Exit → Act → World → Prop,
    (∀ e T' A' ρ' w' a', (e, T', A') ∈ outs → ρ <+: ρ' → Rel w0 Fr ρ' A' w' → RA ρ' T' a' → Q (exOf e) a' w') → LoopWp P c Q a w
  | 0, _, _, _, h => by cases h
  | m + 1, T, A, outs, h => by
    intro Fr ρ w a hA hT Q hQ
    simp only [evLoop] at h
    split at h
    · rename_i o1 hf1
      refine loop_of_wp (hf T A o1 hf1 Fr ρ w a hA hT _ fun e T' A' ρ' w' a' hm hp hr ht => ?_)
      obtain ⟨o2, h1, h2⟩ := bindO_mem h _ hm
      cases e with
      | normal => exact evLoop_sound hf h1 Fr ρ' w' a' hr ht Q fun e2 T2 A2 ρ2 w2 a2 hm2 hp2 hr2 ht2 => hQ e2 T2 A2 ρ2 w2 a2 (h2 _ hm2) (hp.trans hp2) hr2 ht2
      | exit id =>
        simp only [Option.some.injEq] at h1
        subst h1
        exact hQ _ T' A' ρ' w' a' (h2 _ (List.mem_singleton.2 rfl)) hp hr ht
      | ret =>
        simp only [Option.some.injEq] at h1
        subst h1
        exact hQ _ T' A' ρ' w' a' (h2 _ (List.mem_singleton.2 rfl)) hp hr ht
      | goto l =>
        simp only [Option.some.injEq] at h1
        subst h1
        exact hQ _ T' A' ρ' w' a' (h2 _ (List.mem_singleton.2 rfl)) hp hr ht
    · cases h

theorem Rel.pushO (h : Rel w0 Fr ρ A w) (o : Obj) {ao : AO} (ho : RO (ρ ++ [⟨w.heap.size, 0, undef⟩]) ⟨w.heap.size, 0, undef⟩ ao (.obj w.heap.size o)) : Rel w0 Fr (ρ ++ [⟨w.heap.size, 0, undef⟩]) (A.push ao) (w.alloc o) := by
  obtain ⟨H, h1, h2, h3⟩ := h.ex
  exact h.push h1 h3 (h2.allocObj o) ho

theorem run_getObj_obj {r : Nat} {o : Obj} (hb : w.heap[r]? = some o) (hc : ∀ c e f, o ≠ .cells c e f) : (getObj r).run P w = .ok o w := by
  simp only [getObj, Sem.run, hb]

theorem run_setObj_obj {r : Nat} {o : Obj} (o' : Obj) (hb : w.heap[r]? = some o) (hc : ∀ c e f, o ≠ .cells c e f) : (setObj r o').run P w = .ok () { w with heap := w.heap.setIfInBounds r o' } := by
  simp only [setObj, Sem.run, hb]

theorem Rel.setO (h : Rel w0 Fr ρ A w) {H : List Hp} (h1 : HL A.n Fr H) (h2 : St w0 w H) (h3 : ∀ b l h, ρ[b]? = some l → H[b]? = some h → RO ρ l (A.get b) h) {b : Nat} {l : Loc} (hb : ρ[b]? = some l) {o : Obj} (h4 : H[b]? = some (.obj l.blk o)) (o' : Obj) : w.heap[l.blk]? = some o ∧ Rel w0 Fr ρ (A.set b .dead) { w with heap := w.heap.setIfInBounds l.blk o' } := by
  have hon : w.heap[l.blk]? = some o := h2.at_ b h4
  have hlt : l.blk < w.heap.size := (Array.getElem?_eq_some_iff.1 hon).1
  refine ⟨hon, h.put h1 h3 hb (x := .obj l.blk o') (h2.setAt b h4 ?_ (by simp [Hp.fp]) (by simp [Hp.fp]) ?_) trivial⟩
  · exact ⟨rfl, rfl, rfl, by simp, fun i _ hi => by simp [Hp.fp] at hi; simp [Array.getElem?_setIfInBounds, Ne.symm hi]⟩
  · simp [Hp.on, Array.getElem?_setIfInBounds, hlt]

theorem range_sound {f : Operand} {ps : Array Tmp} {asg body : Code} {k : FuncId} {l : List AV} {os : List (AV × AH)} (hF : SF P w0 callF) (ht : target P (evT T f) [.yld (A.n + 1)] = some (k, l)) (hc : callF k l ((A.push .dfr).push .lop) = some os)
    (hA : Rel w0 Fr ρ A w) (hT : RA ρ T a) {Q : Exit → Act → World → Prop}
    (hok : ∀ v A', (v, A') ∈ os → A'.get (A.n + 1) = .lop)
    (hQ : ∀ v A' ρ' w' a', (v, A') ∈ os → ρ <+: ρ' → Rel w0 Fr ρ' (A'.set (A.n + 1) .dead) w' → RA ρ' ⟨T.sz, T.m, .mark A.n :: T.df⟩ a' → Q .normal a' w') : (Code.rangeFunc f ps asg body).wp P Q a w := by
  refine wpIn_wide.1 (wpIn_rangeFunc (F := Fence.wide) (n := 5) fun fnn _ => ?_)
  let D := w.heap.size
  let r : Loop := { state := .ready, pending := none, fn := fnn, tmps := a.tmps, params := ps, assign := asg, body := body, defers := D }
  let w1 := (w.alloc (.deferred (some []))).alloc (.loop r)
  have hr1 : Rel w0 Fr (ρ ++ [⟨D, 0, undef⟩]) (A.push .dfr) (w.alloc (.deferred (some []))) := hA.pushO _ rfl
  have hl1 : (w.alloc (.deferred (some []))).heap.size = D + 1 := by simp [D]
  have hr2 : Rel w0 Fr (ρ ++ [⟨D, 0, undef⟩] ++ [⟨D + 1, 0, undef⟩]) ((A.push .dfr).push .lop) w1 := by
    have := hr1.pushO (.loop r) (ao := .lop) ⟨r, rfl, rfl, rfl⟩
    rw [hl1] at this
    exact this
  have hp2 : ρ <+: ρ ++ [⟨D, 0, undef⟩] ++ [⟨D + 1, 0, undef⟩] := by rw [List.append_assoc]; exact List.prefix_append _ _
  have hD : (ρ ++ [⟨D, 0, undef⟩] ++ [⟨D + 1, 0, undef⟩])[A.n]? = some ⟨D, 0, undef⟩ := get_pre (List.prefix_append _ _) (hA.last _)
  have hL : (ρ ++ [⟨D, 0, undef⟩] ++ [⟨D + 1, 0, undef⟩])[A.n + 1]? = some ⟨D + 1, 0, undef⟩ := hr1.last _
  have hy : R (ρ ++ [⟨D, 0, undef⟩] ++ [⟨D + 1, 0, undef⟩]) (.yld (A.n + 1)) (.func (.yield (D + 1)) #[] #[]) := by rw [R_yld]; exact ⟨_, hL, rfl⟩
  obtain ⟨first, captured, fn, hV, hl, hfn, hnm, hbd⟩ := target_call ht (R_mono hp2 _ (hT.ev f)) (RL.cons hy RL.none)
  obtain ⟨c0, hc0⟩ := Option.isSome_iff_exists.1 hbd
  have hn' : ¬ (fn.name == "runtime.NumGoroutine") = true := by simpa using hnm
  have hnone : ¬ fn.body.isNone = true := by simp [hc0]
  refine ⟨D + 1, [{ target := .collected D, args := #[] }], w1, { target := .fn (.func k) captured.toArray, args := first.toArray ++ #[Value.func (.yield (D + 1)) #[] #[]] }, w1, k, (first ++ [Value.func (.yield (D + 1)) #[] #[]] ++ captured).toArray, w1, ?_, ?_, fun _ _ => trivial, ?_, by simp [Fence.wide], ?_⟩
  · simp [Instr.enterLoop, newObj, Sem.run, Result.andThen, Fence.wide, w1, r, D]
    rfl
  · have e : (#[Operand.const (Value.func (.yield (D + 1)) #[] #[])].map a.eval) = #[Value.func (.yield (D + 1)) #[] #[]] := by simp [Act.eval]
    simp only [rangeCall, resolve, hV, Deferred.ofValue, Sem.run_pure, e]
  · have e : (first.toArray ++ #[Value.func (.yield (D + 1)) #[] #[]] ++ captured.toArray) = (first ++ [Value.func (.yield (D + 1)) #[] #[]] ++ captured).toArray := by apply Array.ext'; simp
    simp only [invoke, callFunc, program, Sem.run_bind, Sem.run, Result.andThen_ok, hfn, hn', hnone, if_false, Bool.false_eq_true]
    rw [e]
    rfl
  · refine callsIn_wide.2 (hF k l _ os hc Fr _ w1 _ hr2 hl _ fun v A' ρ' V w' hm hp hr hv => ?_)
    have hLp := get_pre hp hL
    have hlop := hok v A' hm
    obtain ⟨H, x, h1, h2, h3, h4, h5⟩ := hr.out hLp
    rw [hlop] at h5
    obtain ⟨rr, rfl, hst, hpe⟩ := h5
    obtain ⟨hon, hset⟩ := hr.setO h1 h2 h3 hLp h4 (.loop { rr with state := .exhausted })
    refine ⟨none, _, ?_, hQ v A' ρ' _ _ hm (hp2.trans hp) hset ⟨hT.size, ?_, fun t => R_mono (hp2.trans hp) _ (hT.at_ t)⟩⟩
    · have hne : ∀ c e f, Obj.loop rr ≠ .cells c e f := fun _ _ _ h => by cases h
      have hb : (rr.state == LoopState.busy) = false := by rw [hst]; rfl
      simp only [Instr.endLoop, Instr.getLoop, Sem.run_bind, run_getObj_obj hon hne, Result.andThen_ok, Sem.run_pure, hb, if_false, Bool.false_eq_true, run_setObj_obj _ hon hne, hpe]
    · exact ⟨⟨D, 0, undef⟩, a.defers, get_pre hp hD, rfl, RDf_mono (hp2.trans hp) hT.defers⟩

theorem evC_sound (hm : P.follows .mixedOrders = true) (hF : SF P w0 callF) : ∀ {n : Nat} {c : Code} {T : Tm} {A : AH} {outs : List (Ex × Tm × AH)}, evC callF P n c T A = some outs → SC P w0 c T A outs := by
  intro n
  induction n with
  | zero => intro c T A outs h; cases h
  | succ n ih =>
    intro c T A outs h Fr ρ w a hA hT Q hQ
    unfold evC at h
    split at h
    · cases h; exact wp_skip (hQ .normal T A ρ w a (List.mem_singleton.2 rfl) (List.prefix_refl _) hA hT)
    · cases h; exact wp_label (hQ .normal T A ρ w a (List.mem_singleton.2 rfl) (List.prefix_refl _) hA hT)
    · rename_i id ops
      rw [Option.map_eq_some_iff] at h
      obtain ⟨l, h1, rfl⟩ := h
      refine wp_region_list (evOps_sound hF h1 hA hT fun T' A' ρ' w' a' hm hp hr ht => ?_)
      exact hQ .normal T' A' ρ' w' a' (List.mem_map.2 ⟨_, hm, rfl⟩) hp hr ht
    · rename_i id ops
      rw [Option.map_eq_some_iff] at h
      obtain ⟨l, h1, rfl⟩ := h
      refine evDraw_sound hm hF h1 hA hT fun T' A' ρ' w' a' hm hp hr ht => ?_
      exact hQ .normal T' A' ρ' w' a' (List.mem_map.2 ⟨_, hm, rfl⟩) hp hr ht
    · rename_i x y
      split at h
      · rename_i o1 h1
        refine wp_seq (ih h1 Fr ρ w a hA hT _ fun e T' A' ρ' w' a' hm hp hr ht => ?_)
        obtain ⟨o2, h3, h4⟩ := bindO_mem h _ hm
        cases e with
        | normal => exact ih h3 Fr ρ' w' a' hr ht Q fun e2 T2 A2 ρ2 w2 a2 hm2 hp2 hr2 ht2 => hQ e2 T2 A2 ρ2 w2 a2 (h4 _ hm2) (hp.trans hp2) hr2 ht2
        | exit id =>
          simp only [Option.some.injEq] at h3
          subst h3
          exact hQ _ T' A' ρ' w' a' (h4 _ (List.mem_singleton.2 rfl)) hp hr ht
        | ret =>
          simp only [Option.some.injEq] at h3
          subst h3
          exact hQ _ T' A' ρ' w' a' (h4 _ (List.mem_singleton.2 rfl)) hp hr ht
        | goto l =>
          simp only [Option.some.injEq] at h3
          subst h3
          exact hQ _ T' A' ρ' w' a' (h4 _ (List.mem_singleton.2 rfl)) hp hr ht
      · cases h
    · rename_i c x y
      have hc := hT.ev c
      split at h
      · rename_i hv
        rw [hv, R_lit] at hc
        exact wp_cond_true hc (ih h Fr ρ w a hA hT Q hQ)
      · rename_i hv
        rw [hv, R_lit] at hc
        exact wp_cond_false hc (ih h Fr ρ w a hA hT Q hQ)
      · cases h
    · rename_i id b
      rw [Option.map_eq_some_iff] at h
      obtain ⟨l, h1, rfl⟩ := h
      refine wp_block (ih h1 Fr ρ w a hA hT _ fun e T' A' ρ' w' a' hm hp hr ht => ?_)
      have hmem := List.mem_map_of_mem (f := inBlk id) hm
      cases e with
      | normal => exact hQ .normal T' A' ρ' w' a' hmem hp hr ht
      | ret => exact hQ .ret T' A' ρ' w' a' hmem hp hr ht
      | goto l => exact hQ (.goto l) T' A' ρ' w' a' hmem hp hr ht
      | exit i =>
        simp only [inBlk, cond_eq_ite] at hmem
        simp only [exOf, Exit.inBlock]
        by_cases e : i = id
        · rw [if_pos e]
          rw [if_pos (by rw [e]; exact Nat.beq_refl id)] at hmem
          exact hQ .normal T' A' ρ' w' a' hmem hp hr ht
        · rw [if_neg e]
          rw [if_neg (fun q => e (Nat.eq_of_beq_eq_true q))] at hmem
          exact hQ (.exit i) T' A' ρ' w' a' hmem hp hr ht
    · rename_i b
      exact wp_of_loop (evLoop_sound (fun T A outs h => ih h) h Fr ρ w a hA hT Q hQ)
    · cases h; exact wp_exit (hQ (.exit _) T A ρ w a (List.mem_singleton.2 rfl) (List.prefix_refl _) hA hT)
    · cases h; exact wp_ret (hQ .ret T A ρ w a (List.mem_singleton.2 rfl) (List.prefix_refl _) hA hT)
    · rename_i b
      exact wp_of_scope (evScope_sound (fun d T A outs h => ih h) h Fr ρ w a hA hT Q hQ)
    · cases h; exact wp_goto (hQ (.goto _) T A ρ w a (List.mem_singleton.2 rfl) (List.prefix_refl _) hA hT)
    · rename_i f ps asg body
      rw [fN_eq] at h
      split at h
      · rename_i k l ht
        split at h
        · rename_i os hc
          have key : ∀ v A', (v, A') ∈ os → A'.get (A.n + 1) = .lop ∧ (Ex.normal, (⟨T.sz, T.m, .mark A.n :: T.df⟩ : Tm), A'.set (A.n + 1) .dead) ∈ outs := fun v A' hm => by
            obtain ⟨o1, h1, h2⟩ := bindO_mem h _ hm
            simp only at h1
            split at h1
            · rename_i hg
              simp only [Option.some.injEq] at h1
              subst h1
              exact ⟨hg, h2 _ (List.mem_singleton.2 rfl)⟩
            · cases h1
          exact range_sound hF ht hc hA hT (fun v A' hm => (key v A' hm).1) (fun v A' ρ' w' a' hm hp hr ht => hQ .normal _ _ ρ' w' a' (key v A' hm).2 hp hr ht)
        · cases h
      · cases h
    · cases h

/-! results -/
def evRV (P : Program) (T : Tm) (A : AH) : ResultVar → Option AV
  | .tmp t => some (T.at t)
  | .cell a t => match aLoad P t (T.at a) A with
    | some [(v, _)] => some v
    | _ => none

def evRVs (P : Program) (T : Tm) (A : AH) : List ResultVar → Option (List AV)
  | [] => some []
  | r :: l => match evRV P T A r, evRVs P T A l with
    | some v, some vs => some (v :: vs)
    | _, _ => none

def evRes (P : Program) (fn : Func) (T : Tm) (A : AH) : Option AV := match evRVs P T A fn.results.toList with
  | some [v] => some v
  | some l => some (.tup l)
  | none => none

theorem run_aLoad {t : TypeId} {x : AV} {v : AV} (h : aLoad P t x A = some [(v, A')]) (hA : Rel w0 Fr ρ A w) {V : Value} (hx : R ρ x V) : ∃ p U, V = .pointer (some p) ∧ (loadVar t p).run P w = .ok U w ∧ R ρ v U := by
  unfold aLoad at h
  split at h
  · rename_i b o
    rw [R_ptr] at hx
    obtain ⟨l, hb, hV⟩ := hx
    split at h
    · rename_i tt xs sz hg
      obtain ⟨H, vs, tail, h1, hS, h3, h4, h5, _⟩ := blk_out hA hb hg
      rw [cond_eq_ite] at h
      split at h
      · rename_i hu
        rw [Option.map_eq_some_iff] at h
        obtain ⟨v', hv, h⟩ := h
        cases h
        obtain ⟨U, hV1, hR⟩ := h5.get hv
        have hc : w.cell? ⟨l.blk, o, none⟩ = some U := hS.cell b h4 o (by rw [List.getElem?_append_left (List.getElem?_eq_some_iff.1 hV1).1, hV1])
        obtain ⟨d, h6, h7⟩ := plainB_out hu
        exact ⟨_, U, hV, run_loadVar_plain h6 h7 hc, hR⟩
      · rw [cond_eq_ite] at h
        split at h
        · rename_i hu
          split at h
          · rename_i n hn
            rw [cond_eq_ite] at h
            split at h
            · rename_i hle
              have hle' := Nat.le_of_ble_eq_true hle
              cases h
              have hr := Hp.range hS b h4 o n
              have hl := h5.length
              have e : ((vs ++ tail).drop o).take n = (vs.drop o).take n := by
                rw [List.drop_append_of_le_length (by omega), List.take_append_of_le_length (by rw [List.length_drop]; omega)]
              rw [e] at hr
              refine ⟨_, _, hV, run_loadVar_row hr hu ?_, by rw [R_agg]; exact ⟨_, RL.take n (RL.drop o h5), rfl⟩⟩
              unfold sizeIs
              unfold sizeP at hn
              rw [hn, List.length_take, List.length_drop, Nat.min_eq_left (by omega)]
              exact beq_self_eq_true _
            · cases h
          · cases h
        · cases h
    · rename_i tt xs hg
      obtain ⟨vs, tail, h5, _, _, hcell⟩ := rob_out hA hb hg
      rw [cond_eq_ite] at h
      split at h
      · rename_i hu
        rw [Option.map_eq_some_iff] at h
        obtain ⟨v', hv, h⟩ := h
        cases h
        obtain ⟨U, hV1, hR⟩ := h5.get hv
        have hc : w.cell? ⟨l.blk, o, none⟩ = some U := by rw [hcell, List.getElem?_append_left (List.getElem?_eq_some_iff.1 hV1).1, hV1]
        obtain ⟨d, h6, h7⟩ := plainB_out hu
        exact ⟨_, U, hV, run_loadVar_plain h6 h7 hc, hR⟩
      · cases h
    · cases h
  · rename_i g
    rw [R_lit] at hx
    rw [cond_eq_ite] at h
    split at h
    · rename_i hu
      rw [Option.map_eq_some_iff] at h
      obtain ⟨v', hv, h⟩ := h
      cases h
      obtain ⟨U, hV1, hR⟩ := hA.gl _ (glAt_mem hv)
      obtain ⟨H, _, hS, _⟩ := hA.ex
      obtain ⟨d, h6, h7⟩ := plainB_out hu
      exact ⟨_, U, hx, run_loadVar_plain h6 h7 (cell_old hS hV1), hR⟩
    · cases h
  · cases h

def rvF (tmps : Array Value) : ResultVar → Sem Value
  | .tmp t => pure (tmps.getD t undef)
  | .cell c t => do loadVar t (← asAddr (tmps.getD c undef))

theorem run_rvs (hA : Rel w0 Fr ρ A w) {tmps : Array Value} (hT : ∀ t, R ρ (T.at t) (tmps.getD t undef)) : ∀ {l : List ResultVar} {vs : List AV}, evRVs P T A l = some vs → ∃ us, (l.mapM (rvF tmps)).run P w = .ok us w ∧ RL ρ vs us
  | [], vs, h => by simp only [evRVs, Option.some.injEq] at h; subst h; exact ⟨[], rfl, .none⟩
  | r :: l, vs, h => by
    simp only [evRVs] at h
    split at h
    · rename_i v vs' h1 h2
      cases h
      obtain ⟨us, h3, h4⟩ := run_rvs hA hT h2
      cases r with
      | tmp t =>
        simp only [evRV, Option.some.injEq] at h1
        subst h1
        refine ⟨tmps.getD t undef :: us, ?_, .cons (hT t) h4⟩
        rw [List.mapM_cons]
        simp only [rvF, Sem.run_bind, Sem.run_pure, Result.andThen_ok]
        rw [h3]
        rfl
      | cell c t =>
        simp only [evRV] at h1
        split at h1
        · rename_i v' A2 hl
          cases h1
          obtain ⟨p, U, hp, hr, hR⟩ := run_aLoad hl hA (hT c)
          refine ⟨U :: us, ?_, .cons hR h4⟩
          rw [List.mapM_cons]
          have e : (rvF tmps (.cell c t)).run P w = .ok U w := by simp only [rvF, Sem.run_bind, hp, asAddr, Sem.run_pure, Result.andThen_ok, hr]
          rw [Sem.run_bind, e, Result.andThen_ok, Sem.run_bind, h3]
          rfl
        · cases h1
    · cases h

theorem run_results {fn : Func} {v : AV} (h : evRes P fn T A = some v) (hA : Rel w0 Fr ρ A w) {tmps : Array Value} (hT : ∀ t, R ρ (T.at t) (tmps.getD t undef)) : ∃ V, (results fn tmps).run P w = .ok V w ∧ R ρ v V := by
  unfold evRes at h
  have key : ∀ vs, evRVs P T A fn.results.toList = some vs → ∃ us, (results fn tmps).run P w = .ok (if h : us.toArray.size = 1 then us.toArray[0] else .tuple us.toArray) w ∧ RL ρ vs us := fun vs hv => by
    obtain ⟨us, h1, h2⟩ := run_rvs hA hT hv
    refine ⟨us, ?_, h2⟩
    have e : results fn tmps = (do let vs ← fn.results.mapM (rvF tmps); pure (if h : vs.size = 1 then vs[0] else .tuple vs)) := rfl
    rw [e, Array.mapM_eq_mapM_toList, Sem.run_bind, Sem.run_map, h1]
    rfl
  split at h
  · rename_i u hu
    cases h
    obtain ⟨us, h1, h2⟩ := key _ hu
    rw [RL_cons] at h2
    obtain ⟨V, t, rfl, h3, h4⟩ := h2
    rw [RL_nil] at h4
    subst h4
    exact ⟨V, by rw [h1]; rfl, h3⟩
  · rename_i l hne hu
    cases h
    obtain ⟨us, h1, h2⟩ := key _ hu
    refine ⟨.tuple us.toArray, ?_, by rw [R_tup]; exact ⟨us, h2, rfl⟩⟩
    rw [h1]
    have : ¬ us.toArray.size = 1 := fun e => by
      have hl := h2.length
      simp only [List.size_toArray] at e
      rw [e] at hl
      obtain ⟨x, hx⟩ := List.length_eq_one_iff.1 hl.symm
      exact hne x hx
    rw [dif_neg this]
  · cases h

/-! the same, told once -/
def kvEq : KV → KV → Bool
  | [], [] => true
  | (k, x) :: r, (k', y) :: s => vEq k k' && (aEq x y && kvEq r s)
  | _, _ => false
theorem kvEq_out : ∀ {a b : KV}, kvEq a b = true → a = b
  | [], [], _ => rfl
  | (k, x) :: r, (k', y) :: s, h => by
    simp only [kvEq, Bool.and_eq_true] at h
    rw [vEq_out h.1, aEq_out h.2.1, kvEq_out h.2.2]
  | [], _ :: _, h => by cases h
  | _ :: _, [], h => by cases h

def aoEq : AO → AO → Bool
  | .blk t xs none, .blk t' xs' none => Nat.beq t t' && aEqL xs xs'
  | .blk t xs (some s), .blk t' xs' (some s') => Nat.beq s s' && (Nat.beq t t' && aEqL xs xs')
  | .mp d kvs, .mp d' kvs' => sameKey d d' && kvEq kvs kvs'
  | .itr b, .itr b' => Nat.beq b b'
  | .dead, .dead => true
  | _, _ => false
theorem aoEq_out {a b : AO} (h : aoEq a b = true) : a = b := by
  unfold aoEq at h
  split at h <;> (try simp only [Bool.and_eq_true] at h)
  · rw [Nat.eq_of_beq_eq_true h.1, aEqL_out h.2]
  · rw [Nat.eq_of_beq_eq_true h.1, Nat.eq_of_beq_eq_true h.2.1, aEqL_out h.2.2]
  · rw [sameKey_out h.1, kvEq_out h.2]
  · rw [Nat.eq_of_beq_eq_true h]
  · rfl
  · cases h

def ptEq : PT AO → PT AO → Bool
  | .nil, .nil => true
  | .node l (some v) r, .node l' (some v') r' => aoEq v v' && (ptEq l l' && ptEq r r')
  | .node l none r, .node l' none r' => ptEq l l' && ptEq r r'
  | _, _ => false
theorem ptEq_out : ∀ {a b : PT AO}, ptEq a b = true → a = b
  | .nil, .nil, _ => rfl
  | .node l (some v) r, .node l' (some v') r', h => by
    simp only [ptEq, Bool.and_eq_true] at h
    rw [aoEq_out h.1, ptEq_out h.2.1, ptEq_out h.2.2]
  | .node l none r, .node l' none r', h => by
    simp only [ptEq, Bool.and_eq_true] at h
    rw [ptEq_out h.1, ptEq_out h.2]
  | .nil, .node .., h => by cases h
  | .node .., .nil, h => by simp [ptEq] at h
  | .node _ none _, .node _ (some _) _, h => by cases h
  | .node _ (some _) _, .node _ none _, h => by cases h

def glEq : List (Nat × AV) → List (Nat × AV) → Bool
  | [], [] => true
  | x :: r, y :: s => Nat.beq x.1 y.1 && (aEq x.2 y.2 && glEq r s)
  | _, _ => false
theorem glEq_out : ∀ {a b : List (Nat × AV)}, glEq a b = true → a = b
  | [], [], _ => rfl
  | x :: r, y :: s, h => by
    obtain ⟨x1, x2⟩ := x
    obtain ⟨y1, y2⟩ := y
    simp only [glEq, Bool.and_eq_true] at h
    obtain ⟨h1, h2, h3⟩ := h
    rw [Nat.eq_of_beq_eq_true h1, aEq_out h2, glEq_out h3]
  | [], _ :: _, h => by cases h
  | _ :: _, [], h => by cases h

def outEq (x y : AV × AH) : Bool := aEq x.1 y.1 && (Nat.beq x.2.n y.2.n && (ptEq x.2.m y.2.m && glEq x.2.gl y.2.gl))
theorem outEq_out {x y : AV × AH} (h : outEq x y = true) : x = y := by
  unfold outEq at h
  simp only [Bool.and_eq_true] at h
  obtain ⟨v, ⟨n, m, g⟩⟩ := x
  obtain ⟨v', ⟨n', m', g'⟩⟩ := y
  obtain ⟨h1, h2, h3, h4⟩ := h
  simp only at h1 h2 h3 h4
  rw [aEq_out h1, Nat.eq_of_beq_eq_true h2, ptEq_out h3, glEq_out h4]

def addOut (x : AV × AH) (l : List (AV × AH)) : List (AV × AH) := bif l.any (outEq x) then l else x :: l
def mergeO : List (AV × AH) → List (AV × AH)
  | [] => []
  | [x] => [x]
  | x :: r => addOut x (mergeO r)
theorem mergeO_mem : ∀ {l : List (AV × AH)}, ∀ x ∈ l, x ∈ mergeO l
  | [], x, h => h
  | [y], x, h => h
  | y :: z :: r, x, h => by
    have hin : ∀ u ∈ mergeO (z :: r), u ∈ mergeO (y :: z :: r) := fun u hu => by
      show u ∈ addOut y (mergeO (z :: r))
      unfold addOut
      rw [cond_eq_ite]
      split
      · exact hu
      · exact List.mem_cons_of_mem _ hu
    rcases List.mem_cons.1 h with rfl | h
    · show x ∈ addOut x (mergeO (z :: r))
      unfold addOut
      rw [cond_eq_ite]
      split
      · rename_i hb
        obtain ⟨u, hu, he⟩ := List.any_eq_true.1 hb
        rw [outEq_out he]
        exact hu
      · exact List.mem_cons_self
    · exact hin x (mergeO_mem x h)

/-! calls -/
def ofL : List AV → Nat → PT AV → PT AV
  | [], _, m => m
  | x :: r, i, m => ofL r (i + 1) (m.set i x)

theorem ofL_get : ∀ {l : List AV} {i : Nat} {m : PT AV} (t : Nat), (ofL l i m).get t = if i ≤ t ∧ t < i + l.length then l[t - i]? else m.get t
  | [], i, m, t => by simp [ofL]; omega
  | x :: r, i, m, t => by
    rw [ofL, ofL_get]
    simp only [PT.get_set, List.length_cons]
    by_cases h1 : t = i
    · subst h1
      rw [if_neg (by omega), if_pos rfl, if_pos (by omega)]
      simp
    · by_cases h2 : i + 1 ≤ t ∧ t < i + 1 + r.length
      · rw [if_pos h2, if_pos (by omega), show t - i = t - (i + 1) + 1 by omega]
        simp
      · rw [if_neg h2, if_neg h1, if_neg (by omega)]

def frame0 (args : List AV) (n : Nat) : Tm := ⟨args.length + (n - args.length), ofL args 0 .nil, []⟩

theorem frame0_RA {args : List AV} {vs : List Value} (h : RL ρ args vs) (n : Nat) : RA ρ (frame0 args n) { tmps := vs.toArray ++ Array.replicate (n - vs.toArray.size) undef, defers := [] } := by
  have hl := h.length
  refine ⟨by simp [frame0, hl], (show RDf ρ [] [] from rfl), fun t => ?_⟩
  have e : (frame0 args n).at t = (args[t]?).getD (.lit undef) := by
    simp only [Tm.at, frame0]
    rw [ofL_get]
    split
    · simp
    · rename_i hh
      rw [List.getElem?_eq_none (by simp at hh; omega)]
      rfl
  rw [e]
  simp only [Array.getD_eq_getD_getElem?, Array.getElem?_append, List.size_toArray]
  split
  · rename_i hlt
    have hlt' : t < args.length := by omega
    obtain ⟨V, h1, h2⟩ := h.get (List.getElem?_eq_getElem hlt')
    rw [List.getElem?_eq_getElem hlt', List.getElem?_toArray, h1]
    exact h2
  · rename_i hge
    rw [List.getElem?_eq_none (by omega), Array.getElem?_replicate]
    split <;> simp

/-- A call that was deferred: a body that defers nothing itself. -/
def evD (callF : CallF) (P : Program) (fuel : Nat) (k : FuncId) (args : List AV) (A : AH) : Outs := match P.funcs[k]? with
  | some fn => bif fn.name != "runtime.NumGoroutine" then (match fn.body with
    | some c => match evC callF P fuel c (frame0 args fn.ntmps) A with
      | some outs => bindO outs fun p => match p.1 with
        | .exit _ => none
        | .goto _ => none
        | _ => match p.2.1.df with
          | [] => (match evRes P fn p.2.1 p.2.2 with
            | some v => some [(v, p.2.2)]
            | none => none)
          | _ => none
      | none => none
    | none => none) else none
  | none => none

/-- A call's end: what was deferred, the last one first; then the results. -/
def evLeave (callF : CallF) (P : Program) (fuel : Nat) (fn : Func) (T : Tm) : List AD → AH → Outs
  | [], A => match evRes P fn T A with
    | some v => fA v fun v => some [(v, A)]
    | none => none
  | .mark b :: r, A => match A.get b with
    | .dfr => evLeave callF P fuel fn T r (A.set b .dead)
    | _ => none
  | .call k x c :: r, A => match evD callF P fuel k (x ++ c) A with
    | some outs => bindO outs fun p => evLeave callF P fuel fn T r p.2
    | none => none

def evF (prim : CallF) (P : Program) (fuel : Nat) : Nat → CallF
  | 0, _, _, _ => none
  | n + 1, f, args, A => match prim f args A with
    | some outs => some outs
    | none => match P.funcs[f]? with
    | some fn => match fn.body with
      | some c => match evC (evF prim P fuel n) P fuel c (frame0 args fn.ntmps) A with
        | some outs => (bindO outs fun p => match p.1 with
          | .exit _ => none
          | .goto _ => none
          | _ => evLeave (evF prim P fuel n) P fuel fn p.2.1 p.2.1.df p.2.2).map mergeO
        | none => none
      | none => none
    | none => none

/-- A frame that returns, what it deferred first. -/
def LeavesX (P : Program) (fn : Func) (tmps : Array Value) (R' : Value → World → Prop) : List Deferred → World → Prop
  | [], w => ∃ v, (results fn tmps).run P w = .ok v w ∧ R' v w
  | d :: ds, w => (∃ r w', d.target = .collected r ∧ (Instr.takeDeferred r).run P w = .ok [] w' ∧ LeavesX P fn tmps R' ds w') ∨
      (∃ fv cap f args, d.target = .fn fv cap ∧ (invoke d.target d.args).run P w = .ok (.enter f args) w ∧ CallsD P f args .returning w (fun e u' w' => (∃ v, e = .returned v) ∧ u' = .returning ∧ LeavesX P fn tmps R' ds w'))

theorem leavesX_steps {fn : Func} {tmps : Array Value} {R' : Value → World → Prop} : ∀ (ds : List Deferred) (w : World) (fr : Frame)
    (cs : List Frame), fr.mode = .returning → fr.defers = ds → fr.tmps = tmps → P.funcs[fr.fn]? = some fn → fr.kind = .normal → LeavesX P fn tmps R' ds w →
    ∃ v w' fr', R' v w' ∧ Steps P (lone fr cs w) (lone fr' cs w') ∧ fr'.fn = fr.fn ∧ fr'.leaving P w' (.returned v) := by
  intro ds
  induction ds with
  | nil =>
    intro w fr cs hu hd ht hf hk h
    obtain ⟨v, hr, hR⟩ := h
    exact ⟨v, w, fr, hR, Steps.refl P _, rfl, hu, hd, hk, fn, hf, ht ▸ hr⟩
  | cons d ds ih =>
    intro w fr cs hu hd ht hf hk h
    have hrun : fr.mode ≠ .run := by rw [hu]; simp
    rcases h with ⟨r, w', htar, htake, hrest⟩ | ⟨fv, cap, f, args, htar, hinv, hcall⟩
    · have h1 := step_collected (P := P) (cs := cs) hrun hd htar htake
      obtain ⟨v, w'', fr', hR', hs', hfn', hl'⟩ := ih w' { fr with defers := [] ++ ds } cs hu rfl ht hf hk hrest
      exact ⟨v, w'', fr', hR', .head h1 hs', hfn', hl'⟩
    · have h1 := step_defer (P := P) (cs := cs) hrun hd htar hinv
      obtain ⟨e, u', w', frX, ⟨⟨v0, rfl⟩, rfl, hrest⟩, hsteps, hkX, hgo⟩ := hcall { fr with defers := ds } cs hu
      have h2 := step_going_returned (c := { { fr with defers := ds } with mode := .returning }) (cs := cs) hkX hgo
      obtain ⟨v, w'', fr', hR', hs', hfn', hl'⟩ := ih w' { { { fr with defers := ds } with mode := .returning } with mode := settle .returning } cs rfl rfl ht hf hk hrest
      exact ⟨v, w'', fr', hR', .head h1 (Steps.trans hsteps (.head h2 hs')), hfn', hl'⟩

def postX (P : Program) (fn : Func) (R' : Value → World → Prop) : Exit → Act → World → Prop
  | .normal, a, w | .ret, a, w => LeavesX P fn a.tmps R' a.defers w
  | _, _, _ => False

theorem calls_of_wp_x {f : FuncId} {fn : Func} {c : Code} {args : Array Value} {R' : Value → World → Prop}
    (hf : P.funcs[f]? = some fn) (hb : fn.body = some c)
    (h : c.wp P (postX P fn R') { tmps := args ++ Array.replicate (fn.ntmps - args.size) undef, defers := [] } w) : Calls P f args w (fun e w' => ∃ v, e = .returned v ∧ R' v w') := by
  intro cs
  let b : Frame := { (default : Frame) with fn := f, kind := .normal }
  have henter : Frame.enter P f args .normal =
      b.at { tmps := args ++ Array.replicate (fn.ntmps - args.size) undef, defers := [] } [.code c] := by
    simp [Frame.enter, Frame.at, hf, hb, b]
  obtain ⟨e, a', w', hq, harr⟩ := h b [] cs
  rw [← henter] at harr
  cases e with
  | normal =>
    obtain ⟨v, w'', fr', hR, hs, hfn, hl⟩ := leavesX_steps a'.defers w' { b.at a' [] with mode := .returning } cs rfl rfl rfl hf rfl hq
    exact ⟨.returned v, w'', fr', ⟨v, rfl, hR⟩, Steps.trans harr (.head step_end hs), hfn, hl⟩
  | ret =>
    obtain ⟨todo, hs₀⟩ := harr
    obtain ⟨v, w'', fr', hR, hs, hfn, hl⟩ := leavesX_steps a'.defers w' { b.at a' todo with mode := .returning } cs rfl rfl rfl hf rfl hq
    exact ⟨.returned v, w'', fr', ⟨v, rfl, hR⟩, Steps.trans hs₀ hs, hfn, hl⟩
  | panic chain => exact hq.elim
  | exit id => exact hq.elim
  | goto l => exact hq.elim
  | outgrown => exact hq.elim

theorem evD_sound (hm : P.follows .mixedOrders = true) (hF : SF P w0 callF) {fuel : Nat} {k : FuncId} {x c : List AV} {outs : List (AV × AH)} (h : evD callF P fuel k (x ++ c) A = some outs) (hA : Rel w0 Fr ρ A w) {va vc : List Value} (hx : RL ρ x va) (hc : RL ρ c vc) {S : World → Prop}
    (hS : ∀ v A' ρ' w', (v, A') ∈ outs → ρ <+: ρ' → Rel w0 Fr ρ' A' w' → S w') :
    ∃ f args, (invoke (.fn (.func k) vc.toArray) va.toArray).run P w = .ok (.enter f args) w ∧ CallsD P f args .returning w (fun e u' w' => (∃ v, e = .returned v) ∧ u' = .returning ∧ S w') := by
  unfold evD at h
  split at h
  · rename_i fn hfn
    rw [cond_eq_ite] at h
    split at h
    · rename_i hnm
      split at h
      · rename_i cd hcd
        split at h
        · rename_i o1 h1
          have hn' : ¬ (fn.name == "runtime.NumGoroutine") = true := by simpa using hnm
          have hnone : ¬ fn.body.isNone = true := by simp [hcd]
          have e : (va.toArray ++ vc.toArray) = (va ++ vc).toArray := by apply Array.ext'; simp
          refine ⟨k, (va ++ vc).toArray, ?_, ?_⟩
          · simp only [invoke, callFunc, program, Sem.run_bind, Sem.run, Result.andThen_ok, hfn, hn', hnone, if_false, Bool.false_eq_true]
            rw [e]
            rfl
          · refine (callsD_of_wp (R := fun e w' => (∃ v, e = .returned v) ∧ S w') hfn hcd (evC_sound hm hF h1 Fr ρ w _ hA (frame0_RA (RL.append hx hc) _) _ fun e T' A' ρ' w' a' hmem hp hr ht => ?_)).mono ?_
            · obtain ⟨o3, h3, h4⟩ := bindO_mem h _ hmem
              have fin : ∀ v, T'.df = [] → evRes P fn T' A' = some v → o3 = [(v, A')] → a'.defers = [] ∧ ∃ V, (results fn a'.tmps).run P w' = .ok V w' ∧ (fun e w' => (∃ v, e = Ending.returned v) ∧ S w') (.returned V) w' := fun v hdf hv ho => by
                obtain ⟨V, h5, h6⟩ := run_results hv hr ht.at_
                have hd := ht.defers
                rw [hdf] at hd
                exact ⟨hd, V, h5, ⟨V, rfl⟩, hS v A' ρ' w' (h4 _ (by rw [ho]; exact List.mem_singleton.2 rfl)) hp hr⟩
              cases e with
              | exit id => cases h3
              | goto l => cases h3
              | normal =>
                simp only at h3
                split at h3
                · rename_i hdf
                  split at h3
                  · rename_i v hv
                    cases h3
                    exact fin v hdf hv rfl
                  · cases h3
                · cases h3
              | ret =>
                simp only at h3
                split at h3
                · rename_i hdf
                  split at h3
                  · rename_i v hv
                    cases h3
                    exact fin v hdf hv rfl
                  · cases h3
                · cases h3
            · rintro e u' w' ⟨hu, h2, h3⟩
              exact ⟨h2, hu, h3⟩
        · cases h
      · cases h
    · cases h
  · cases h

theorem evLeave_sound (hm : P.follows .mixedOrders = true) (hF : SF P w0 callF) {fuel : Nat} {fn : Func} {T : Tm} {tmps : Array Value} {Post : Value → World → Prop} : ∀ {l : List AD} {A : AH} {outs : List (AV × AH)} {ρ : List Loc} {w : World} {ds : List Deferred}, evLeave callF P fuel fn T l A = some outs → Rel w0 Fr ρ A w → RDf ρ l ds →
    (tmps.size = T.sz ∧ ∀ t, R ρ (T.at t) (tmps.getD t undef)) → (∀ v A' ρ' V w', (v, A') ∈ outs → ρ <+: ρ' → Rel w0 Fr ρ' A' w' → R ρ' v V → Post V w') → LeavesX P fn tmps Post ds w
  | [], A, outs, ρ, w, ds, h, hA, hd, hT, hP => by
    have hd' : ds = [] := hd
    subst hd'
    simp only [evLeave] at h
    split at h
    · rename_i v hv
      rw [fA_eq] at h
      cases h
      obtain ⟨V, h5, h6⟩ := run_results hv hA hT.2
      exact ⟨V, h5, hP v A ρ V w (List.mem_singleton.2 rfl) (List.prefix_refl _) hA h6⟩
    · cases h
  | .mark b :: r, A, outs, ρ, w, ds, h, hA, hd, hT, hP => by
    obtain ⟨l, t, hb, rfl, hr⟩ := hd
    simp only [evLeave] at h
    split at h
    · rename_i hg
      obtain ⟨H, x, h1, h2, h3, h4, h5⟩ := hA.out hb
      rw [hg] at h5
      have h5' : x = .obj l.blk (.deferred (some [])) := h5
      subst h5'
      obtain ⟨hon, hset⟩ := hA.setO h1 h2 h3 hb h4 (.deferred none)
      refine .inl ⟨l.blk, _, rfl, ?_, evLeave_sound hm hF h hset hr hT hP⟩
      have hne : ∀ c e f, Obj.deferred (some []) ≠ .cells c e f := fun _ _ _ h => by cases h
      simp only [Instr.takeDeferred, Sem.run_bind, run_getObj_obj hon hne, Result.andThen_ok, run_setObj_obj _ hon hne, Sem.run_pure]
    · cases h
  | .call k x c :: r, A, outs, ρ, w, ds, h, hA, hd, hT, hP => by
    obtain ⟨va, vc, t, hx, hc, rfl, hr⟩ := hd
    simp only [evLeave] at h
    split at h
    · rename_i os ho
      obtain ⟨f, args, hinv, hcall⟩ := evD_sound (S := fun w' => LeavesX P fn tmps Post t w') hm hF ho hA hx hc (fun v A' ρ' w' hmem hp hrel => by
        obtain ⟨o2, h1, h2⟩ := bindO_mem h _ hmem
        exact evLeave_sound hm hF h1 hrel (RDf_mono hp hr) ⟨hT.1, fun t => R_mono hp _ (hT.2 t)⟩ fun v2 A2 ρ2 V2 w2 hm2 hp2 hr2 hv2 => hP v2 A2 ρ2 V2 w2 (h2 _ hm2) (hp.trans hp2) hr2 hv2)
      exact .inr ⟨.func k, vc.toArray, f, args, rfl, hinv, hcall⟩
    · cases h

theorem evF_sound {prim : CallF} (hm : P.follows .mixedOrders = true) (hprim : SF P w0 prim) {fuel : Nat} : ∀ n, SF P w0 (evF prim P fuel n)
  | 0 => fun f args A outs h => by cases h
  | n + 1 => fun f args A outs h Fr ρ w vs hA hargs Post hP => by
    simp only [evF] at h
    split at h
    · rename_i outs' ho
      cases h
      exact hprim f args A _ ho Fr ρ w vs hA hargs Post hP
    split at h
    · rename_i fn hfn
      split at h
      · rename_i c hc
        split at h
        · rename_i o1 h1
          rw [Option.map_eq_some_iff] at h
          obtain ⟨o2, h2, rfl⟩ := h
          refine (calls_of_wp_x (R' := fun v w' => Post (.returned v) w') hfn hc (evC_sound hm (evF_sound hm hprim n) h1 Fr ρ w _ hA (frame0_RA hargs _) _ fun e T' A' ρ' w' a' hmem hp hr ht => ?_)).mono ?_
          · obtain ⟨o3, h3, h4⟩ := bindO_mem h2 _ hmem
            have fin : evLeave (evF prim P fuel n) P fuel fn T' T'.df A' = some o3 → LeavesX P fn a'.tmps (fun v w' => Post (.returned v) w') a'.defers w' := fun hl =>
              evLeave_sound hm (evF_sound hm hprim n) hl hr ht.defers ⟨ht.size, ht.at_⟩ fun v A2 ρ2 V w2 hm2 hp2 hr2 hv2 => hP v A2 ρ2 V w2 (mergeO_mem _ (h4 _ hm2)) (hp.trans hp2) hr2 hv2
            cases e with
            | exit id => cases h3
            | goto l => cases h3
            | normal => exact fin h3
            | ret => exact fin h3
          · rintro e w' ⟨v, rfl, h⟩
            exact h
        · cases h
      · cases h
    · cases h

/-- Whether a call, made of nothing, answers 'true', whatever happens. -/
def saysTrue (prim : CallF) (P : Program) (depth fuel : Nat) (f : FuncId) (args : List AV) : Bool := match evF prim P fuel depth f args ⟨0, .nil, []⟩ with
  | some outs => outs.all fun p => match p.1 with | .lit (.bool true) => true | _ => false
  | none => false

theorem says_calls {prim : CallF} (hm : P.follows .mixedOrders = true) (hprim : ∀ w0, SF P w0 prim) {depth fuel : Nat} {f : FuncId} {args : List AV} {vs : List Value} (h : saysTrue prim P depth fuel f args = true) (hv : RL [] args vs) (w : World) : Calls P f vs.toArray w fun e w' => e = .returned (.bool true) ∧ ∃ H, St w w' H := by
  unfold saysTrue at h
  split at h
  · rename_i outs ho
    refine evF_sound hm (hprim w) depth f _ _ outs ho [] [] w vs (Rel.init w) hv _ fun v A' ρ' V w' hmem hp hr hv => ?_
    have := List.all_eq_true.1 h _ hmem
    simp only at this
    split at this
    · rw [R_lit] at hv
      obtain ⟨H, _, hS, _⟩ := hr.ex
      exact ⟨by rw [hv], H, hS⟩
    · cases this
  · cases h
end
end Go.Proofs.YtkfalpmimdcneaaGreatDoor
