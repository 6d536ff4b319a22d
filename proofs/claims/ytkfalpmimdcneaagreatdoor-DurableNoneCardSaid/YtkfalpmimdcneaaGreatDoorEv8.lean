/-
  The evaluator: a frame's slots, a region in the text's order.
-/
import Derived.Test.YtkfalpmimdcneaaGreatDoorEv7
namespace Go.Proofs.YtkfalpmimdcneaaGreatDoor
set_option linter.unusedVariables false
set_option linter.unusedSimpArgs false

/-- What is deferred: the mark of a range over a function; a call. -/
inductive AD where
  | mark (b : Nat)
  | call (k : FuncId) (args cap : List AV)

def RDf (ρ : List Loc) : List AD → List Deferred → Prop
  | [], ds => ds = []
  | .mark b :: r, ds => ∃ l t, ρ[b]? = some l ∧ ds = { target := .collected l.blk, args := #[] } :: t ∧ RDf ρ r t
  | .call k x c :: r, ds => ∃ va vc t, RL ρ x va ∧ RL ρ c vc ∧ ds = { target := .fn (.func k) vc.toArray, args := va.toArray } :: t ∧ RDf ρ r t

theorem RDf_mono {ρ ρ' : List Loc} (h : ρ <+: ρ') : ∀ {l : List AD} {ds : List Deferred}, RDf ρ l ds → RDf ρ' l ds
  | [], _, hd => hd
  | .mark b :: r, _, hd => by obtain ⟨l, t, h1, h2, h3⟩ := hd; exact ⟨l, t, get_pre h h1, h2, RDf_mono h h3⟩
  | .call k x c :: r, _, hd => by obtain ⟨va, vc, t, h1, h2, h3, h4⟩ := hd; exact ⟨va, vc, t, RL_mono h _ h1, RL_mono h _ h2, h3, RDf_mono h h4⟩

structure Tm where
  sz : Nat
  m : PT AV
  df : List AD

def Tm.at (T : Tm) (t : Nat) : AV := (T.m.get t).getD (.lit undef)
def Tm.put (T : Tm) (dst : Option Tmp) (v : AV) : Option Tm := match dst with
  | none => some T
  | some d => bif Nat.blt d T.sz then some ⟨T.sz, T.m.set d v, T.df⟩ else none

def evT (T : Tm) : Operand → AV
  | .tmp t => T.at t
  | .const v => .lit v
  | .global g => .lit (.pointer (some ⟨g, 0, none⟩))
  | .func f => .lit (.func (.func f) #[] #[])

structure RA (ρ : List Loc) (T : Tm) (a : Act) : Prop where
  size : a.tmps.size = T.sz
  defers : RDf ρ T.df a.defers
  at_ : ∀ t, R ρ (T.at t) (a.tmps.getD t undef)

section
variable {P : Program} {w0 w : World} {Fr : List Hp} {ρ ρ' : List Loc} {A : AH} {a : Act} {T T' : Tm} {callF : CallF}

theorem RA.ev (h : RA ρ T a) (x : Operand) : R ρ (evT T x) (a.eval x) := by
  cases x with
  | tmp t => exact h.at_ t
  | const v => simp [evT, Act.eval]
  | global g => simp [evT, Act.eval]
  | func f => simp [evT, Act.eval]

theorem RA.mono (h : RA ρ T a) (hp : ρ <+: ρ') : RA ρ' T a := ⟨h.size, RDf_mono hp h.defers, fun t => R_mono hp _ (h.at_ t)⟩

theorem Tm.at_set (T : Tm) (d : Nat) (v : AV) (t : Nat) : Tm.at ⟨T.sz, T.m.set d v, T.df⟩ t = if t = d then v else T.at t := by
  simp only [Tm.at, PT.get_set]
  split <;> rfl

theorem getD_setI (l : Array Value) (d : Nat) (V : Value) (hd : d < l.size) (t : Nat) : (l.setIfInBounds d V).getD t undef = if t = d then V else l.getD t undef := by
  simp only [Array.getD_eq_getD_getElem?, Array.getElem?_setIfInBounds]
  by_cases h : t = d
  · subst h; simp [hd]
  · rw [if_neg (Ne.symm h), if_neg h]

theorem RA.put (h : RA ρ T a) {dst : Option Tmp} {v : AV} (hT : T.put dst v = some T') {V : Value} (hv : R ρ v V) : RA ρ T' (a.put dst V) := by
  cases dst with
  | none => simp only [Tm.put, Option.some.injEq] at hT; subst hT; exact h
  | some d =>
    simp only [Tm.put, cond_eq_ite] at hT
    split at hT
    · rename_i hd
      cases hT
      have hd' : d < a.tmps.size := by rw [h.size]; exact blt_lt hd
      refine ⟨by simp [Act.put, h.size], h.defers, fun t => ?_⟩
      rw [Tm.at_set]
      show R ρ _ ((a.tmps.setIfInBounds d V).getD t undef)
      rw [getD_setI _ _ _ hd']
      split
      · exact hv
      · exact h.at_ t
    · cases hT

/-! numbers are computed before they are laid down -/
def fA {β : Type} (x : AV) (k : AV → β) : β := match x with
  | .lit v => fV v fun v => k (.lit v)
  | .ptr b o => fN b fun b => fN o fun o => k (.ptr b o)
  | .sl b o n c => fN b fun b => fN o fun o => fN n fun n => fN c fun c => k (.sl b o n c)
  | .rs b oe oc n => fN b fun b => fN oe fun oe => fN oc fun oc => fN n fun n => k (.rs b oe oc n)
  | .mp b => fN b fun b => k (.mp b)
  | x => k x
theorem fA_eq {β : Type} (x : AV) (k : AV → β) : fA x k = k x := by
  unfold fA
  split <;> simp [fV_eq, fN_eq]

def bindO {α β : Type} : List α → (α → Option (List β)) → Option (List β)
  | [], _ => some []
  | [x], f => f x
  | x :: r, f => match f x, bindO r f with
    | some a, some b => some (a ++ b)
    | _, _ => none

theorem bindO_mem {α β : Type} {f : α → Option (List β)} : ∀ {l : List α} {out : List β}, bindO l f = some out → ∀ x ∈ l, ∃ o, f x = some o ∧ ∀ y ∈ o, y ∈ out
  | [], _, _, x, hx => by cases hx
  | [y], out, h, x, hx => by
    obtain rfl : x = y := by simpa using hx
    simp only [bindO] at h
    exact ⟨out, h, fun _ h => h⟩
  | y :: z :: r, out, h, x, hx => by
    simp only [bindO] at h
    split at h
    · rename_i o1 o2 h1 h2
      cases h
      rcases List.mem_cons.1 hx with rfl | hx
      · exact ⟨o1, h1, fun _ h => List.mem_append_left _ h⟩
      · obtain ⟨o, h3, h4⟩ := bindO_mem h2 x hx
        exact ⟨o, h3, fun y hy => List.mem_append_right _ (h4 y hy)⟩
    · cases h

/-! guards -/
def boolA : AV → Option Bool
  | .lit v => boolV v
  | .sym v => boolV v
  | .cel v => boolV v
  | _ => none

def guardA (ops : Array Oper) (T : Tm) (o : Oper) : Bool := match o.guard with
  | none => true
  | some (j, want) => match (ops[j]?).bind (·.dst) with
    | some d => boolA (T.at d) == some want
    | none => false

theorem boolA_eq {x : AV} {V : Value} (h : R ρ x V) : boolV V = boolA x := by
  cases x with
  | lit v => rw [R_lit] at h; rw [h]; rfl
  | sym v => rw [R_sym] at h; rw [h]; rfl
  | cel v => rw [R_cel] at h; rw [h.1]; rfl
  | arg i => rw [R_arg] at h; obtain ⟨l, _, _, _, h2⟩ := h; exact h2
  | opq i => rw [R_opq] at h; obtain ⟨l, p, _, _, e⟩ := h; rw [e]; rfl
  | ptr => rw [R_ptr] at h; obtain ⟨l, _, e⟩ := h; rw [e]; rfl
  | sl => rw [R_sl] at h; obtain ⟨l, _, e⟩ := h; rw [e]; rfl
  | rs => rw [R_rs] at h; obtain ⟨l, _, _, _, e⟩ := h; rw [e]; rfl
  | ez => rw [R_ez] at h; obtain ⟨l, _, _, e⟩ := h; rw [e]; rfl
  | mp => rw [R_mp] at h; obtain ⟨l, _, e⟩ := h; rw [e]; rfl
  | yld => rw [R_yld] at h; obtain ⟨l, _, e⟩ := h; rw [e]; rfl
  | agg => rw [R_agg] at h; obtain ⟨l, _, e⟩ := h; rw [e]; rfl
  | tup => rw [R_tup] at h; obtain ⟨l, _, e⟩ := h; rw [e]; rfl
  | fn => rw [R_fn] at h; obtain ⟨l, _, _, _, e⟩ := h; rw [e]; rfl
  | ifc => rw [R_ifc] at h; obtain ⟨l, _, e⟩ := h; rw [e]; rfl

/-- A guard, read off slots that agree with T where the guard looks. -/
theorem guard_eq {ops : Array Oper} {o : Oper} (h : ∀ j want d, o.guard = some (j, want) → (ops[j]?).bind (·.dst) = some d → R ρ (T.at d) (a.tmps.getD d undef)) : Region.wanted o (yielded ops a.tmps) = guardA ops T o := by
  unfold Region.wanted guardA
  cases hg : o.guard with
  | none => rfl
  | some p =>
    obtain ⟨j, want⟩ := p
    simp only
    cases hd : (ops[j]?).bind (·.dst) with
    | none => simp only [yielded, hd]; rfl
    | some d =>
      have hR := h j want d hg hd
      have e : yielded ops a.tmps j = boolV (a.tmps.getD d undef) := by
        unfold yielded
        rw [hd]
        simp only [Option.bind_some, Array.getD_eq_getD_getElem?]
        cases a.tmps[d]? with
        | none => rfl
        | some V => cases V <;> rfl
      rw [e, boolA_eq hR]

theorem RA.guard (h : RA ρ T a) (ops : Array Oper) (o : Oper) : Region.wanted o (yielded ops a.tmps) = guardA ops T o := guard_eq fun _ _ d _ _ => h.at_ d

/-! a region in the text's order -/
/-- A call that is deferred. -/
def deferA (ev : Operand → AV) : Op → Option AD
  | .defer { callee := .value f, args, .. } => match ev f with
    | .lit (.func (.func k) x y) => some (.call k (x.toList.map .lit ++ args.toList.map ev) (y.toList.map .lit))
    | .fn (.func k) x y => some (.call k (x ++ args.toList.map ev) y)
    | _ => none
  | _ => none

def evOps (callF : CallF) (P : Program) (ops : Array Oper) : List Oper → Tm → AH → Option (List (Tm × AH))
  | [], T, A => some [(T, A)]
  | o :: rest, T, A => bif guardA ops T o then
      (match deferA (evT T) o.op with
      | some d => (match T.put o.dst (.lit undef) with
        | some T' => evOps callF P ops rest ⟨T'.sz, T'.m, d :: T'.df⟩ A
        | none => none)
      | none => match aStep callF P (evT T) o A with
      | some outs => bindO outs fun p => fA p.1 fun v => match T.put o.dst v with
        | some T' => evOps callF P ops rest T' p.2
        | none => none
      | none => none)
    else match T.put o.dst (.lit undef) with
      | some T' => evOps callF P ops rest T' A
      | none => none

theorem defer_run {ev : Operand → AV} {o : Oper} {d : AD} (h : deferA ev o.op = some d) (he : ∀ x, R ρ (ev x) (a.eval x)) (w : World) : ∃ D : Deferred, (execOp a.eval o).run P w = .ok (.defer D) w ∧ ∀ {l ds}, RDf ρ l ds → RDf ρ (d :: l) (D :: ds) := by
  obtain ⟨dst, op, ty, pos, after, gd⟩ := o
  unfold deferA at h
  simp only at h
  split at h
  · rename_i f args ats
    have hf := he f
    split at h
    · rename_i k x y hv
      rw [hv, R_lit] at hf
      cases h
      refine ⟨{ target := .fn (.func k) y, args := x ++ args.map a.eval }, ?_, fun {l ds} hl => ⟨x.toList ++ args.toList.map a.eval, y.toList, ds, RL.append (RL.lits _) (RL_evs he _), RL.lits _, ?_, hl⟩⟩
      · simp [execOp, resolve, hf, Deferred.ofValue, Result.andThen]
      · congr 2
        apply Array.ext'; simp
    · rename_i k x y hv
      rw [hv, R_fn] at hf
      obtain ⟨va, vc, h1, h2, hf⟩ := hf
      cases h
      refine ⟨{ target := .fn (.func k) vc.toArray, args := va.toArray ++ args.map a.eval }, ?_, fun {l ds} hl => ⟨va ++ args.toList.map a.eval, vc, ds, RL.append h1 (RL_evs he _), h2, ?_, hl⟩⟩
      · simp [execOp, resolve, hf, Deferred.ofValue, Result.andThen]
      · congr 2
        apply Array.ext'; simp
    · cases h
  · cases h

theorem evOps_sound {ops : Array Oper} (hF : SF P w0 callF) : ∀ {l : List Oper} {T : Tm} {A : AH} {outs : List (Tm × AH)}, evOps callF P ops l T A = some outs → ∀ {ρ : List Loc} {w : World} {a : Act}, Rel w0 Fr ρ A w → RA ρ T a → ∀ {Q : Exit → Act → World → Prop},
    (∀ T' A' ρ' w' a', (T', A') ∈ outs → ρ <+: ρ' → Rel w0 Fr ρ' A' w' → RA ρ' T' a' → Q .normal a' w') → wpList P ops Q l a w
  | [], T, A, outs, h, ρ, w, a, hA, hT, Q, hQ => by
    simp only [evOps, Option.some.injEq] at h
    subst h
    exact hQ T A ρ w a (List.mem_singleton.2 rfl) (List.prefix_refl _) hA hT
  | o :: rest, T, A, outs, h, ρ, w, a, hA, hT, Q, hQ => by
    simp only [evOps, cond_eq_ite] at h
    simp only [wpList]
    rw [hT.guard]
    split at h
    · rename_i hg
      rw [if_pos hg]
      split at h
      · rename_i dd hd
        obtain ⟨D, hr, hD⟩ := defer_run (P := P) hd hT.ev w
        refine .inl ?_
        unfold Oper.wp
        rw [hr]
        split at h
        · rename_i T' hT'
          have hput := hT.put hT' (V := undef) (v := .lit undef) (by simp)
          have e : (({ a with defers := D :: a.defers } : Act).put o.dst undef) = { (a.put o.dst undef) with defers := D :: a.defers } := by cases o.dst <;> rfl
          have e2 : (a.put o.dst undef).defers = a.defers := by cases o.dst <;> rfl
          have hT2 : RA ρ ⟨T'.sz, T'.m, dd :: T'.df⟩ (({ a with defers := D :: a.defers } : Act).put o.dst undef) := by
            rw [e]
            refine ⟨hput.size, ?_, hput.at_⟩
            have := hput.defers
            rw [e2] at this
            exact hD this
          exact evOps_sound hF h hA hT2 hQ
        · cases h
      split at h
      · rename_i os hs
        refine .inl (good_step hs hF hA hT.ev _ _ fun v A' ρ' V w' hm hp hr hv => ?_)
        obtain ⟨o', h1, h2⟩ := bindO_mem h (v, A') hm
        simp only [fA_eq] at h1
        split at h1
        · rename_i T' hT'
          exact evOps_sound hF h1 hr ((hT.mono hp).put hT' hv) fun T2 A2 ρ2 w2 a2 hm2 hp2 hr2 ht2 => hQ T2 A2 ρ2 w2 a2 (h2 _ hm2) (hp.trans hp2) hr2 ht2
        · cases h1
      · cases h
    · rename_i hg
      rw [if_neg hg]
      split at h
      · rename_i T' hT'
        exact evOps_sound hF h hA (hT.put hT' (by simp)) hQ
      · cases h
end
end Go.Proofs.YtkfalpmimdcneaaGreatDoor
