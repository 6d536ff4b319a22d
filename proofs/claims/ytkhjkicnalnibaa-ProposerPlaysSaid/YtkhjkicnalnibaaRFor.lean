/-
  A range over a function whose rounds always go on, over what is owned: the statement, a round, the function's return.
-/
import Derived.Test.YtkhjkicnalnibaaRegA
import Derived.Test.YtkhjkicnalnibaaFieldV
import Derived.RangeFuncNested
import Derived.RangeFuncBound
import Derived.RangeFuncCalls
import Derived.RangeFuncLeaves
import Derived.RangeFuncIn
import Derived.OrdersIn
import Derived.OwnWalkIn
import Derived.TacticsIn
import Derived.TacticsInMore
import Derived.LoopNIn
import Derived.LoopIn
namespace Go.Proofs.Ytkhjkicnalnibaa
set_option linter.unusedVariables false
set_option linter.unusedSimpArgs false

/-- A loop's record. -/
def lrec (fn : FuncId) (tmps : Array Value) (ps : Array Tmp) (assign body : Code) (d : Nat) (st : LoopState) : Loop :=
  { state := st, pending := none, fn := fn, tmps := tmps, params := ps, assign := assign, body := body, defers := d }

theorem St.putObj {w0 w : World} {X : List Hp} {l : Nat} {o : Obj} (hS : St w0 w (.obj l o :: X)) (o' : Obj) : St w0 (w.putObj l o') (.obj l o' :: X) := by
  have hl : l < w.heap.size := (Array.getElem?_eq_some_iff.1 (hS.at_ 0 rfl)).1
  exact hS.setAt (y := .obj l o') 0 rfl ⟨rfl, rfl, rfl, by simp [World.putObj], fun k hk hn => World.putObj_heap_other (fun e => hn (by simp [Hp.fp, e]))⟩ (by simp [Hp.fp]) (by simp [Hp.fp]) (World.putObj_heap_same hl)

def oneExit (S : World → Prop) : Exit → Act → World → Prop
  | .normal, _, w => S w
  | _, _, _ => False
theorem oneExit_no {S : World → Prop} : ¬ LetsOut (oneExit S) := fun ⟨_, _, h⟩ => h

section
variable {P : Program} {w0 w : World} {H H' X X' : List Hp} {a : Act} {Q : Exit → Act → World → Prop}

/-- A state that holds a block at l, whatever the block is. -/
structure Rec (w0 : World) (l : Nat) (A : Obj → World → Prop) : Prop where
  get : ∀ o w, A o w → w.heap[l]? = some o
  put : ∀ o o' w, A o w → A o' (w.putObj l o')

theorem Rec.st {ι : Type} {l : Nat} (X : ι → List Hp) : Rec w0 l (fun o w => ∃ i, St w0 w (.obj l o :: X i)) :=
  ⟨fun _ _ ⟨_, h⟩ => h.at_ 0 rfl, fun _ o' _ ⟨i, h⟩ => ⟨i, h.putObj o'⟩⟩

/-- The statement. -/
theorem wp_range_St {g : Operand} {ps : Array Tmp} {assign body : Code} (hS : St w0 w H) {gf : Nat} {lb : Array Value} (hg : a.eval g = .func (.func gf) #[] lb) (eg : ∀ args w, (callFunc gf args).run P w = .ok (.enter gf args) w)
    (B : Nat → Nat → Obj → World → Prop) (hB : ∀ l d, Rec w0 l (B l d))
    (hit : ∀ fn l d o W, o = .loop (lrec fn a.tmps ps assign body d .ready) → St w0 W (.obj l o :: .obj d (.deferred (some [])) :: H) →
      CallsIn Fence.wide 2 P gf (#[.func (.yield l) #[] #[]] ++ lb) W fun e W' => (∃ v, e = .returned v) ∧ B l d o W')
    (hdone : ∀ l d o W, B l d o W → Q .normal { a with defers := { target := .collected d, args := #[] } :: a.defers } W) :
    (Code.rangeFunc g ps assign body).wp P Q a w := by
  refine wpIn_wide.1 (wpIn_rangeFunc (n := 3) ?_)
  intro fn _
  have h1 := hS.allocObj (.deferred (some []))
  have h2 := h1.allocObj (.loop (lrec fn a.tmps ps assign body w.heap.size .ready))
  rw [World.size_alloc] at h2
  refine ⟨w.heap.size + 1, [{ target := .collected w.heap.size, args := #[] }], (w.alloc (.deferred (some []))).alloc (.loop (lrec fn a.tmps ps assign body w.heap.size .ready)), { target := .fn (.func gf) lb, args := #[.func (.yield (w.heap.size + 1)) #[] #[]] }, (w.alloc (.deferred (some []))).alloc (.loop (lrec fn a.tmps ps assign body w.heap.size .ready)), gf,
    #[.func (.yield (w.heap.size + 1)) #[] #[]] ++ lb, (w.alloc (.deferred (some []))).alloc (.loop (lrec fn a.tmps ps assign body w.heap.size .ready)), ?_, ?_, ?_, ?_, fun _ => by decide, ?_⟩
  · exact run_enterLoop_outer _ _ _ _ _
  · simp only [resolve, hg]
    simp [go_sem]
  · intro f' hf'; trivial
  · simp [invoke, go_sem, eg]
  · refine (hit fn _ _ _ _ rfl h2).mono ?_
    rintro e W' ⟨⟨v, rfl⟩, hS'⟩
    have hl := (hB _ _).get _ _ hS'
    exact ⟨none, _, run_endLoop (P := P) hl (by simp [lrec]), hdone _ _ _ _ ((hB _ _).put _ _ _ hS')⟩

/-- A round. -/
theorem yield_St {l : Nat} {A B : Obj → World → Prop} (hA : Rec w0 l A) (hB : Rec w0 l B) {fn : FuncId} {tmps : Array Value} {ps : Array Tmp} {assign body : Code} {d n : Nat} {args : Array Value} {o : Obj} (ho : o = .loop (lrec fn tmps ps assign body d .ready)) (hS : A o w) (hps : args.size = ps.size) (h : ∃ a₁ : Act, (∀ K : Act → World → Prop, K a₁ w → assign.wpIn (Fence.wide.inRound l) n P (Exit.then K (fun _ _ _ => False)) { tmps := (ps.zip args).foldl (fun t (p, v) => t.setIfInBounds p v) tmps, defers := [] } w) ∧
      ∀ w2, A (.loop (lrec fn tmps ps assign body d .busy)) w2 → body.wpIn (Fence.wide.inRound l) n P (oneExit (B (.loop (lrec fn tmps ps assign body d .busy)))) a₁ w2) :
    YieldAt Fence.wide n P l args w fun e w' => e = .returned (.bool true) ∧ B o w' := by
  subst ho
  have hl := hA.get _ _ hS
  obtain ⟨a₁, ha, hb⟩ := h
  refine ⟨fn, _, assign, body, run_yield (P := P) hl hps, roundIn_of_wpIn trivial (wpIn_mono (ha (fun a' w' => a' = a₁ ∧ w' = w) ⟨rfl, rfl⟩) ?_)⟩
  rintro e a' w' h
  cases e with
  | normal =>
    obtain ⟨rfl, rfl⟩ := h
    refine ⟨_, run_beginRound hl rfl, wpIn_mono (hb _ (hA.put _ _ _ hS)) ?_⟩
    rintro e a2 w2 h2
    cases e with
    | normal =>
      have h3 : B (.loop (lrec fn tmps ps assign body d .busy)) w2 := h2
      exact ⟨_, _, run_endRound (P := P) none (hB.get _ _ h3), rfl, hB.put _ _ _ h3⟩
    | _ => exact h2.elim
  | _ => exact h.elim
end

section
variable {P : Program} {w : World} {a : Act}

theorem rowsIn_wide {n : Nat} {row : String} {args : Array Value} {R : Value → World → Prop} (l : Option Nat) (h : Rows P row args w R) : RowsIn { Fence.wide with round := l } n P row args w R := fun c cs _ => by
  obtain ⟨v, w', h1, h2⟩ := h c cs
  exact ⟨v, w', h1, stepsIn_wide.2 h2⟩

/-- What is carried out anywhere, is in a round (but a defer). -/
theorem op_in {n : Nat} {o : Oper} {K K' : Act → World → Prop} {Q : Exit → Act → World → Prop} (l : Option Nat) (hnd : ∀ c, o.op ≠ .defer c) (hk : ∀ a w, K a w → K' a w) (h : o.wp P a w K Q) : o.wpIn { Fence.wide with round := l } n P a w K' Q := by
  refine ⟨fun _ _ => trivial, ?_⟩
  rw [Oper.semAt_eq _ _ _ hnd]
  unfold Oper.wp at h
  revert h
  generalize (execOp a.eval o).run P w = r
  intro h
  cases r with
  | ok x w' =>
    cases x with
    | value v => exact hk _ _ h
    | skip => exact hk _ _ h
    | defer d => exact hk _ _ h
    | enter f args =>
      refine ⟨fun e => (by cases e), callsIn_wide.2 (Calls.mono h fun e w' he => ?_)⟩
      cases e with
      | returned v => exact hk _ _ he
      | panicked chain => exact he
      | outgrown => exact he
    | row row args =>
      refine ⟨fun e => (by cases e), RowsIn.mono (rowsIn_wide l h) fun v w' he => hk _ _ he⟩
    | _ => exact h.elim
  | halt x w' =>
    cases x with
    | panic v => exact h
    | _ => exact h.elim

theorem any_in {n : Nat} {md : Region.Mode} {ops : Array Oper} {Q : Exit → Act → World → Prop} (l : Option Nat) (hno : ¬ LetsOut Q) (hnd : ∀ (j : Nat) (o : Oper), ops[j]? = some o → ∀ c, o.op ≠ .defer c) : ∀ (fuel : Nat) (listed : Array Bool) (a : Act) (w : World), wpAny P md ops Q fuel listed a w → wpAnyIn { Fence.wide with round := l } n P md ops Q fuel listed a w := by
  intro fuel
  induction fuel with
  | zero => intro listed a w h; exact h
  | succ fuel ih =>
    intro listed a w h
    refine ⟨h.1, fun i hi => ?_⟩
    have h2 := h.2 i hi
    unfold wpOp at h2
    unfold wpOpIn
    split at h2
    · rename_i e; rw [e]; exact ih _ _ _ h2
    · rename_i o e
      rw [e]
      simp only
      split at h2
      · rename_i hw
        rw [if_pos hw]
        exact op_in l (hnd i o e) (fun a w => ih _ a w) (h2.resolve_right fun x => hno x.2)
      · rename_i hw
        rw [if_neg hw]
        exact ⟨fun _ _ => trivial, ih _ _ _ h2⟩

theorem list_in {n : Nat} {ops : Array Oper} {Q : Exit → Act → World → Prop} (l : Option Nat) (hno : ¬ LetsOut Q) : ∀ {os : List Oper} {a : Act} {w : World}, (∀ o ∈ os, ∀ c, o.op ≠ .defer c) → wpList P ops Q os a w → wpListIn { Fence.wide with round := l } n P ops Q os a w
  | [], _, _, _, h => h
  | o :: r, a, w, hnd, h => by
    unfold wpList at h
    unfold wpListIn
    split at h
    · rename_i hw
      rw [if_pos hw]
      exact op_in l (hnd o (by simp)) (fun _ _ hk => list_in l hno (fun x hx => hnd x (by simp [hx])) hk) (h.resolve_right fun x => hno x.2)
    · rename_i hw
      rw [if_neg hw]
      exact ⟨fun _ _ => trivial, list_in l hno (fun x hx => hnd x (by simp [hx])) h⟩

theorem region_in {n : Nat} {id : Nat} {ops : Array Oper} {Q : Exit → Act → World → Prop} (l : Option Nat) (hno : ¬ LetsOut Q) (hnd : ∀ o ∈ ops.toList, ∀ c, o.op ≠ .defer c) (h : wpList P ops Q ops.toList a w) : (Code.region id ops false).wpIn { Fence.wide with round := l } n P Q a w :=
  wpIn_region_list (list_in l hno hnd h)

theorem draw_in {n : Nat} {id : Nat} {ops : Array Oper} {Q : Exit → Act → World → Prop} (l : Option Nat) (hm : P.follows .mixedOrders = true) (hno : ¬ LetsOut Q) (hnd : ∀ o ∈ ops.toList, ∀ c, o.op ≠ .defer c)
    (h : wpAny P .any ops Q ops.size (Array.replicate ops.size false) a { w with drawn := w.drawn + 1 }) : (Code.region id ops true).wpIn { Fence.wide with round := l } n P Q a w :=
  wpIn_region_any hm (any_in l hno (fun j o ho => hnd o (List.mem_of_getElem? (by simpa using ho))) _ _ _ _ h)

def noDefer (ops : List Oper) : Bool := ops.all fun o => match o.op with | .defer _ => false | _ => true

theorem noDefer_out {ops : List Oper} (h : noDefer ops = true) : ∀ o ∈ ops, ∀ c, o.op ≠ .defer c := by
  intro o ho c e
  have := List.all_eq_true.1 h o ho
  simp only [e] at this
  cases this

/-- A region that draws, in a round. -/
theorem wpIn_region_A {n : Nat} {id : Nat} {w0 : World} {H : List Hp} {l : List Oper} {Q : Exit → Act → World → Prop} (r : Nat) (hno : ¬ LetsOut Q) (hnd : noDefer l = true) (hS : St w0 w H) (hm : P.follows .mixedOrders = true)
    (h : ∀ w, RA w0 H (Array.replicate l.length false) w → St w0 w H → wpAnyR P .any l.toArray Q (RA w0 H) l.length (Array.replicate l.length false) a w) : (Code.region id l.toArray true).wpIn (Fence.wide.inRound r) n P Q a w :=
  draw_in (some r) hm hno (by simpa using noDefer_out hnd) (by simpa using wpAny_of_R _ _ _ _ (h _ hS.drew hS.drew))
theorem wpIn_region_E {n : Nat} {id : Nat} {w0 : World} {H : List Hp} {l : List Oper} {Q : Exit → Act → World → Prop} (r : Nat) (hno : ¬ LetsOut Q) (hnd : noDefer l = true) (e : Nat) (hS : St w0 w H) (hm : P.follows .mixedOrders = true)
    (h : ∀ w, RE e w0 H (Array.replicate l.length false) w → St w0 w H → wpAnyR P .any l.toArray Q (RE e w0 H) l.length (Array.replicate l.length false) a w) : (Code.region id l.toArray true).wpIn (Fence.wide.inRound r) n P Q a w :=
  draw_in (some r) hm hno (by simpa using noDefer_out hnd) (by simpa using wpAny_of_R _ _ _ _ (h _ (fun _ => hS.drew) hS.drew))

theorem wpIn_region_R {n : Nat} {id : Nat} {l : List Oper} {Q : Exit → Act → World → Prop} {R : Array Bool → World → Prop} (r : Nat) (hno : ¬ LetsOut Q) (hnd : noDefer l = true) (hm : P.follows .mixedOrders = true)
    (h : wpAnyR P .any l.toArray Q R l.toArray.size (Array.replicate l.toArray.size false) a w.drew) : (Code.region id l.toArray true).wpIn (Fence.wide.inRound r) n P Q a w :=
  draw_in (some r) hm hno (by simpa using noDefer_out hnd) (wpAny_of_R _ _ _ _ h)

/-- What a body that never panics must achieve, marks and all. -/
def retM (P : Program) (fn : Func) (R : Ending → World → Prop) : Exit → Act → World → Prop
  | .normal, a, w | .ret, a, w => LeavesInM Fence.wide 3 P fn a.tmps R a.defers .returning w
  | _, _, _ => False

/-- A function that holds a range over a function. -/
theorem calls_of_marks {f : FuncId} {fn : Func} {c : Code} {args : Array Value} {R : Ending → World → Prop} (hf : P.funcs[f]? = some fn) (hb : fn.body = some c)
    (h : c.wp P (retM P fn R) { tmps := args ++ Array.replicate (fn.ntmps - args.size) undef, defers := [] } w) : Calls P f args w R :=
  callsIn_wide.1 (callsIn_of_wp_marks (n := 3) hf hb trivial (wpIn_wide.2 (wp_mono h fun e a w h => by
    cases e with
    | normal => exact h
    | ret => exact h
    | _ => exact h.elim)) rfl)

/-- Its return behind one such loop. -/
theorem ret_mark {w0 : World} {H : List Hp} {fn : Func} {R : Ending → World → Prop} {d : Nat} {v : Value} {tmps : Array Value} (hS : St w0 w (.obj d (.deferred (some [])) :: H))
    (hr : ∀ w', (results fn tmps).run P w' = .ok v w') (hR : ∀ w', St w0 w' H → R (.returned v) w') : retM P fn R .ret { tmps := tmps, defers := [{ target := .collected d, args := #[] }] } w := by
  refine ⟨by simp, .inl ⟨_, _, rfl, run_takeDeferred (hS.at_ 0 rfl), ?_⟩⟩
  exact ⟨_, hr _, hR _ (hS.putObj _).tail⟩
end

/-- A field of several cells. -/
def fieldN (P : Program) (t : TypeId) (n off size : Nat) : Bool := match P.underlying t with
  | some (.struct fs) => match fs[n]? with
    | some f => f.offset == off && rowB P f.type && sizeIs P f.type size
    | none => false
  | _ => false
theorem run_fieldN {P : Program} {t : TypeId} {n off size : Nat} {cs : Array Value} (h : fieldN P t n off size = true) (w : World) : (Instr.field t (.agg cs) n).run P w = .ok (.agg (cs.extract off (off + size))) w := by
  unfold fieldN at h
  split at h
  · rename_i fs hu
    split at h
    · rename_i f hf
      simp only [Bool.and_eq_true, beq_iff_eq] at h
      obtain ⟨⟨rfl, h2⟩, h3⟩ := h
      obtain ⟨d, hd, hp⟩ := rowB_out h2
      have hs := sizeIs_out h3
      have hs2 : (sizeOf f.type).run P w = .ok size w := by
        cases hq : P.info? f.type with
        | none => rw [hq] at hs; simp at hs
        | some i =>
          rw [hq] at hs
          simp at hs
          simp [sizeOf, typeInfo, program, Sem.run, hq, hs]
      simp only [Instr.field, Sem.run_bind, run_underlying hu, Result.andThen_ok, hf, asAgg, Sem.run_pure, part, isAgg, run_underlying hd]
      cases d <;> simp [TypeDesc.isRow] at hp <;> simp [Sem.run_pure, Sem.run_bind, Result.andThen_ok, hs2]
    · cases h
  · cases h
theorem exec_fieldN_val {P : Program} {a : Act} {w : World} {dst : Option Tmp} {ty : TypeId} {pos : String} {after : Array Edge} {gd : Option (Nat × Bool)} {t : TypeId} {x : Operand} {n : Nat} {cs : Array Value} (off size : Nat) (hx : a.eval x = .agg cs) (h : fieldN P t n off size = true) :
    (execOp a.eval ⟨dst, .field t x n, ty, pos, after, gd⟩).run P w = .ok (.value (.agg (cs.extract off (off + size)))) w := by
  simp only [execOp, hx, Sem.run_bind, run_fieldN h, Result.andThen_ok, Sem.run_pure]
end Go.Proofs.Ytkhjkicnalnibaa
