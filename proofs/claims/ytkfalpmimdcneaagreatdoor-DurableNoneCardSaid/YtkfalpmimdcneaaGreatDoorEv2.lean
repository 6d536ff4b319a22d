/-
  The evaluator's operations: pure ones, loads, stores, new blocks, addresses.
-/
import Derived.Test.YtkfalpmimdcneaaGreatDoorEv
namespace Go.Proofs.YtkfalpmimdcneaaGreatDoor
set_option linter.unusedVariables false
set_option linter.unusedSimpArgs false

def pureRun {α : Type} (P : Program) : Sem α → Option α
  | .pure a => some a
  | .program k => pureRun P (k P)
  | .mark _ k => pureRun P k
  | _ => none

theorem pureRun_run {α : Type} {P : Program} : ∀ (s : Sem α) {x : α}, pureRun P s = some x → ∀ w, s.run P w = .ok x w
  | .pure a, x, h, w => by simp only [pureRun, Option.some.injEq] at h; subst h; rfl
  | .program k, x, h, w => by simp only [pureRun] at h; exact pureRun_run (k P) h w
  | .mark m k, x, h, w => by simp only [pureRun] at h; exact pureRun_run k h w
  | .load .., _, h, _ => by simp [pureRun] at h
  | .store .., _, h, _ => by simp [pureRun] at h
  | .new .., _, h, _ => by simp [pureRun] at h
  | .shape .., _, h, _ => by simp [pureRun] at h
  | .freeze .., _, h, _ => by simp [pureRun] at h
  | .frozen .., _, h, _ => by simp [pureRun] at h
  | .getObj .., _, h, _ => by simp [pureRun] at h
  | .setObj .., _, h, _ => by simp [pureRun] at h
  | .choose .., _, h, _ => by simp [pureRun] at h
  | .sys .., _, h, _ => by simp [pureRun] at h
  | .halt .., _, h, _ => by simp [pureRun] at h

/-- Numbers are computed before they are handed on. -/
def fN {β : Type} (n : Nat) (k : Nat → β) : β := Nat.casesOn n (k 0) (fun p => k (p + 1))
theorem fN_eq {β : Type} (n : Nat) (k : Nat → β) : fN n k = k n := by cases n <;> rfl
def fV {β : Type} (v : Value) (k : Value → β) : β := match v with
  | .int kd (.ofNat n) => fN n fun n => k (.int kd (.ofNat n))
  | .int kd (.negSucc n) => fN n fun n => k (.int kd (.negSucc n))
  | .bool true => k (.bool true)
  | .bool false => k (.bool false)
  | v => k v
theorem fV_eq {β : Type} (v : Value) (k : Value → β) : fV v k = k v := by
  unfold fV
  split <;> simp [fN_eq]

/-- A pure operation's answer. -/
def aPure (P : Program) (ev : Operand → AV) (o : Oper) : Option Next :=
  bif o.op.operands.toList.all (fun x => (pureV (ev x)).isSome) then pureRun P (execOp (fun x => (pureV (ev x)).getD undef) o) else none

/-- Whatever the evaluator says of an operation, the code does. -/
def Good (P : Program) (w0 : World) (Fr : List Hp) (o : Oper) (a : Act) (w : World) (ρ : List Loc) (outs : List (AV × AH)) : Prop :=
  ∀ (K : Act → World → Prop) (Q : Exit → Act → World → Prop), (∀ v A' ρ' V w', (v, A') ∈ outs → ρ <+: ρ' → Rel w0 Fr ρ' A' w' → R ρ' v V → K (a.put o.dst V) w') → o.wp P a w K Q

section
variable {P : Program} {w0 w : World} {Fr : List Hp} {ρ : List Loc} {A : AH} {a : Act} {ev : Operand → AV} {outs : List (AV × AH)}
  {dst : Option Tmp} {ty : TypeId} {pos : String} {after : Array Edge} {gd : Option (Nat × Bool)}

theorem aPure_run {o : Oper} {n : Next} (h : aPure P ev o = some n) (hs : ∀ cs b, o.op ≠ .select cs b) (he : ∀ x, R ρ (ev x) (a.eval x)) (w : World) : (execOp a.eval o).run P w = .ok n w := by
  unfold aPure at h
  rw [cond_eq_ite] at h
  split at h
  · rename_i hall
    have e : execOp a.eval o = execOp (fun x => (pureV (ev x)).getD undef) o := execOp_congr o hs fun x hx => by
      have := List.all_eq_true.1 hall x (by simpa using hx)
      obtain ⟨v, hv⟩ := Option.isSome_iff_exists.1 this
      rw [hv]
      exact pureV_R _ hv (he x)
    rw [e]
    exact pureRun_run _ h w
  · cases h

theorem good_value {o : Oper} {v : AV} (V : Value) (hr : (execOp a.eval o).run P w = .ok (.value V) w) (hA : Rel w0 Fr ρ A w) (hv : R ρ v V) : Good P w0 Fr o a w ρ [(v, A)] := by
  intro K Q hK
  unfold Oper.wp
  rw [hr]
  exact hK v A ρ V w (List.mem_singleton.2 rfl) (List.prefix_refl _) hA hv

theorem good_skip {o : Oper} (hr : (execOp a.eval o).run P w = .ok .skip w) (hA : Rel w0 Fr ρ A w) : Good P w0 Fr o a w ρ [(.lit undef, A)] := by
  intro K Q hK
  unfold Oper.wp
  rw [hr]
  exact hK (.lit undef) A ρ undef w (List.mem_singleton.2 rfl) (List.prefix_refl _) hA (by simp)

/-- The cells of a value. -/
def cellsA : AV → List AV
  | .lit v => v.cells.toList.map .lit
  | .sym v => v.cells.toList.map .sym
  | .agg l => l
  | x => [x]

theorem R_cells {x : AV} {V : Value} (h : R ρ x V) : RL ρ (cellsA x) V.cells.toList := by
  cases x with
  | lit v => rw [R_lit] at h; subst h; exact RL.lits _
  | sym v => rw [R_sym] at h; subst h; exact RL.syms _
  | cel v =>
    rw [R_cel] at h; obtain ⟨rfl, h1⟩ := h
    have : V.cells = #[V] := by cases V <;> first | rfl | cases h1
    rw [this]; simp only [cellsA]; rw [RL_cons]; exact ⟨_, [], rfl, by simp [h1], by simp⟩
  | arg i =>
    have h' := h
    rw [R_arg] at h; obtain ⟨l, _, _, h1, _⟩ := h
    have : V.cells = #[V] := by cases V <;> first | rfl | cases h1
    rw [this]; simp only [cellsA]; rw [RL_cons]; exact ⟨_, [], rfl, h', by simp⟩
  | opq i => have h' := h; rw [R_opq] at h; obtain ⟨l, p, _, _, rfl⟩ := h; simp only [cellsA, Value.cells]; rw [RL_cons]; exact ⟨_, [], rfl, h', by simp⟩
  | agg l => rw [R_agg] at h; obtain ⟨vs, h1, rfl⟩ := h; simpa [cellsA, Value.cells] using h1
  | tup l => have h' := h; rw [R_tup] at h; obtain ⟨vs, h1, rfl⟩ := h; simp only [cellsA, Value.cells]; rw [RL_cons]; exact ⟨_, [], rfl, h', by simp⟩
  | fn f c d => have h' := h; rw [R_fn] at h; obtain ⟨va, vc, h1, h2, rfl⟩ := h; simp only [cellsA, Value.cells]; rw [RL_cons]; exact ⟨_, [], rfl, h', by simp⟩
  | ifc t y => have h' := h; rw [R_ifc] at h; obtain ⟨v, h1, rfl⟩ := h; simp only [cellsA, Value.cells]; rw [RL_cons]; exact ⟨_, [], rfl, h', by simp⟩
  | ptr b o => have h' := h; rw [R_ptr] at h; obtain ⟨v, h1, rfl⟩ := h; simp only [cellsA, Value.cells]; rw [RL_cons]; exact ⟨_, [], rfl, h', by simp⟩
  | sl b o n c => have h' := h; rw [R_sl] at h; obtain ⟨v, h1, rfl⟩ := h; simp only [cellsA, Value.cells]; rw [RL_cons]; exact ⟨_, [], rfl, h', by simp⟩
  | rs b o n c => have h' := h; rw [R_rs] at h; obtain ⟨v, o', h1, h2, rfl⟩ := h; simp only [cellsA, Value.cells]; rw [RL_cons]; exact ⟨_, [], rfl, h', by simp⟩
  | ez b => have h' := h; rw [R_ez] at h; obtain ⟨v, o', h1, rfl⟩ := h; simp only [cellsA, Value.cells]; rw [RL_cons]; exact ⟨_, [], rfl, h', by simp⟩
  | mp b => have h' := h; rw [R_mp] at h; obtain ⟨v, h1, rfl⟩ := h; simp only [cellsA, Value.cells]; rw [RL_cons]; exact ⟨_, [], rfl, h', by simp⟩
  | yld b => have h' := h; rw [R_yld] at h; obtain ⟨v, h1, rfl⟩ := h; simp only [cellsA, Value.cells]; rw [RL_cons]; exact ⟨_, [], rfl, h', by simp⟩

/-- Whether a value lies in one cell. -/
def oneA : AV → Bool
  | .lit v => v.oneCell'
  | .sym v => v.oneCell'
  | .agg _ | .tup _ => false
  | _ => true

theorem R_one {x : AV} {V : Value} (h : R ρ x V) (h1 : oneA x = true) : V.oneCell' = true := by
  cases x with
  | lit v => rw [R_lit] at h; subst h; exact h1
  | sym v => rw [R_sym] at h; subst h; exact h1
  | cel v => rw [R_cel] at h; obtain ⟨rfl, h1⟩ := h; exact h1
  | arg i => rw [R_arg] at h; obtain ⟨l, _, _, h2, _⟩ := h; exact h2
  | opq i => rw [R_opq] at h; obtain ⟨l, p, _, _, rfl⟩ := h; rfl
  | agg l => simp [oneA] at h1
  | tup l => simp [oneA] at h1
  | fn f c d => rw [R_fn] at h; obtain ⟨va, vc, _, _, rfl⟩ := h; rfl
  | ifc t y => rw [R_ifc] at h; obtain ⟨v, _, rfl⟩ := h; rfl
  | ptr b o => rw [R_ptr] at h; obtain ⟨v, _, rfl⟩ := h; rfl
  | sl b o n c => rw [R_sl] at h; obtain ⟨v, _, rfl⟩ := h; rfl
  | rs b o n c => rw [R_rs] at h; obtain ⟨v, _, _, _, rfl⟩ := h; rfl
  | ez b => rw [R_ez] at h; obtain ⟨v, _, _, rfl⟩ := h; rfl
  | mp b => rw [R_mp] at h; obtain ⟨v, _, rfl⟩ := h; rfl
  | yld b => rw [R_yld] at h; obtain ⟨v, _, rfl⟩ := h; rfl

theorem RL_one : ∀ {l : List AV} {vs : List Value}, RL ρ l vs → l.all oneA = true → ∀ v ∈ vs, v.oneCell' = true
  | [], vs, h, _, v, hv => by rw [RL_nil] at h; subst h; cases hv
  | x :: r, vs, h, h1, v, hv => by
    rw [RL_cons] at h; obtain ⟨u, t, rfl, h2, h3⟩ := h
    simp only [List.all_cons, Bool.and_eq_true] at h1
    rcases List.mem_cons.1 hv with rfl | hv
    · exact R_one h2 h1.1
    · exact RL_one h3 h1.2 v hv

/-! load, store -/
def sizeP (P : Program) (t : TypeId) : Option Nat := (P.info? t).map (·.size)

/-- What a package-level variable of one cell holds. -/
def glAt : List (Nat × AV) → Nat → Option AV
  | [], _ => none
  | (g, v) :: r, k => bif Nat.beq g k then some v else glAt r k

theorem glAt_mem : ∀ {l : List (Nat × AV)} {k : Nat} {v : AV}, glAt l k = some v → (k, v) ∈ l
  | [], _, _, h => by cases h
  | (g, x) :: r, k, v, h => by
    simp only [glAt, cond_eq_ite] at h
    split at h
    · rename_i e
      cases h
      rw [Nat.eq_of_beq_eq_true e]
      exact List.mem_cons_self
    · exact List.mem_cons_of_mem _ (glAt_mem h)

def aLoad (P : Program) (t : TypeId) (x : AV) (A : AH) : Option (List (AV × AH)) := match x with
  | .ptr b o => match A.get b with
    | .blk _ xs _ => bif plainB P t then (xs[o]?).map fun v => [(v, A)]
        else bif rowB P t then match sizeP P t with
          | some n => bif Nat.ble (o + n) xs.length then some [(.agg ((xs.drop o).take n), A)] else none
          | none => none
        else none
    | .rob _ xs => bif plainB P t then (xs[o]?).map fun v => [(v, A)] else none
    | _ => none
  | .lit (.pointer (some ⟨g, 0, none⟩)) => bif plainB P t then (glAt A.gl g).map fun v => [(v, A)] else none
  | _ => none

theorem cell_old {w0 w : World} {H : List Hp} (h : St w0 w H) {a : Addr} {v : Value} (hc : w0.cell? a = some v) : w.cell? a = some v := by
  obtain ⟨c, e, fr, hb⟩ : ∃ c e fr, w0.heap[a.block]? = some (.cells c e fr) := by
    unfold World.cell? at hc
    split at hc
    · exact ⟨_, _, _, by assumption⟩
    · cases hc
  have hlt := (Array.getElem?_eq_some_iff.1 hb).1
  have h1 := h.old.block a.block hlt (by simp)
  unfold World.cell? at hc ⊢
  rw [h1]; exact hc

/-- The heaplet of a block that is read alone. -/
theorem rob_out (hA : Rel w0 Fr ρ A w) {b : Nat} {l : Loc} (hb : ρ[b]? = some l) {t : TypeId} {xs : List AV} (hg : A.get b = .rob t xs) :
    ∃ (vs tail : List Value), RL ρ xs vs ∧ (vs ++ tail).length = l.cap ∧ l.cap ≤ maxLen ∧ ∀ o, w.cell? ⟨l.blk, o, none⟩ = (vs ++ tail)[o]? := by
  obtain ⟨H, x, h1, h2, h3, h4, h5⟩ := hA.out hb
  rw [hg] at h5
  obtain ⟨vs, tail, fr, h6, rfl, h7, h8⟩ := h5
  have hon : w.heap[l.blk]? = some (.cells (vs ++ tail).toArray t fr) := h2.at_ b h4
  refine ⟨vs, tail, h6, h7, h8, fun o => ?_⟩
  simp [World.cell?, hon]

theorem blk_out (hA : Rel w0 Fr ρ A w) {b : Nat} {l : Loc} (hb : ρ[b]? = some l) {t : TypeId} {xs : List AV} {sz : Option Nat} (hg : A.get b = .blk t xs sz) :
    ∃ (H : List Hp) (vs tail : List Value), HL A.n Fr H ∧ St w0 w H ∧ (∀ b l h, ρ[b]? = some l → H[b]? = some h → RO ρ l (A.get b) h) ∧ H[b]? = some (.cells l.blk (vs ++ tail) t) ∧ RL ρ xs vs ∧ Tl l vs tail sz := by
  obtain ⟨H, x, h1, h2, h3, h4, h5⟩ := hA.out hb
  rw [hg] at h5
  obtain ⟨vs, tail, h6, rfl, h7⟩ := h5
  exact ⟨H, vs, tail, h1, h2, h3, h4, h6, h7⟩

theorem good_load {t : TypeId} {x : Operand} (h : aLoad P t (ev x) A = some outs) (hA : Rel w0 Fr ρ A w) (he : R ρ (ev x) (a.eval x)) : Good P w0 Fr ⟨dst, .load t x, ty, pos, after, gd⟩ a w ρ outs := by
  unfold aLoad at h
  split at h
  · rename_i b o hx
    rw [hx, R_ptr] at he
    obtain ⟨l, hb, hV⟩ := he
    split at h
    · rename_i tt xs sz hg
      obtain ⟨H, vs, tail, h1, hS, h3, h4, h5, _⟩ := blk_out hA hb hg
      rw [cond_eq_ite] at h
      split at h
      · rename_i hu
        rw [Option.map_eq_some_iff] at h
        obtain ⟨v, hv, rfl⟩ := h
        obtain ⟨V, hV1, hR⟩ := h5.get hv
        have hc : w.cell? ⟨l.blk, o, none⟩ = some V := hS.cell b h4 o (by rw [List.getElem?_append_left (List.getElem?_eq_some_iff.1 hV1).1, hV1])
        intro K Q hK
        exact opA_load hV hc hu (hK v A ρ V w (List.mem_singleton.2 rfl) (List.prefix_refl _) hA hR)
      · rw [cond_eq_ite] at h
        split at h
        · rename_i hu
          split at h
          · rename_i n hn
            rw [cond_eq_ite] at h
            split at h
            · rename_i hle
              have hle' := Nat.le_of_ble_eq_true hle
              cases h
              have hr := Hp.range hS b h4 o n
              have hl := h5.length
              have e : ((vs ++ tail).drop o).take n = (vs.drop o).take n := by
                rw [List.drop_append_of_le_length (by omega), List.take_append_of_le_length (by rw [List.length_drop]; omega)]
              rw [e] at hr
              intro K Q hK
              refine opA_loadN hV hr hu ?_ (hK _ A ρ _ w (List.mem_singleton.2 rfl) (List.prefix_refl _) hA (by rw [R_agg]; exact ⟨_, RL.take n (RL.drop o h5), rfl⟩))
              unfold sizeIs
              unfold sizeP at hn
              rw [hn, List.length_take, List.length_drop, Nat.min_eq_left (by omega)]
              exact beq_self_eq_true _
            · cases h
          · cases h
        · cases h
    · rename_i tt xs hg
      obtain ⟨vs, tail, h5, _, _, hcell⟩ := rob_out hA hb hg
      rw [cond_eq_ite] at h
      split at h
      · rename_i hu
        rw [Option.map_eq_some_iff] at h
        obtain ⟨v, hv, rfl⟩ := h
        obtain ⟨V, hV1, hR⟩ := h5.get hv
        have hc : w.cell? ⟨l.blk, o, none⟩ = some V := by rw [hcell, List.getElem?_append_left (List.getElem?_eq_some_iff.1 hV1).1, hV1]
        intro K Q hK
        exact opA_load hV hc hu (hK v A ρ V w (List.mem_singleton.2 rfl) (List.prefix_refl _) hA hR)
      · cases h
    · cases h
  · rename_i g hx
    rw [hx, R_lit] at he
    rw [cond_eq_ite] at h
    split at h
    · rename_i hu
      rw [Option.map_eq_some_iff] at h
      obtain ⟨v, hv, rfl⟩ := h
      obtain ⟨V, hV1, hR⟩ := hA.gl _ (glAt_mem hv)
      obtain ⟨H, _, hS, _⟩ := hA.ex
      intro K Q hK
      exact opA_load he (cell_old hS hV1) hu (hK v A ρ V w (List.mem_singleton.2 rfl) (List.prefix_refl _) hA hR)
    · cases h
  · cases h

def aStore (P : Program) (t : TypeId) (x y : AV) (A : AH) : Option (List (AV × AH)) := match x with
  | .ptr b o => match A.get b with
    | .blk tt xs sz =>
      let cs := cellsA y
      bif cs.all oneA && (sizeIs P t cs.length && Nat.ble (o + cs.length) xs.length) then some [(.lit undef, A.set b (.blk tt (xs.take o ++ cs ++ xs.drop (o + cs.length)) sz))] else none
    | _ => none
  | _ => none

theorem splice_app {α : Type} (vs tail cs : List α) (o : Nat) (h : o + cs.length ≤ vs.length) : (vs ++ tail).take o ++ cs ++ (vs ++ tail).drop (o + cs.length) = (vs.take o ++ cs ++ vs.drop (o + cs.length)) ++ tail := by
  rw [List.take_append_of_le_length (by omega), List.drop_append_of_le_length h]; simp [List.append_assoc]

theorem good_store {t : TypeId} {x y : Operand} (h : aStore P t (ev x) (ev y) A = some outs) (hA : Rel w0 Fr ρ A w) (he : R ρ (ev x) (a.eval x)) (hy : R ρ (ev y) (a.eval y)) : Good P w0 Fr ⟨dst, .store t x y, ty, pos, after, gd⟩ a w ρ outs := by
  unfold aStore at h
  split at h
  · rename_i b o hx
    rw [hx, R_ptr] at he
    obtain ⟨l, hb, hV⟩ := he
    split at h
    · rename_i tt xs sz hg
      obtain ⟨H, vs, tail, h1, hS, h3, h4, h5, h6⟩ := blk_out hA hb hg
      simp only [cond_eq_ite] at h
      split at h
      · rename_i hc
        simp only [Bool.and_eq_true] at hc
        obtain ⟨hc1, hc2, hc3⟩ := hc
        have hle := Nat.le_of_ble_eq_true hc3
        cases h
        have hcs := R_cells hy
        have hlc := hcs.length
        have hl := h5.length
        intro K Q hK
        refine opA_store hS b hV h4 rfl rfl (by rw [List.all_eq_true]; exact fun v hv => RL_one hcs hc1 v hv) (by rw [List.length_append]; omega) (by rw [hlc]; exact hc2) (fun w' hS' => ?_)
        rw [splice_app _ _ _ _ (by omega)] at hS'
        refine hK _ _ ρ undef w' (List.mem_singleton.2 rfl) (List.prefix_refl _) (hA.put h1 h3 hb hS' ⟨_, tail, ?_, rfl, ?_⟩) (by simp)
        · rw [hlc]
          exact RL.append (RL.append (RL.take o h5) hcs) (RL.drop _ h5)
        · cases sz with
          | none => exact h6
          | some s =>
            refine ⟨?_, h6.2⟩
            rw [← h6.1]
            simp only [List.length_append, List.length_take, List.length_drop]
            omega
      · cases h
    · cases h
  · cases h

/-! new blocks -/
theorem push_blk (hA : Rel w0 Fr ρ A w) {w' : World} {H : List Hp} (h1 : HL A.n Fr H) (h3 : ∀ b l h, ρ[b]? = some l → H[b]? = some h → RO ρ l (A.get b) h) {g : Nat} {cs : List Value} {t : TypeId} (hS : St w0 w' (.cells g cs t :: H)) {xs : List AV} (hx : RL ρ xs cs) :
    Rel w0 Fr (ρ ++ [⟨g, 0, undef⟩]) (A.push (.blk t xs none)) w' :=
  hA.push h1 h3 hS ⟨cs, [], RL_mono (List.prefix_append _ _) _ hx, by simp, rfl⟩

def aAlloc (P : Program) (t : TypeId) (A : AH) : Option (List (AV × AH)) := match (P.info? t).bind (·.zero) with
  | some v => some [(.ptr A.n 0, A.push (.blk t (v.cells.toList.map .lit) none))]
  | none => none

theorem good_alloc {t : TypeId} (h : aAlloc P t A = some outs) (hA : Rel w0 Fr ρ A w) : Good P w0 Fr ⟨dst, .alloc t, ty, pos, after, gd⟩ a w ρ outs := by
  unfold aAlloc at h
  split at h
  · rename_i v hv
    cases h
    obtain ⟨H, h1, hS, h3⟩ := hA.ex
    intro K Q hK
    refine opA_alloc hS hv rfl (fun g w' hS' => ?_)
    exact hK _ _ _ _ w' (List.mem_singleton.2 rfl) (List.prefix_append _ _) (push_blk hA h1 h3 hS' (RL.lits _)) (by rw [R_ptr]; exact ⟨_, hA.last _, rfl⟩)
  · cases h

def aBox (t : TypeId) (x : AV) (A : AH) : Option (List (AV × AH)) := some [(.ptr A.n 0, A.push (.blk t (cellsA x) none))]

theorem good_box {t : TypeId} {x : Operand} (h : aBox t (ev x) A = some outs) (hA : Rel w0 Fr ρ A w) (he : R ρ (ev x) (a.eval x)) : Good P w0 Fr ⟨dst, .box t x, ty, pos, after, gd⟩ a w ρ outs := by
  cases h
  obtain ⟨H, h1, hS, h3⟩ := hA.ex
  intro K Q hK
  refine opA_box hS rfl rfl (fun g w' hS' => ?_)
  exact hK _ _ _ _ w' (List.mem_singleton.2 rfl) (List.prefix_append _ _) (push_blk hA h1 h3 hS' (R_cells he)) (by rw [R_ptr]; exact ⟨_, hA.last _, rfl⟩)

def aMakeMap (P : Program) (t : TypeId) (A : AH) : Option (List (AV × AH)) := match P.underlying t with
  | some (.map k _) => match P.underlying k with
    | some d => some [(.mp A.n, A.push (.mp d []))]
    | none => none
  | _ => none

theorem good_makeMap {t : TypeId} (h : aMakeMap P t A = some outs) (hA : Rel w0 Fr ρ A w) : Good P w0 Fr ⟨dst, .makeMap t none, ty, pos, after, gd⟩ a w ρ outs := by
  unfold aMakeMap at h
  split at h
  · split at h
    · rename_i d hd
      cases h
      obtain ⟨H, h1, hS, h3⟩ := hA.ex
      intro K Q hK
      refine opA_makeMap hS d (fun g w' hS' => ?_)
      exact hK _ _ (ρ ++ [⟨g, 0, undef⟩]) _ w' (List.mem_singleton.2 rfl) (List.prefix_append _ _) (hA.push h1 h3 hS' ⟨[], ⟨rfl, by simp⟩, rfl⟩) (by rw [R_mp]; exact ⟨_, hA.last _, rfl⟩)
    · cases h
  · cases h

/-! addresses -/
def aFieldAddr (P : Program) (s : TypeId) (x : AV) (f : Nat) (A : AH) : Option (List (AV × AH)) := match x with
  | .ptr b o => match P.underlying s with
    | some (.struct fs) => match fs[f]? with
      | some fd => match sizeP P fd.type with
        | some (n + 1) => some [(.ptr b (o + fd.offset), A)]
        | _ => none
      | none => none
    | _ => none
  | _ => none

theorem run_sizeOf {t : TypeId} {n : Nat} (h : sizeP P t = some n) (w : World) : (sizeOf t).run P w = .ok n w := by
  unfold sizeP at h
  rw [Option.map_eq_some_iff] at h
  obtain ⟨i, h1, h2⟩ := h
  simp [sizeOf, typeInfo, h1, h2]

theorem addr_add (g o n : Nat) : (⟨g, o, none⟩ : Addr).add n = ⟨g, o + n, none⟩ := by
  unfold Addr.add
  split
  · subst_vars; rfl
  · rfl

theorem good_fieldAddr {s : TypeId} {x : Operand} {f : Nat} (h : aFieldAddr P s (ev x) f A = some outs) (hA : Rel w0 Fr ρ A w) (he : R ρ (ev x) (a.eval x)) : Good P w0 Fr ⟨dst, .fieldAddr s x f, ty, pos, after, gd⟩ a w ρ outs := by
  unfold aFieldAddr at h
  split at h
  · rename_i b o hx
    rw [hx, R_ptr] at he
    obtain ⟨l, hb, hV⟩ := he
    split at h
    · rename_i fs hu
      split at h
      · rename_i fd hf
        split at h
        · rename_i n hn
          cases h
          refine good_value (.pointer (some ⟨l.blk, o + fd.offset, none⟩)) ?_ hA (by rw [R_ptr]; exact ⟨l, hb, rfl⟩)
          simp [execOp, hV, Instr.fieldAt, run_underlying hu, hf, Instr.sureAddr, fieldPlace, run_sizeOf hn, Result.andThen, addr_add]
        · cases h
      · cases h
    · cases h
  · cases h

def aNilCheck (x : AV) (A : AH) : Option (List (AV × AH)) := match x with
  | .ptr b o => some [(.ptr b o, A)]
  | _ => none

theorem good_nilCheck {x : Operand} (h : aNilCheck (ev x) A = some outs) (hA : Rel w0 Fr ρ A w) (he : R ρ (ev x) (a.eval x)) : Good P w0 Fr ⟨dst, .nilCheck x, ty, pos, after, gd⟩ a w ρ outs := by
  unfold aNilCheck at h
  split at h
  · rename_i b o hx
    rw [hx] at he
    have he' := he
    rw [R_ptr] at he
    obtain ⟨l, hb, hV⟩ := he
    cases h
    exact good_value _ (by simp [execOp, hV]) hA (hV ▸ he')
  · cases h

theorem good_move {x : Operand} (hA : Rel w0 Fr ρ A w) (he : R ρ (ev x) (a.eval x)) : Good P w0 Fr ⟨dst, .move x, ty, pos, after, gd⟩ a w ρ [(ev x, A)] := good_value _ rfl hA he
theorem good_assign {x : Operand} (hA : Rel w0 Fr ρ A w) (he : R ρ (ev x) (a.eval x)) : Good P w0 Fr ⟨dst, .assign x, ty, pos, after, gd⟩ a w ρ [(ev x, A)] := good_value _ rfl hA he

def aPick (c x y : AV) (A : AH) : Option (List (AV × AH)) := match c with
  | .lit (.bool true) => some [(x, A)]
  | .lit (.bool false) => some [(y, A)]
  | _ => none

theorem good_pick {c x y : Operand} (h : aPick (ev c) (ev x) (ev y) A = some outs) (hA : Rel w0 Fr ρ A w) (hc : R ρ (ev c) (a.eval c)) (hx : R ρ (ev x) (a.eval x)) (hy : R ρ (ev y) (a.eval y)) : Good P w0 Fr ⟨dst, .pick c x y, ty, pos, after, gd⟩ a w ρ outs := by
  unfold aPick at h
  split at h
  · rename_i hv
    rw [hv, R_lit] at hc
    cases h
    exact good_value _ (by simp [execOp, hc, asBool]) hA hx
  · rename_i hv
    rw [hv, R_lit] at hc
    cases h
    exact good_value _ (by simp [execOp, hc, asBool]) hA hy
  · cases h

/-- The place of an element. -/
theorem blt_lt {i n : Nat} (h : Nat.blt i n = true) : i < n := Nat.lt_of_succ_le (Nat.le_of_ble_eq_true h)

/-- What is known of a block lies within its capacity. -/
theorem rs_cap (hA : Rel w0 Fr ρ A w) {b : Nat} {l : Loc} (hb : ρ[b]? = some l) {t : TypeId} {xs : List AV} {s m : Nat} (hg : A.get b = .blk t xs (some s)) (hs : 0 < s) (hm : m * s ≤ xs.length) : m ≤ l.cap := by
  obtain ⟨H, vs, tail, h1, hS, h3, h4, h5, h6, h7⟩ := blk_out hA hb hg
  have hl := h5.length
  rw [List.length_append] at h6
  exact Nat.le_of_mul_le_mul_right (by omega) hs

def aIndexAddr (P : Program) (t : TypeId) (x i : AV) (A : AH) : Option (List (AV × AH)) := match i with
  | .lit (.int _ (.ofNat i)) => match P.underlying t, x with
    | some (.slice e), .sl b o n _ => match sizeP P e with
      | some s => bif Nat.blt i n then some [(.ptr b (o + i * s), A)] else none
      | none => none
    | some (.slice e), .rs b oe o n => match sizeP P e, A.get b with
      | some s, .blk _ xs (some s') => bif Nat.blt i n && (Nat.beq s s' && (Nat.blt 0 s && Nat.ble ((oe + n) * s) xs.length)) then some [(.ptr b (o + i * s), A)] else none
      | some s, .rob _ xs => bif Nat.blt i n && (Nat.beq s 1 && Nat.ble (oe + n) xs.length) then some [(.ptr b (o + i * s), A)] else none
      | _, _ => none
    | some (.array n e), .ptr b o => match sizeP P e with
      | some s => bif Nat.blt i n then some [(.ptr b (o + i * s), A)] else none
      | none => none
    | _, _ => none
  | _ => none

theorem good_indexAddr {t : TypeId} {x i : Operand} (h : aIndexAddr P t (ev x) (ev i) A = some outs) (hA : Rel w0 Fr ρ A w) (he : R ρ (ev x) (a.eval x)) (hi : R ρ (ev i) (a.eval i)) : Good P w0 Fr ⟨dst, .indexAddr t x i, ty, pos, after, gd⟩ a w ρ outs := by
  unfold aIndexAddr at h
  split at h
  · rename_i k j hj
    rw [hj, R_lit] at hi
    have h0 : (0 : Int) ≤ Int.ofNat j := Int.natCast_nonneg j
    split at h
    · rename_i e b o n c hu hx
      rw [hx, R_sl] at he
      obtain ⟨l, hb, hV⟩ := he
      split at h
      · rename_i s hs
        rw [cond_eq_ite] at h
        split at h
        · rename_i hlt
          have hlt' : (Int.ofNat j) < (n : Int) := Int.ofNat_lt.2 (blt_lt hlt)
          cases h
          refine good_value (.pointer (some ⟨l.blk, o + j * s, none⟩)) ?_ hA (by rw [R_ptr]; exact ⟨l, hb, rfl⟩)
          have hc : (0 : Int) ≤ Int.ofNat j ∧ Int.ofNat j < (n : Int) := ⟨h0, hlt'⟩
          simp only [execOp, hi, hV, Instr.indexAt, asIntOf, Sem.run_bind, Sem.run_pure, Result.andThen_ok, run_underlying hu, if_pos hc, run_sizeOf hs]
          rw [addr_add]; rfl
        · cases h
      · cases h
    · rename_i e b oe o n hu hx
      rw [hx, R_rs] at he
      obtain ⟨l, o', hb, ho, hV⟩ := he
      split at h
      · rename_i s tt xs s' hs hg
        rw [cond_eq_ite] at h
        split at h
        · rename_i hlt
          simp only [Bool.and_eq_true] at hlt
          obtain ⟨hlt, q1, q2, q3⟩ := hlt
          obtain rfl := Nat.eq_of_beq_eq_true q1
          have eo := ho (by have := rs_cap hA hb hg (blt_lt q2) (Nat.le_of_ble_eq_true q3); have := blt_lt hlt; omega)
          rw [eo] at hV
          have hlt' : (Int.ofNat j) < (n : Int) := Int.ofNat_lt.2 (blt_lt hlt)
          cases h
          refine good_value (.pointer (some ⟨l.blk, o + j * s, none⟩)) ?_ hA (by rw [R_ptr]; exact ⟨l, hb, rfl⟩)
          have hc : (0 : Int) ≤ Int.ofNat j ∧ Int.ofNat j < (n : Int) := ⟨h0, hlt'⟩
          simp only [execOp, hi, hV, Instr.indexAt, asIntOf, Sem.run_bind, Sem.run_pure, Result.andThen_ok, run_underlying hu, if_pos hc, run_sizeOf hs]
          rw [addr_add]; rfl
        · cases h
      · rename_i s tt xs hs hg
        rw [cond_eq_ite] at h
        split at h
        · rename_i hlt
          simp only [Bool.and_eq_true] at hlt
          obtain ⟨hlt, q1, q3⟩ := hlt
          obtain ⟨vs, tail, h5, h6, _, _⟩ := rob_out hA hb hg
          have hlv := h5.length
          rw [List.length_append] at h6
          have eo := ho (by have := Nat.le_of_ble_eq_true q3; have := blt_lt hlt; omega)
          rw [eo] at hV
          have hlt' : (Int.ofNat j) < (n : Int) := Int.ofNat_lt.2 (blt_lt hlt)
          cases h
          refine good_value (.pointer (some ⟨l.blk, o + j * s, none⟩)) ?_ hA (by rw [R_ptr]; exact ⟨l, hb, rfl⟩)
          have hc : (0 : Int) ≤ Int.ofNat j ∧ Int.ofNat j < (n : Int) := ⟨h0, hlt'⟩
          simp only [execOp, hi, hV, Instr.indexAt, asIntOf, Sem.run_bind, Sem.run_pure, Result.andThen_ok, run_underlying hu, if_pos hc, run_sizeOf hs]
          rw [addr_add]; rfl
        · cases h
      · cases h
    · rename_i n e b o hu hx
      rw [hx, R_ptr] at he
      obtain ⟨l, hb, hV⟩ := he
      split at h
      · rename_i s hs
        rw [cond_eq_ite] at h
        split at h
        · rename_i hlt
          have hlt' : (Int.ofNat j) < (n : Int) := Int.ofNat_lt.2 (blt_lt hlt)
          cases h
          refine good_value (.pointer (some ⟨l.blk, o + j * s, none⟩)) ?_ hA (by rw [R_ptr]; exact ⟨l, hb, rfl⟩)
          have hc : (0 : Int) ≤ Int.ofNat j ∧ Int.ofNat j < (n : Int) := ⟨h0, hlt'⟩
          simp only [execOp, hi, hV, Instr.indexAt, asIntOf, Instr.sureAddr, Sem.run_bind, Sem.run_pure, Result.andThen_ok, run_underlying hu, if_pos hc, run_sizeOf hs]
          rw [addr_add]; rfl
        · cases h
      · cases h
    · cases h
  · cases h
end
end Go.Proofs.YtkfalpmimdcneaaGreatDoor
