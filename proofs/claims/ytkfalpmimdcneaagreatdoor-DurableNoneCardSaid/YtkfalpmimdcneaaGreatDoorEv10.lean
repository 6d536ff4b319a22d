/-
  The evaluator: a region that draws its order: the proof.
-/
import Derived.Test.YtkfalpmimdcneaaGreatDoorEv9
namespace Go.Proofs.YtkfalpmimdcneaaGreatDoor
set_option linter.unusedVariables false
set_option linter.unusedSimpArgs false

structure En where
  T : Tm
  A : AH
  v : AV
  w : Bool
  e : Bool

def trace (callF : CallF) (P : Program) (ops : Array Oper) : List Oper → Tm → AH → Option (List En × Tm × AH)
  | [], T, A => some ([], T, A)
  | o :: r, T, A => bif guardA ops T o then
      (match aStep callF P (evT T) o A with
       | some [(v, A')] => fA v fun v => match T.put o.dst v with
         | some T' => (match trace callF P ops r T' A' with
           | some (l, x) => some (⟨T, A, v, true, isEff P o.op⟩ :: l, x)
           | none => none)
         | none => none
       | _ => none)
    else match T.put o.dst (.lit undef) with
      | some T' => (match trace callF P ops r T' A with
        | some (l, x) => some (⟨T, A, .lit undef, false, false⟩ :: l, x)
        | none => none)
      | none => none

def tAt (es : List En) (Tf : Tm) (i : Nat) : Tm := ((es[i]?).map (·.T)).getD Tf
def aAt (es : List En) (Af : AH) (i : Nat) : AH := ((es[i]?).map (·.A)).getD Af

/-- What a trace says of its i-th operation. -/
structure TrI (callF : CallF) (P : Program) (ops : Array Oper) (es : List En) (Tf : Tm) (Af : AH) (i : Nat) (o : Oper) (en : En) : Prop where
  at_ : es[i]? = some en
  w : en.w = guardA ops en.T o
  run : en.w = true → aStep callF P (evT en.T) o en.A = some [(en.v, aAt es Af (i + 1))]
  skip : en.w = false → en.v = .lit undef ∧ aAt es Af (i + 1) = en.A
  put : en.T.put o.dst en.v = some (tAt es Tf (i + 1))
  e : en.e = (en.w && isEff P o.op)

section
variable {P : Program} {w0 w : World} {Fr : List Hp} {ρ ρ' : List Loc} {A A' : AH} {a : Act} {T T' : Tm} {callF : CallF} {ops : Array Oper}

theorem trace_spec : ∀ {os : List Oper} {T : Tm} {A : AH} {es : List En} {Tf : Tm} {Af : AH}, trace callF P ops os T A = some (es, Tf, Af) →
    es.length = os.length ∧ tAt es Tf 0 = T ∧ aAt es Af 0 = A ∧ ∀ i o, os[i]? = some o → ∃ en, TrI callF P ops es Tf Af i o en
  | [], T, A, es, Tf, Af, h => by
    simp only [trace, Option.some.injEq, Prod.mk.injEq] at h
    obtain ⟨rfl, rfl, rfl⟩ := h
    exact ⟨rfl, rfl, rfl, fun i o hi => by simp at hi⟩
  | o :: r, T, A, es, Tf, Af, h => by
    have lift : ∀ (en : En) (l : List En) (i : Nat), tAt (en :: l) Tf (i + 1) = tAt l Tf i ∧ aAt (en :: l) Af (i + 1) = aAt l Af i := fun en l i => by simp [tAt, aAt]
    have step : ∀ (en : En) (l : List En), (∀ i o, r[i]? = some o → ∃ en, TrI callF P ops l Tf Af i o en) → TrI callF P ops (en :: l) Tf Af 0 o en → ∀ i o', (o :: r)[i]? = some o' → ∃ en', TrI callF P ops (en :: l) Tf Af i o' en' := fun en l hl h0 i o' hi => by
      cases i with
      | zero => simp at hi; subst hi; exact ⟨en, h0⟩
      | succ i =>
        obtain ⟨en', q⟩ := hl i o' (by simpa using hi)
        refine ⟨en', ⟨by simpa using q.at_, q.w, fun hw => ?_, fun hw => ?_, ?_, q.e⟩⟩
        · rw [(lift en l (i + 1)).2]; exact q.run hw
        · rw [(lift en l (i + 1)).2]; exact q.skip hw
        · rw [(lift en l (i + 1)).1]; exact q.put
    simp only [trace, cond_eq_ite] at h
    split at h
    · rename_i hg
      split at h
      · rename_i v A' hs
        rw [fA_eq] at h
        split at h
        · rename_i T' hT
          split at h
          · rename_i l x hr
            simp only [Option.some.injEq, Prod.mk.injEq] at h
            obtain ⟨rfl, rfl⟩ := h
            obtain ⟨h1, h2, h3, h4⟩ := trace_spec hr
            refine ⟨by simp [h1], rfl, rfl, step _ l h4 ⟨rfl, hg.symm, fun _ => ?_, (fun hw => by cases hw), ?_, by simp⟩⟩
            · rw [(lift _ l 0).2, h3]; exact hs
            · rw [(lift _ l 0).1, h2]; exact hT
          · cases h
        · cases h
      · cases h
    · rename_i hg
      split at h
      · rename_i T' hT
        split at h
        · rename_i l x hr
          simp only [Option.some.injEq, Prod.mk.injEq] at h
          obtain ⟨rfl, rfl⟩ := h
          obtain ⟨h1, h2, h3, h4⟩ := trace_spec hr
          refine ⟨by simp [h1], rfl, rfl, step _ l h4 ⟨rfl, by simpa using hg, (fun hw => by cases hw), fun _ => ⟨rfl, ?_⟩, ?_, rfl⟩⟩
          · rw [(lift _ l 0).2, h3]
          · rw [(lift _ l 0).1, h2]; exact hT
        · cases h
      · cases h

/-! blocks that are laid whenever: zero values and empty maps -/
def zcells (P : Program) (t : TypeId) : List Value := (((P.info? t).bind (·.zero)).map (·.cells.toList)).getD []
def keyDesc (P : Program) (t : TypeId) : TypeDesc := match P.underlying t with
  | some (.map k _) => (P.underlying k).getD .bool
  | _ => .bool

def flOk (P : Program) (o : Oper) : Bool := match o.op with
  | .alloc t => ((P.info? t).bind (·.zero)).isSome
  | .makeMap t none => (aMakeMap P t ⟨0, .nil, []⟩).isSome
  | _ => false

def flHp (P : Program) (o : Oper) (g : Nat) : Hp := match o.op with
  | .alloc t => .cells g (zcells P t) t
  | .makeMap t _ => .mp g (keyDesc P t) []
  | _ => .row 0 0 none 0 0 []
def flVal (o : Oper) (g : Nat) : Value := match o.op with
  | .alloc _ => .pointer (some ⟨g, 0, none⟩)
  | _ => .map (some g)
def flAO (P : Program) (o : Oper) : AO := match o.op with
  | .alloc t => .blk t ((zcells P t).map .lit) none
  | .makeMap t _ => .mp (keyDesc P t) []
  | _ => .dead
def flAV (o : Oper) (n : Nat) : AV := match o.op with
  | .alloc _ => .ptr n 0
  | _ => .mp n

structure Fl (callF : CallF) (P : Program) (o : Oper) : Prop where
  step : ∀ ev A, aStep callF P ev o A = some [(flAV o A.n, A.push (flAO P o))]
  ro : ∀ ρ g, RO ρ ⟨g, 0, undef⟩ (flAO P o) (flHp P o g)
  r : ∀ (ρ : List Loc) n g, ρ[n]? = some ⟨g, 0, undef⟩ → R ρ (flAV o n) (flVal o g)
  law : ∀ (w0 w : World) (H : List Hp) (a : Act) (K : Act → World → Prop) (Q : Exit → Act → World → Prop), St w0 w H → (∀ g w', St w0 w' (flHp P o g :: H) → K (a.put o.dst (flVal o g)) w') → o.wp P a w K Q

theorem fl_of {o : Oper} (h : flOk P o = true) : Fl callF P o := by
  obtain ⟨dst, op, ty, pos, after, gd⟩ := o
  unfold flOk at h
  simp only at h
  split at h
  · rename_i t
    obtain ⟨z, hz⟩ := Option.isSome_iff_exists.1 h
    have hc : zcells P t = z.cells.toList := by unfold zcells; rw [hz]; rfl
    refine ⟨fun ev A => ?_, fun ρ g => ⟨z.cells.toList, [], ?_, ?_, rfl⟩, fun ρ n g hn => ?_, fun w0 w H a K Q hS hK => ?_⟩
    · simp only [aStep, aOp, aAlloc, hz, OR.of, OR.run, flAV, flAO, hc]
    · rw [hc]; exact RL.lits _
    · simp [flHp, hc]
    · simp only [flAV, flVal, R_ptr]; exact ⟨_, hn, rfl⟩
    · refine opA_alloc hS hz rfl (fun g w' hS' => hK g w' ?_)
      simp only [flHp, hc]; exact hS'
  · rename_i t
    unfold aMakeMap at h
    split at h
    · rename_i k e hu
      split at h
      · rename_i d hd
        have hk : keyDesc P t = d := by unfold keyDesc; rw [hu]; simp only [hd]; rfl
        refine ⟨fun ev A => ?_, fun ρ g => ⟨[], ⟨rfl, by simp⟩, ?_⟩, fun ρ n g hn => ?_, fun w0 w H a K Q hS hK => ?_⟩
        · simp only [aStep, aOp, aMakeMap, hu, hd, OR.of, OR.run, flAV, flAO, hk]
        · simp [flHp]
        · simp only [flAV, flVal, R_mp]; exact ⟨_, hn, rfl⟩
        · refine opA_makeMap hS (keyDesc P t) (fun g w' hS' => hK g w' ?_)
          simp only [flHp]; exact hS'
      · cases h
    · cases h
  · cases h

/-! what is known of the order ahead of any run -/
def dstIx : List Oper → Nat → Nat → Option Nat
  | [], _, _ => none
  | o :: r, k, t => match o.dst with
    | some d => bif Nat.beq d t then some k else dstIx r (k + 1) t
    | none => dstIx r (k + 1) t

def maskOf (bs : List Nat) : List Edge → Nat
  | [] => 0
  | e :: r => bif Region.binds .any e then Nat.lor (Nat.lor (2 ^ e.on) (bs.getD e.on 0)) (maskOf bs r) else maskOf bs r

def befs : List Oper → List Nat → List Nat
  | [], acc => acc
  | o :: r, acc => befs r (acc ++ [maskOf acc o.after.toList])

def guardDst (ops : Array Oper) (o : Oper) : List Nat := match o.guard with
  | none => []
  | some (j, _) => ((ops[j]?).bind (·.dst)).toList

def tmpsOf (ops : Array Oper) (o : Oper) : List Nat := (o.op.operands.toList.filterMap fun x => match x with | .tmp t => some t | _ => none) ++ guardDst ops o

def statJ (P : Program) (ops : Array Oper) (os : List Oper) (bs : List Nat) (j : Nat) (o : Oper) : Bool :=
  let m := bs.getD j 0
  (Nat.beq m (maskOf bs o.after.toList) && o.after.toList.all (fun e => !Region.binds .any e || Nat.blt e.on j)) &&
  (((tmpsOf ops o).all fun t => match dstIx os 0 t with | some i => m.testBit i | none => true) &&
  ((match o.dst with | some d => (match dstIx os 0 d with | some k => Nat.beq k j | none => false) | none => true) &&
  (((!isEff P o.op || flOk P o) || (List.range j).all fun i => match os[i]? with | some o' => !isEff P o'.op || m.testBit i | none => true) &&
  ((List.range j).all fun k => !m.testBit k || (match os[k]? with | some f => !flOk P f || (List.range k).all (fun i => match os[i]? with | some o' => !isEff P o'.op || m.testBit i | none => true) | none => true)))))

def statGo (P : Program) (ops : Array Oper) (os : List Oper) (bs : List Nat) : Nat → List Oper → Bool
  | _, [] => true
  | j, o :: r => statJ P ops os bs j o && statGo P ops os bs (j + 1) r

def fNs {β : Type} : List Nat → (List Nat → β) → β
  | [], k => k []
  | n :: r, k => fN n fun n => fNs r fun r => k (n :: r)
theorem fNs_eq {β : Type} : ∀ (l : List Nat) (k : List Nat → β), fNs l k = k l
  | [], k => rfl
  | n :: r, k => by simp only [fNs, fN_eq]; rw [fNs_eq r]

theorem statGo_spec {os : List Oper} {bs : List Nat} : ∀ {r : List Oper} {j : Nat}, statGo P ops os bs j r = true → ∀ i o, r[i]? = some o → statJ P ops os bs (j + i) o = true
  | [], _, _, i, o, hi => by simp at hi
  | x :: r, j, h, i, o, hi => by
    simp only [statGo, Bool.and_eq_true] at h
    cases i with
    | zero => simp at hi; subst hi; exact h.1
    | succ i =>
      have := statGo_spec h.2 i o (by simpa using hi)
      rw [show j + (i + 1) = j + 1 + i by omega]; exact this

theorem dstIx_some : ∀ {os : List Oper} {k t i : Nat}, dstIx os k t = some i → ∃ q o, i = k + q ∧ os[q]? = some o ∧ o.dst = some t
  | [], _, _, _, h => by simp [dstIx] at h
  | o :: r, k, t, i, h => by
    simp only [dstIx] at h
    split at h
    · rename_i d hd
      rw [cond_eq_ite] at h
      split at h
      · rename_i hb
        obtain rfl := Nat.eq_of_beq_eq_true hb
        cases h
        exact ⟨0, o, rfl, rfl, hd⟩
      · obtain ⟨q, o', h1, h2, h3⟩ := dstIx_some h
        exact ⟨q + 1, o', by omega, by simpa using h2, h3⟩
    · obtain ⟨q, o', h1, h2, h3⟩ := dstIx_some h
      exact ⟨q + 1, o', by omega, by simpa using h2, h3⟩

theorem mask_bit {bs : List Nat} {i : Nat} : ∀ {es : List Edge}, (maskOf bs es).testBit i = true → ∃ e ∈ es, Region.binds .any e = true ∧ (e.on = i ∨ (bs.getD e.on 0).testBit i = true)
  | [], h => by simp [maskOf] at h
  | e :: r, h => by
    simp only [maskOf, cond_eq_ite] at h
    split at h
    · rename_i hb
      rw [show ∀ a b : Nat, Nat.lor a b = a ||| b from fun _ _ => rfl, show ∀ a b : Nat, Nat.lor a b = a ||| b from fun _ _ => rfl, Nat.testBit_or, Nat.testBit_or] at h
      simp only [Bool.or_eq_true] at h
      rcases h with (h | h) | h
      · rw [Nat.testBit_two_pow] at h
        exact ⟨e, List.mem_cons_self, hb, .inl (by simpa using h)⟩
      · exact ⟨e, List.mem_cons_self, hb, .inr h⟩
      · obtain ⟨e', h1, h2⟩ := mask_bit h
        exact ⟨e', List.mem_cons_of_mem _ h1, h2⟩
    · obtain ⟨e', h1, h2⟩ := mask_bit h
      exact ⟨e', List.mem_cons_of_mem _ h1, h2⟩

/-- The static facts of an operation. -/
structure StI (P : Program) (ops : Array Oper) (os : List Oper) (bs : List Nat) (j : Nat) (o : Oper) : Prop where
  mask : bs.getD j 0 = maskOf bs o.after.toList
  lt : ∀ e ∈ o.after.toList, Region.binds .any e = true → e.on < j
  tmps : ∀ t ∈ tmpsOf ops o, ∀ i, dstIx os 0 t = some i → (bs.getD j 0).testBit i = true
  dst : ∀ d, o.dst = some d → dstIx os 0 d = some j
  eff : isEff P o.op = true → flOk P o = false → ∀ i o', i < j → os[i]? = some o' → isEff P o'.op = true → (bs.getD j 0).testBit i = true
  fl : ∀ k f, os[k]? = some f → k < j → (bs.getD j 0).testBit k = true → flOk P f = true → ∀ i o', i < k → os[i]? = some o' → isEff P o'.op = true → (bs.getD j 0).testBit i = true

theorem statJ_out {os : List Oper} {bs : List Nat} {j : Nat} {o : Oper} (h : statJ P ops os bs j o = true) : StI P ops os bs j o := by
  unfold statJ at h
  simp only [Bool.and_eq_true] at h
  obtain ⟨⟨h1, h2⟩, h3, h4, h5, h6⟩ := h
  refine ⟨Nat.eq_of_beq_eq_true h1, fun e he hb => ?_, fun t ht i hi => ?_, fun d hd => ?_, fun he hf i o' hi ho he' => ?_, fun k f hk hkj hb hf i o' hi ho he' => ?_⟩
  · have := List.all_eq_true.1 h2 e he
    rw [hb] at this
    exact blt_lt (by simpa using this)
  · have := List.all_eq_true.1 h3 t ht
    rw [hi] at this
    exact this
  · rw [hd] at h4
    simp only at h4
    split at h4
    · rename_i k hk
      rw [hk, Nat.eq_of_beq_eq_true h4]
    · cases h4
  · rw [he, hf] at h5
    simp only [Bool.not_true, Bool.or_false, Bool.false_or] at h5
    have := List.all_eq_true.1 h5 i (List.mem_range.2 hi)
    rw [ho] at this
    simp only [he', Bool.not_true, Bool.false_or] at this
    exact this
  · have h7 := List.all_eq_true.1 h6 k (List.mem_range.2 hkj)
    rw [hb, hk] at h7
    simp only [hf, Bool.not_true, Bool.false_or] at h7
    have := List.all_eq_true.1 h7 i (List.mem_range.2 hi)
    rw [ho] at this
    simp only [he', Bool.not_true, Bool.false_or] at this
    exact this

def StA (P : Program) (ops : Array Oper) (os : List Oper) (bs : List Nat) : Prop := ∀ j o, os[j]? = some o → StI P ops os bs j o

/-- What must come ahead of an operation is listed, when its edges are. -/
theorem closed {os : List Oper} {bs : List Nat} (hS : StA P ops os bs) {L : Nat → Prop} (hd : ∀ j o, os[j]? = some o → L j → ∀ e ∈ o.after.toList, Region.binds .any e = true → L e.on) :
    ∀ (j : Nat) (o : Oper), os[j]? = some o → (∀ e ∈ o.after.toList, Region.binds .any e = true → L e.on) → ∀ i, (bs.getD j 0).testBit i = true → L i ∧ i < j := by
  intro j
  induction j using Nat.strongRecOn with
  | _ j ih =>
    intro o ho he i hi
    have hs := hS j o ho
    rw [hs.mask] at hi
    obtain ⟨e, h1, h2, h3⟩ := mask_bit hi
    have hlt := hs.lt e h1 h2
    have hL := he e h1 h2
    rcases h3 with rfl | h3
    · exact ⟨hL, hlt⟩
    · have hj : j < os.length := (List.getElem?_eq_some_iff.1 ho).1
      have hg := List.getElem?_eq_getElem (l := os) (i := e.on) (by omega)
      obtain ⟨q1, q2⟩ := ih e.on hlt _ hg (fun e' h' b' => hd _ _ hg hL e' h' b') i h3
      exact ⟨q1, by omega⟩

/-! the effects -/
def effIx : List En → Nat → List Nat
  | [], _ => []
  | en :: r, k => bif en.e then k :: effIx r (k + 1) else effIx r (k + 1)

theorem effIx_mem : ∀ {es : List En} {k i : Nat}, i ∈ effIx es k ↔ ∃ q en, i = k + q ∧ es[q]? = some en ∧ en.e = true
  | [], k, i => by simp [effIx]
  | en :: r, k, i => by
    simp only [effIx, cond_eq_ite]
    have ih := effIx_mem (es := r) (k := k + 1) (i := i)
    constructor
    · intro h
      split at h
      · rename_i he
        rcases List.mem_cons.1 h with rfl | h
        · exact ⟨0, en, rfl, rfl, he⟩
        · obtain ⟨q, en', h1, h2, h3⟩ := ih.1 h
          exact ⟨q + 1, en', by omega, by simpa using h2, h3⟩
      · obtain ⟨q, en', h1, h2, h3⟩ := ih.1 h
        exact ⟨q + 1, en', by omega, by simpa using h2, h3⟩
    · rintro ⟨q, en', h1, h2, h3⟩
      cases q with
      | zero =>
        simp at h2; subst h2
        rw [if_pos h3]
        exact List.mem_cons.2 (.inl (by omega))
      | succ q =>
        have : i ∈ effIx r (k + 1) := ih.2 ⟨q, en', by omega, by simpa using h2, h3⟩
        split
        · exact List.mem_cons_of_mem _ this
        · exact this

/-- An operation that reads comes to the same wherever it may stand. -/
def dynJ (callF : CallF) (P : Program) (os : List Oper) (bs : List Nat) (es : List En) (Af : AH) (ef : List Nat) (j : Nat) (o : Oper) (en : En) : Bool :=
  !en.w || (isEff P o.op || (isNH o.op || (0 :: ef.map (· + 1)).all fun p =>
    !(ef.all fun i => (!(bs.getD j 0).testBit i || Nat.blt i p) && (!(bs.getD i 0).testBit j || Nat.ble p i)) ||
    ((Nat.ble p j && ef.all fun i => Nat.blt i p || Nat.ble j i) ||
    (match aStep callF P (evT en.T) o (aAt es Af p) with | some [(v, _)] => aEq v en.v | _ => false))))

def dynGo (callF : CallF) (P : Program) (os : List Oper) (bs : List Nat) (es : List En) (Af : AH) (ef : List Nat) : Nat → List Oper → List En → Bool
  | _, [], _ => true
  | _, _ :: _, [] => false
  | j, o :: r, en :: s => dynJ callF P os bs es Af ef j o en && dynGo callF P os bs es Af ef (j + 1) r s

theorem dynGo_spec {os : List Oper} {bs : List Nat} {es : List En} {Af : AH} {ef : List Nat} : ∀ {r : List Oper} {s : List En} {j : Nat}, dynGo callF P os bs es Af ef j r s = true → ∀ i o en, r[i]? = some o → s[i]? = some en → dynJ callF P os bs es Af ef (j + i) o en = true
  | [], _, _, _, i, o, en, hi, _ => by simp at hi
  | _ :: _, [], _, h, _, _, _, _, _ => by cases h
  | x :: r, y :: s, j, h, i, o, en, hi, hs => by
    simp only [dynGo, Bool.and_eq_true] at h
    cases i with
    | zero => simp at hi hs; subst hi; subst hs; exact h.1
    | succ i =>
      have := dynGo_spec h.2 i o en (by simpa using hi) (by simpa using hs)
      rw [show j + (i + 1) = j + 1 + i by omega]; exact this

/-- The whole region. -/
def evDraw (callF : CallF) (P : Program) (ops : Array Oper) (T : Tm) (A : AH) : Option (List (Tm × AH)) :=
  fNs (befs ops.toList []) fun bs =>
  bif statGo P ops ops.toList bs 0 ops.toList then
    match trace callF P ops ops.toList T A with
    | some (es, Tf, Af) => fNs (effIx es 0) fun ef => bif dynGo callF P ops.toList bs es Af ef 0 ops.toList es then some [(Tf, Af)] else none
    | none => none
  else none
end
end Go.Proofs.YtkfalpmimdcneaaGreatDoor
