/-
  The evaluator: whatever order a region draws, it comes to what the evaluator says.
-/
import Derived.Test.YtkfalpmimdcneaaGreatDoorEv10
namespace Go.Proofs.YtkfalpmimdcneaaGreatDoor
set_option linter.unusedVariables false
set_option linter.unusedSimpArgs false

section
variable {P : Program} {w0 w : World} {Fr : List Hp} {ρ ρ' : List Loc} {A A' : AH} {a : Act} {T T' : Tm} {callF : CallF} {ops : Array Oper}
  {os : List Oper} {bs : List Nat} {es : List En} {Tf : Tm} {Af : AH}

/-- The slots when the operations of L have run. -/
def xAt (os : List Oper) (es : List En) (T : Tm) (L : Nat → Bool) (t : Nat) : AV := match dstIx os 0 t with
  | some k => if L k then ((es[k]?).map (·.v)).getD (.lit undef) else T.at t
  | none => T.at t

def evX (os : List Oper) (es : List En) (T : Tm) (L : Nat → Bool) : Operand → AV
  | .tmp t => xAt os es T L t
  | .const v => .lit v
  | .global g => .lit (.pointer (some ⟨g, 0, none⟩))
  | .func f => .lit (.func (.func f) #[] #[])

abbrev TrA (callF : CallF) (P : Program) (ops : Array Oper) (os : List Oper) (es : List En) (Tf : Tm) (Af : AH) : Prop := ∀ i o, os[i]? = some o → ∃ en, TrI callF P ops es Tf Af i o en

theorem en_at {i : Nat} {o : Oper} {en : En} (h : TrI callF P ops es Tf Af i o en) : tAt es Tf i = en.T ∧ aAt es Af i = en.A := by
  simp [tAt, aAt, h.at_]

/-- No effect: no change. -/
theorem step_same {i : Nat} {o : Oper} {en : En} (h : TrI callF P ops es Tf Af i o en) (he : en.e = false) : aAt es Af (i + 1) = aAt es Af i := by
  rw [(en_at h).2]
  cases hw : en.w with
  | false => exact (h.skip hw).2
  | true =>
    have := h.e
    rw [he, hw] at this
    exact ne_step (by simpa using this.symm) (h.run hw)

theorem const_heap (hT : TrA callF P ops os es Tf Af) (hl : es.length = os.length) {p : Nat} : ∀ {q : Nat}, p ≤ q → q ≤ os.length → (∀ i en, p ≤ i → i < q → es[i]? = some en → en.e = false) → aAt es Af q = aAt es Af p := by
  intro q hpq
  induction q with
  | zero => intro _ _; rw [show p = 0 by omega]
  | succ q ih =>
    intro hq h
    by_cases e : p = q + 1
    · rw [e]
    · have ho := List.getElem?_eq_getElem (l := os) (i := q) (by omega)
      obtain ⟨en, hen⟩ := hT q _ ho
      rw [step_same hen (h q en (by omega) (by omega) hen.at_)]
      exact ih (by omega) (by omega) (fun i en' h1 h2 h3 => h i en' h1 (by omega) h3)

/-- The slots ahead of the i-th operation. -/
theorem slots (hT : TrA callF P ops os es Tf Af) (hS : StA P ops os bs) (h0 : tAt es Tf 0 = T) : ∀ (i : Nat), i ≤ os.length → ((tAt es Tf i).sz = T.sz ∧ (tAt es Tf i).df = T.df) ∧ ∀ t, (tAt es Tf i).at t = xAt os es T (fun k => decide (k < i)) t := by
  intro i
  induction i with
  | zero =>
    intro _
    rw [h0]
    refine ⟨⟨rfl, rfl⟩, fun t => ?_⟩
    unfold xAt
    split <;> simp
  | succ i ih =>
    intro hi
    obtain ⟨h1, h2⟩ := ih (by omega)
    have ho := List.getElem?_eq_getElem (l := os) (i := i) (by omega)
    obtain ⟨en, hen⟩ := hT i _ ho
    have hp := hen.put
    rw [← (en_at hen).1] at hp
    have hs := hS i _ ho
    cases hd : os[i].dst with
    | none =>
      rw [hd] at hp
      simp only [Tm.put, Option.some.injEq] at hp
      rw [← hp]
      refine ⟨h1, fun t => ?_⟩
      rw [h2]
      unfold xAt
      split
      · rename_i k hk
        obtain ⟨q, o', e1, e2, e3⟩ := dstIx_some hk
        have : k ≠ i := fun e => by
          have : q = i := by omega
          subst this
          rw [ho] at e2; cases e2
          rw [hd] at e3; cases e3
        by_cases hki : k < i
        · rw [if_pos (by simpa using hki), if_pos (by simp; omega)]
        · rw [if_neg (by simpa using hki), if_neg (by simp; omega)]
      · rfl
    | some d =>
      rw [hd] at hp
      simp only [Tm.put, cond_eq_ite] at hp
      split at hp
      · simp only [Option.some.injEq] at hp
        rw [← hp]
        refine ⟨h1, fun t => ?_⟩
        rw [Tm.at_set]
        have hdi := hs.dst d hd
        by_cases htd : t = d
        · subst htd
          rw [if_pos rfl]
          unfold xAt
          rw [hdi]
          simp [hen.at_]
        · rw [if_neg htd, h2]
          unfold xAt
          split
          · rename_i k hk
            obtain ⟨q, o', e1, e2, e3⟩ := dstIx_some hk
            have : k ≠ i := fun e => by
              have : q = i := by omega
              subst this
              rw [ho] at e2; cases e2
              rw [hd] at e3; cases e3
              exact htd rfl
            by_cases hki : k < i
            · rw [if_pos (by simpa using hki), if_pos (by simp; omega)]
            · rw [if_neg (by simpa using hki), if_neg (by simp; omega)]
          · rfl
      · cases hp

/-- An effect that may come whenever. -/
def flE (P : Program) (os : List Oper) (es : List En) (i : Nat) : Bool := match es[i]?, os[i]? with
  | some en, some o => en.e && flOk P o
  | _, _ => false

/-- Where a run stands: p: the effects ahead of it have come; PL: what came ahead of its turn. -/
structure DR (P : Program) (w0 : World) (Fr : List Hp) (os : List Oper) (es : List En) (Af : AH) (T : Tm) (ρ : List Loc) (ls : Array Bool) (a : Act) (w : World) (p : Nat) (ρ' : List Loc) (g : Nat → Nat) (PL : List Nat) : Prop where
  hp : p ≤ os.length
  hρ : ρ <+: ρ'
  effN : ∀ i en, es[i]? = some en → en.e = true → flE P os es i = false → (ls.getD i false = true ↔ i < p)
  effF : ∀ i, flE P os es i = true → i < p → ls.getD i false = true
  nd : PL.Nodup
  mem : ∀ i, i ∈ PL ↔ (i < os.length ∧ ls.getD i false = true ∧ flE P os es i = true ∧ p ≤ i)
  rel : Rel w0 (PL.map (fun i => flHp P (os.getD i default) (g i)) ++ Fr) ρ' (aAt es Af p) w
  size : a.tmps.size = T.sz
  defers : RDf ρ T.df a.defers
  slot : ∀ t, (∀ i, dstIx os 0 t = some i → i ∉ PL) → R ρ' (xAt os es T (fun k => ls.getD k false) t) (a.tmps.getD t undef)
  fl : ∀ t i, dstIx os 0 t = some i → i ∈ PL → a.tmps.getD t undef = flVal (os.getD i default) (g i)

structure DI (P : Program) (w0 : World) (Fr : List Hp) (os : List Oper) (es : List En) (Af : AH) (T : Tm) (ρ : List Loc) (fuel : Nat) (ls : Array Bool) (a : Act) (w : World) : Prop where
  sz : ls.size = os.length
  cnt : ls.toList.count false = fuel
  down : ∀ j o, os[j]? = some o → ls.getD j false = true → ∀ e ∈ o.after.toList, Region.binds .any e = true → ls.getD e.on false = true
  st : ∃ p ρ' g PL, DR P w0 Fr os es Af T ρ ls a w p ρ' g PL ∧ (p = os.length ∨ ∃ en, es[p]? = some en ∧ en.e = true ∧ ls.getD p false = false)

theorem flE_out {i : Nat} {o : Oper} {en : En} (ho : os[i]? = some o) (hen : es[i]? = some en) : flE P os es i = (en.e && flOk P o) := by
  unfold flE; rw [hen, ho]

theorem getD_os {i : Nat} {o : Oper} (ho : os[i]? = some o) : os.getD i default = o := by simp [List.getD, ho]

/-- What came ahead of its turn is taken in when its turn comes. -/
theorem norm (hT : TrA callF P ops os es Tf Af) (hl : es.length = os.length) {ls : Array Bool} {a : Act} {w : World} : ∀ (m p : Nat) (ρ' : List Loc) (g : Nat → Nat) (PL : List Nat), os.length - p = m → DR P w0 Fr os es Af T ρ ls a w p ρ' g PL →
    ∃ p ρ' g PL, DR P w0 Fr os es Af T ρ ls a w p ρ' g PL ∧ (p = os.length ∨ ∃ en, es[p]? = some en ∧ en.e = true ∧ ls.getD p false = false) := by
  intro m
  induction m with
  | zero =>
    intro p ρ' g PL hm h
    exact ⟨p, ρ', g, PL, h, .inl (by have := h.hp; omega)⟩
  | succ m ih =>
    intro p ρ' g PL hm h
    have hlt : p < os.length := by omega
    have ho := List.getElem?_eq_getElem hlt
    obtain ⟨en, hen⟩ := hT p _ ho
    have hfl := flE_out (P := P) ho hen.at_
    cases he : en.e with
    | false =>
      have hf : flE P os es p = false := by rw [hfl, he]; rfl
      refine ih (p + 1) ρ' g PL (by omega) ⟨by omega, h.hρ, fun i en' h1 h2 h3 => ?_, fun i h1 h2 => ?_, h.nd, fun i => ?_, ?_, h.size, h.defers, h.slot, h.fl⟩
      · rw [h.effN i en' h1 h2 h3]
        have : i ≠ p := fun e => by subst e; rw [hen.at_] at h1; cases h1; rw [he] at h2; cases h2
        omega
      · have : i ≠ p := fun e => by subst e; rw [hf] at h1; cases h1
        exact h.effF i h1 (by omega)
      · rw [h.mem]
        constructor
        · rintro ⟨a1, a2, a3, a4⟩
          have : i ≠ p := fun e => by subst e; rw [hf] at a3; cases a3
          exact ⟨a1, a2, a3, by omega⟩
        · rintro ⟨a1, a2, a3, a4⟩; exact ⟨a1, a2, a3, by omega⟩
      · rw [step_same hen he]; exact h.rel
    | true =>
      cases hL : ls.getD p false with
      | false => exact ⟨p, ρ', g, PL, h, .inr ⟨en, hen.at_, he, hL⟩⟩
      | true =>
        cases hf : flE P os es p with
        | false => have := (h.effN p en hen.at_ he hf).1 hL; omega
        | true =>
          have hfo : flOk P os[p] = true := by rw [hfl, he] at hf; simpa using hf
          have F := fl_of (callF := callF) hfo
          have hw : en.w = true := by have := hen.e; rw [he] at this; simp only [Bool.true_eq, Bool.and_eq_true] at this; exact this.1
          have hrun := hen.run hw
          rw [F.step] at hrun
          simp only [Option.some.injEq, List.cons.injEq, Prod.mk.injEq, and_true] at hrun
          obtain ⟨hv, hA⟩ := hrun
          have hA' : aAt es Af p = en.A := (en_at hen).2
          have hmem : p ∈ PL := (h.mem p).2 ⟨hlt, hL, hf, Nat.le_refl _⟩
          have hperm := List.perm_cons_erase hmem
          have hpm : (PL.map (fun i => flHp P (os.getD i default) (g i)) ++ Fr).Perm (flHp P os[p] (g p) :: ((PL.erase p).map (fun i => flHp P (os.getD i default) (g i)) ++ Fr)) := by
            have := (hperm.map (fun i => flHp P (os.getD i default) (g i))).append_right Fr
            simp only [List.map_cons, getD_os ho, List.cons_append] at this
            exact this
          have hrel := h.rel.absorb hpm (l := ⟨g p, 0, undef⟩) (o := flAO P os[p]) (F.ro _ _) (A' := aAt es Af (p + 1)) (by rw [hA', hA])
          have hpre : ρ' <+: ρ' ++ [⟨g p, 0, undef⟩] := List.prefix_append _ _
          refine ih (p + 1) (ρ' ++ [⟨g p, 0, undef⟩]) g (PL.erase p) (by omega) ⟨by omega, h.hρ.trans hpre, fun i en' h1 h2 h3 => ?_, fun i h1 h2 => ?_, h.nd.erase _, fun i => ?_, hrel, h.size, h.defers, fun t ht => ?_, fun t i h1 h2 => ?_⟩
          · rw [h.effN i en' h1 h2 h3]
            have : i ≠ p := fun e => by subst e; rw [hf] at h3; cases h3
            omega
          · by_cases e : i = p
            · subst e; exact hL
            · exact h.effF i h1 (by omega)
          · rw [h.nd.mem_erase_iff, h.mem]
            constructor
            · rintro ⟨a0, a1, a2, a3, a4⟩; exact ⟨a1, a2, a3, by omega⟩
            · rintro ⟨a1, a2, a3, a4⟩; exact ⟨by omega, a1, a2, a3, by omega⟩
          · by_cases e : dstIx os 0 t = some p
            · rw [h.fl t p e hmem, getD_os ho]
              have : xAt os es T (fun k => ls.getD k false) t = flAV os[p] en.A.n := by
                unfold xAt
                rw [e]
                simp only [hL, if_true, hen.at_, Option.map_some, Option.getD_some]
                exact hv.symm
              rw [this]
              refine F.r _ _ _ ?_
              rw [← hA']
              exact h.rel.last _
            · refine R_mono hpre _ (h.slot t fun i hi hm => ?_)
              have : i ≠ p := fun e2 => e (by rw [← e2]; exact hi)
              exact ht i hi ((h.nd.mem_erase_iff).2 ⟨this, hm⟩)
          · exact h.fl t i h1 (List.mem_of_mem_erase h2)

theorem getD_set_true {ls : Array Bool} {i : Nat} (hi : i < ls.size) (k : Nat) : (ls.setIfInBounds i true).getD k false = if k = i then true else ls.getD k false := by
  simp only [Array.getD_eq_getD_getElem?, Array.getElem?_setIfInBounds]
  by_cases h : i = k
  · subst h; simp [hi]
  · rw [if_neg h, if_neg (Ne.symm h)]

theorem count_set : ∀ {l : List Bool} {i : Nat}, l[i]? = some false → (l.set i true).count false + 1 = l.count false
  | [], i, h => by simp at h
  | x :: r, 0, h => by simp at h; subst h; simp
  | x :: r, i + 1, h => by
    simp only [List.getElem?_cons_succ] at h
    have := count_set h
    simp only [List.set_cons_succ, List.count_cons]
    omega

/-- The slots, with what is not yet in the abstract heap as it is. -/
noncomputable def evY (os : List Oper) (es : List En) (T : Tm) (L : Nat → Bool) (PL : List Nat) (a : Act) : Operand → AV
  | .tmp t => match dstIx os 0 t with
    | some i => if i ∈ PL then .sym (a.tmps.getD t undef) else xAt os es T L t
    | none => xAt os es T L t
  | x => evX os es T L x

/-- The last effect's place. -/
theorem lastPos (p : Nat) : ∃ q, q ∈ (0 :: (effIx es 0).map (· + 1)) ∧ q ≤ p ∧ ∀ i en, q ≤ i → i < p → es[i]? = some en → en.e = false := by
  induction p with
  | zero => exact ⟨0, List.mem_cons_self, Nat.le_refl _, fun i en h1 h2 => by omega⟩
  | succ p ih =>
    obtain ⟨q, h1, h2, h3⟩ := ih
    cases hq : es[p]? with
    | none => exact ⟨q, h1, by omega, fun i en a1 a2 a3 => by
        by_cases e : i = p
        · subst e; rw [hq] at a3; cases a3
        · exact h3 i en a1 (by omega) a3⟩
    | some en =>
      cases he : en.e with
      | true => exact ⟨p + 1, List.mem_cons_of_mem _ (List.mem_map.2 ⟨p, effIx_mem.2 ⟨p, en, by omega, hq, he⟩, rfl⟩), Nat.le_refl _, fun i en a1 a2 => by omega⟩
      | false => exact ⟨q, h1, by omega, fun i en' a1 a2 a3 => by
          by_cases e : i = p
          · subst e; rw [hq] at a3; cases a3; exact he
          · exact h3 i en' a1 (by omega) a3⟩

theorem draw_go (hF : SF P w0 callF) (hT : TrA callF P ops os es Tf Af) (hl : es.length = os.length) (h0 : tAt es Tf 0 = T) (hS : StA P ops os bs) (hops : ops = os.toArray)
    (hD : ∀ i o en, os[i]? = some o → es[i]? = some en → dynJ callF P os bs es Af (effIx es 0) i o en = true) {Q : Exit → Act → World → Prop}
    (hQ : ∀ ρ' w' a', ρ <+: ρ' → Rel w0 Fr ρ' Af w' → RA ρ' Tf a' → Q .normal a' w') :
    ∀ (fuel : Nat) (ls : Array Bool) (a : Act) (w : World), DI P w0 Fr os es Af T ρ fuel ls a w → wpAny P .any ops Q fuel ls a w := by
  -- all are listed
  have fin : ∀ (fuel : Nat) (ls : Array Bool) (a : Act) (w : World), DI P w0 Fr os es Af T ρ fuel ls a w → Region.ready .any ops ls = [] → Q .normal a w := by
    intro fuel ls a w h hr
    have hall : ∀ (j : Nat), j < os.length → ls.getD j false = true := by
      intro j
      induction j using Nat.strongRecOn with
      | _ j ih =>
        intro hj
        cases hq : ls.getD j false with
        | true => rfl
        | false =>
          exfalso
          have ho := List.getElem?_eq_getElem hj
          have hlt : j < ls.size := by rw [h.sz]; exact hj
          have hq' : ls.getD j true = false := by
            simp only [Array.getD_eq_getD_getElem?, Array.getElem?_eq_getElem hlt, Option.getD_some] at hq ⊢; exact hq
          have : j ∈ Region.ready .any ops ls := mem_ready.2 ⟨hq', os[j], by rw [hops]; simp, fun e he hb => ih e.on ((hS j _ ho).lt e (by simpa using he) hb) (by have := (hS j _ ho).lt e (by simpa using he) hb; omega)⟩
          rw [hr] at this
          cases this
    obtain ⟨p, ρ', g, PL, d, hcan⟩ := h.st
    have hpn : p = os.length := by
      rcases hcan with e | ⟨en, h1, h2, h3⟩
      · exact e
      · have hlt : p < os.length := by rw [← hl]; exact (List.getElem?_eq_some_iff.1 h1).1
        rw [hall p hlt] at h3; cases h3
    subst hpn
    have hPL : PL = [] := by
      rw [List.eq_nil_iff_forall_not_mem]
      intro i hi
      have := (d.mem i).1 hi
      omega
    subst hPL
    obtain ⟨s1, s2⟩ := slots hT hS h0 os.length (Nat.le_refl _)
    have hTf : tAt es Tf os.length = Tf := by simp [tAt, ← hl]
    have hAf : aAt es Af os.length = Af := by simp [aAt, ← hl]
    rw [hTf] at s1 s2
    have hR := d.rel
    rw [hAf] at hR
    refine hQ ρ' w a d.hρ (by simpa using hR) ⟨by rw [d.size, s1.1], by rw [s1.2]; exact RDf_mono d.hρ d.defers, fun t => ?_⟩
    have := d.slot t (fun i _ => by simp)
    rw [s2]
    unfold xAt at this ⊢
    split
    · rename_i k hk
      rw [hk] at this
      obtain ⟨q, o', e1, e2, e3⟩ := dstIx_some hk
      have hk' : k < os.length := by have := (List.getElem?_eq_some_iff.1 e2).1; omega
      simp only [hall k hk', if_true] at this
      rw [if_pos (by simpa using hk')]
      exact this
    · rename_i hk
      rw [hk] at this
      exact this
  intro fuel
  induction fuel with
  | zero =>
    intro ls a w h
    have hr : Region.ready .any ops ls = [] := by
      rw [List.eq_nil_iff_forall_not_mem]
      intro i hi
      obtain ⟨hun, oi, hoi, _⟩ := mem_ready.1 hi
      have hc := h.cnt
      rw [List.count_eq_zero] at hc
      apply hc
      cases hq : ls[i]? with
      | none => rw [Array.getD_eq_getD_getElem?, hq] at hun; simp at hun
      | some b =>
        rw [Array.getD_eq_getD_getElem?, hq] at hun
        simp only [Option.getD_some] at hun
        subst hun
        exact Array.mem_toList_iff.2 (Array.mem_of_getElem? hq)
    exact ⟨hr, fin 0 ls a w h hr⟩
  | succ fuel ih =>
    intro ls a w h
    refine ⟨fin (fuel + 1) ls a w h, fun i hi => ?_⟩
    obtain ⟨hun, o, hoi, hedge⟩ := mem_ready.1 hi
    have ho : os[i]? = some o := by rw [hops] at hoi; simpa using hoi
    have hlt : i < os.length := (List.getElem?_eq_some_iff.1 ho).1
    have hlt' : i < ls.size := by rw [h.sz]; exact hlt
    have hunf : ls.getD i false = false := by
      simp only [Array.getD_eq_getD_getElem?, Array.getElem?_eq_getElem hlt', Option.getD_some] at hun ⊢; exact hun
    have hs := hS i o ho
    obtain ⟨en, hen⟩ := hT i o ho
    have hfi := flE_out (P := P) ho hen.at_
    have hcl := closed hS (L := fun k => ls.getD k false = true) h.down
    have hbef := hcl i o ho (fun e he hb => hedge e (by simpa using he) hb)
    obtain ⟨p, ρ', g, PL, d, hcan⟩ := h.st
    have hiPL : i ∉ PL := fun hm => by have := (d.mem i).1 hm; rw [hunf] at this; cases this.2.1
    -- effects ahead of p
    have effOf : ∀ (k : Nat) (ok : Oper), os[k]? = some ok → ∀ enk : En, es[k]? = some enk → enk.e = true → isEff P ok.op = true := fun k ok hok enk h1 h2 => by
      obtain ⟨en', hen'⟩ := hT k ok hok
      have := hen'.at_
      rw [h1] at this; cases this
      have h3 := hen'.e
      rw [h2] at h3
      have h4 := h3.symm
      rw [Bool.and_eq_true] at h4
      exact h4.2
    -- p is the first effect that has not come
    have ltP : ∀ k : Nat, ls.getD k false = true → (∃ enk : En, es[k]? = some enk ∧ enk.e = true) → (∀ (q : Nat) (okq : Oper), q < k → os[q]? = some okq → isEff P okq.op = true → ls.getD q false = true) → k < p := fun k hk ⟨enk, he1, he2⟩ hq => by
      have hkn : k < os.length := by rw [← hl]; exact (List.getElem?_eq_some_iff.1 he1).1
      rcases hcan with e | ⟨en', h1, h2, h3⟩
      · omega
      · refine Nat.lt_of_not_le fun hle => ?_
        by_cases e : p = k
        · subst e; rw [hk] at h3; cases h3
        · have hpn : p < os.length := by omega
          have hok := List.getElem?_eq_getElem hpn
          have := hq p _ (by omega) hok (effOf p _ hok en' h1 h2)
          rw [this] at h3; cases h3
    obtain ⟨s1, s2⟩ := slots hT hS h0 i (by omega)
    rw [(en_at hen).1] at s1 s2
    -- the slots that the operation looks at
    have hnp : ∀ t ∈ tmpsOf ops o, ∀ k, dstIx os 0 t = some k → k ∉ PL := fun t ht k hk hm => by
      obtain ⟨m1, m2, m3, m4⟩ := (d.mem k).1 hm
      have hbit := hs.tmps t ht k hk
      obtain ⟨q1, q2⟩ := hbef k hbit
      have hok := List.getElem?_eq_getElem m1
      obtain ⟨enk, henk⟩ := hT k _ hok
      have hfk := flE_out (P := P) hok henk.at_
      rw [m3] at hfk
      have hfk' := hfk.symm
      rw [Bool.and_eq_true] at hfk'
      have := ltP k q1 ⟨enk, henk.at_, hfk'.1⟩ (fun q okq hq hoq heq => (hbef q (hs.fl k _ hok q2 hbit hfk'.2 q okq hq hoq heq)).1)
      omega
    have hag : ∀ t ∈ tmpsOf ops o, xAt os es T (fun k => ls.getD k false) t = en.T.at t := fun t ht => by
      rw [s2]
      unfold xAt
      split
      · rename_i k hk
        obtain ⟨q1, q2⟩ := hbef k (hs.tmps t ht k hk)
        rw [if_pos q1, if_pos (by simpa using q2)]
      · rfl
    have hev : ∀ x ∈ o.op.operands, evY os es T (fun k => ls.getD k false) PL a x = evT en.T x := fun x hx' => by
      cases x with
      | tmp t =>
        have ht : t ∈ tmpsOf ops o := by unfold tmpsOf; rw [List.mem_append]; exact .inl (List.mem_filterMap.2 ⟨.tmp t, by simpa using hx', rfl⟩)
        have : evY os es T (fun k => ls.getD k false) PL a (.tmp t) = xAt os es T (fun k => ls.getD k false) t := by
          unfold evY
          simp only
          split
          · rename_i k hk; rw [if_neg (hnp t ht k hk)]
          · rfl
        rw [this]
        exact hag t ht
      | const v => rfl
      | global g => rfl
      | func f => rfl
    have hevR : ∀ x, R ρ' (evY os es T (fun k => ls.getD k false) PL a x) (a.eval x) := fun x => by
      cases x with
      | tmp t =>
        unfold evY
        simp only
        split
        · rename_i k hk
          split
          · rw [R_sym]; rfl
          · rename_i hm
            exact d.slot t (fun i hi => by rw [hk] at hi; cases hi; exact hm)
        · rename_i hk
          exact d.slot t (fun i hi => by rw [hk] at hi; cases hi)
      | const v => simp [evY, evX, Act.eval]
      | global g => simp [evY, evX, Act.eval]
      | func f => simp [evY, evX, Act.eval]
    have hgd : Region.wanted o (yielded ops a.tmps) = en.w := by
      rw [hen.w]
      refine guard_eq (ρ := ρ') fun j want t hg hd => ?_
      have ht : t ∈ tmpsOf ops o := by unfold tmpsOf guardDst; rw [hg, List.mem_append]; exact .inr (by simp [hd])
      rw [← hag t ht]
      exact d.slot t (hnp t ht)
    -- what is listed behind it
    have hdown : ∀ j o', os[j]? = some o' → (ls.setIfInBounds i true).getD j false = true → ∀ e ∈ o'.after.toList, Region.binds .any e = true → (ls.setIfInBounds i true).getD e.on false = true := fun j o' hj hLj e he hb => by
      rw [getD_set_true hlt'] at hLj ⊢
      by_cases q : e.on = i
      · rw [if_pos q]
      · rw [if_neg q]
        by_cases q2 : j = i
        · subst q2
          rw [ho] at hj; cases hj
          exact hedge e (by simpa using he) hb
        · rw [if_neg q2] at hLj
          exact h.down j o' hj hLj e he hb
    have hcnt : (ls.setIfInBounds i true).toList.count false = fuel := by
      have hq : ls.toList[i]? = some false := by
        rw [Array.getElem?_toList, Array.getElem?_eq_getElem hlt']
        simp only [Array.getD_eq_getD_getElem?, Array.getElem?_eq_getElem hlt', Option.getD_some] at hunf
        rw [hunf]
      have := count_set hq
      rw [Array.toList_setIfInBounds]
      have := h.cnt
      omega
    have mk : ∀ {a2 : Act} {w2 : World} {p2 : Nat} {ρ2 : List Loc} {g2 : Nat → Nat} {PL2 : List Nat}, DR P w0 Fr os es Af T ρ (ls.setIfInBounds i true) a2 w2 p2 ρ2 g2 PL2 → wpAny P .any ops Q fuel (ls.setIfInBounds i true) a2 w2 := fun {a2 w2 p2 ρ2 g2 PL2} dr => by
      exact ih _ _ _ ⟨by simpa using h.sz, hcnt, hdown, norm hT hl _ _ _ _ _ rfl dr⟩
    -- the slots behind it
    have hget : ((es[i]?).map (·.v)).getD (.lit undef) = en.v := by rw [hen.at_]; rfl
    have hdi : ∀ dd, o.dst = some dd → dstIx os 0 dd = some i := fun dd hd => hs.dst dd hd
    have hother : ∀ t k, dstIx os 0 t = some k → k ≠ i → ∀ V, (a.put o.dst V).tmps.getD t undef = a.tmps.getD t undef := fun t k hk hne V => by
      cases hd : o.dst with
      | none => rfl
      | some dd =>
        have : t ≠ dd := fun e => by subst e; rw [hdi t hd] at hk; cases hk; exact hne rfl
        show (a.tmps.setIfInBounds dd V).getD t undef = _
        simp only [Array.getD_eq_getD_getElem?, Array.getElem?_setIfInBounds_ne (Ne.symm this)]
    have hnone : ∀ t, dstIx os 0 t = none → ∀ V, (a.put o.dst V).tmps.getD t undef = a.tmps.getD t undef := fun t hk V => by
      cases hd : o.dst with
      | none => rfl
      | some dd =>
        have : t ≠ dd := fun e => by subst e; rw [hdi t hd] at hk; cases hk
        show (a.tmps.setIfInBounds dd V).getD t undef = _
        simp only [Array.getD_eq_getD_getElem?, Array.getElem?_setIfInBounds_ne (Ne.symm this)]
    have hown : ∀ t, dstIx os 0 t = some i → ∀ V, (a.put o.dst V).tmps.getD t undef = V := fun t hk V => by
      obtain ⟨q, o', e1, e2, e3⟩ := dstIx_some hk
      have : q = i := by omega
      subst this
      rw [ho] at e2; cases e2
      have hpt := hen.put
      rw [e3] at hpt
      simp only [Tm.put, cond_eq_ite] at hpt
      split at hpt
      · rename_i hdlt
        have hd' : t < a.tmps.size := by rw [d.size, ← s1.1]; exact blt_lt hdlt
        rw [e3]
        show (a.tmps.setIfInBounds t V).getD t undef = _
        rw [getD_setI _ _ _ hd', if_pos rfl]
      · cases hpt
    have hsize : ∀ V, (a.put o.dst V).tmps.size = T.sz ∧ RDf ρ T.df (a.put o.dst V).defers := fun V => by
      cases o.dst <;> exact ⟨by simp [Act.put, d.size], d.defers⟩
    have hxo : ∀ t k, dstIx os 0 t = some k → k ≠ i → xAt os es T (fun k => (ls.setIfInBounds i true).getD k false) t = xAt os es T (fun k => ls.getD k false) t := fun t k hk hne => by
      unfold xAt
      rw [hk]
      simp only [getD_set_true hlt', if_neg hne]
    have hxn : ∀ t, dstIx os 0 t = none → xAt os es T (fun k => (ls.setIfInBounds i true).getD k false) t = xAt os es T (fun k => ls.getD k false) t := fun t hk => by
      unfold xAt
      rw [hk]
    have hxi : ∀ t, dstIx os 0 t = some i → xAt os es T (fun k => (ls.setIfInBounds i true).getD k false) t = en.v := fun t hk => by
      unfold xAt
      rw [hk]
      simp only [getD_set_true hlt', if_true, hget]
    have hslot : ∀ {ρ2 : List Loc} {V : Value}, ρ' <+: ρ2 → R ρ2 en.v V → ∀ t, (∀ k, dstIx os 0 t = some k → k ∉ PL) → R ρ2 (xAt os es T (fun k => (ls.setIfInBounds i true).getD k false) t) ((a.put o.dst V).tmps.getD t undef) := fun {ρ2 V} hp2 hV t ht => by
      cases hk : dstIx os 0 t with
      | none => rw [hxn t hk, hnone t hk]; exact R_mono hp2 _ (d.slot t ht)
      | some k =>
        by_cases e : k = i
        · subst e; rw [hxi t hk, hown t hk]; exact hV
        · rw [hxo t k hk e, hother t k hk e]; exact R_mono hp2 _ (d.slot t ht)
    have hflt : ∀ V t k, dstIx os 0 t = some k → k ∈ PL → (a.put o.dst V).tmps.getD t undef = flVal (os.getD k default) (g k) := fun V t k hk hm => by
      rw [hother t k hk (fun e => hiPL (by rw [← e]; exact hm)) V]
      exact d.fl t k hk hm
    -- the next state, where the heap stays
    have next : ∀ {ρ2 : List Loc} {V : Value} {w2 : World}, en.e = false → ρ' <+: ρ2 → Rel w0 (PL.map (fun i => flHp P (os.getD i default) (g i)) ++ Fr) ρ2 (aAt es Af p) w2 → R ρ2 en.v V → DR P w0 Fr os es Af T ρ (ls.setIfInBounds i true) (a.put o.dst V) w2 p ρ2 g PL := fun {ρ2 V w2} hne hp2 hR2 hV =>
      ⟨d.hp, d.hρ.trans hp2, fun k enk hk hek hfk => by
        rw [getD_set_true hlt']
        have hki : k ≠ i := fun e => by subst e; rw [hen.at_] at hk; cases hk; rw [hne] at hek; cases hek
        rw [if_neg hki]
        exact d.effN k enk hk hek hfk, fun k hk1 hk2 => by
        rw [getD_set_true hlt']
        split
        · rfl
        · exact d.effF k hk1 hk2, d.nd, fun k => by
        rw [d.mem, getD_set_true hlt']
        by_cases hki : k = i
        · subst hki
          have : flE P os es k = false := by rw [hfi, hne]; rfl
          rw [this]; simp
        · rw [if_neg hki], hR2, (hsize V).1, (hsize V).2, hslot hp2 hV, hflt V⟩
    unfold wpOp
    rw [hoi]
    simp only
    rw [hgd]
    cases hw : en.w with
    | false =>
      rw [if_neg (by simp)]
      have hv := (hen.skip hw).1
      have he : en.e = false := by rw [hen.e, hw]; rfl
      exact mk (next he (List.prefix_refl _) d.rel (by rw [hv]; simp))
    | true =>
      rw [if_pos rfl]
      refine .inl ?_
      have hrun := hen.run hw
      cases heo : isEff P o.op with
      | false =>
        have he : en.e = false := by rw [hen.e, hw, heo]; rfl
        have hsame : aAt es Af (i + 1) = en.A := by rw [step_same hen he, (en_at hen).2]
        obtain ⟨q, hq1, hq2, hq3⟩ := lastPos (es := es) p
        have hpq := const_heap hT hl hq2 d.hp hq3
        have hstep : aStep callF P (evT en.T) o (aAt es Af p) = some [(en.v, aAt es Af p)] := by
          rw [hpq]
          have hd := hD i o en ho hen.at_
          unfold dynJ at hd
          rw [hw, heo] at hd
          simp only [Bool.not_true, Bool.false_or, Bool.or_eq_true] at hd
          rcases hd with hd | hd
          · exact nh_step hd hrun _
          · have hq := List.all_eq_true.1 hd q hq1
            simp only [Bool.or_eq_true, Bool.not_eq_true'] at hq
            rcases hq with hq | hq | hq
            · exfalso
              have : ((effIx es 0).all fun i_1 => (!(bs.getD i 0).testBit i_1 || Nat.blt i_1 q) && (!(bs.getD i_1 0).testBit i || Nat.ble q i_1)) = true := by
                rw [List.all_eq_true]
                intro k hk
                obtain ⟨k', enk, rfl, hk2, hk3⟩ := effIx_mem.1 hk
                rw [Nat.zero_add] at *
                have hkn : k' < os.length := by rw [← hl]; exact (List.getElem?_eq_some_iff.1 hk2).1
                have hok := List.getElem?_eq_getElem hkn
                have hfk := flE_out (P := P) hok hk2
                rw [hk3, Bool.true_and] at hfk
                rw [Bool.and_eq_true]
                constructor
                · cases hb : (bs.getD i 0).testBit k' with
                  | false => rfl
                  | true =>
                    obtain ⟨b1, b2⟩ := hbef k' hb
                    have hkp : k' < p := by
                      cases hf : flE P os es k' with
                      | false => exact (d.effN k' enk hk2 hk3 hf).1 b1
                      | true =>
                        rw [hf] at hfk
                        exact ltP k' b1 ⟨enk, hk2, hk3⟩ (fun z okz hz hoz hez => (hbef z (hs.fl k' _ hok b2 hb hfk.symm z okz hz hoz hez)).1)
                    simp only [Bool.not_true, Bool.false_or]
                    refine Nat.ble_eq_true_of_le (Nat.lt_of_not_le fun hle => ?_)
                    have := hq3 k' enk hle hkp hk2
                    rw [hk3] at this; cases this
                · cases hb : (bs.getD k' 0).testBit i with
                  | false => rfl
                  | true =>
                    simp only [Bool.not_true, Bool.false_or]
                    refine Nat.ble_eq_true_of_le (Nat.le_of_not_lt fun hlt2 => ?_)
                    have hLq : ls.getD k' false = true := by
                      cases hf : flE P os es k' with
                      | false => exact (d.effN k' enk hk2 hk3 hf).2 (by omega)
                      | true => exact d.effF k' hf (by omega)
                    have := (hcl k' _ hok (h.down k' _ hok hLq) i hb).1
                    rw [hunf] at this
                    cases this
              rw [this] at hq
              cases hq
            · rw [Bool.and_eq_true] at hq
              have hpi := Nat.le_of_ble_eq_true hq.1
              have hc := const_heap hT hl hpi (by omega) (fun k enk h1 h2 h3 => by
                cases hek : enk.e with
                | false => rfl
                | true =>
                  have := List.all_eq_true.1 hq.2 k (effIx_mem.2 ⟨k, enk, by omega, h3, hek⟩)
                  simp only [Bool.or_eq_true] at this
                  rcases this with this | this
                  · have := blt_lt this; omega
                  · have := Nat.le_of_ble_eq_true this; omega)
              rw [(en_at hen).2] at hc
              rw [← hc]
              rw [hsame] at hrun
              exact hrun
            · split at hq
              · rename_i v A2 hst
                have hA2 := ne_step heo hst
                rw [hst, aEq_out hq, hA2]
              · cases hq
        rw [← step_congr hev] at hstep
        refine good_step hstep hF d.rel hevR _ _ fun v A2 ρ2 V w2 hm hp2 hR2 hV => ?_
        rw [List.mem_singleton] at hm
        cases hm
        exact mk (next he hp2 hR2 hV)
      | true =>
        have he : en.e = true := by rw [hen.e, hw, heo]; rfl
        have hpi : p ≤ i := Nat.le_of_not_lt fun hlt2 => by
          cases hf : flE P os es i with
          | false => have := (d.effN i en hen.at_ he hf).2 hlt2; rw [hunf] at this; cases this
          | true => have := d.effF i hf hlt2; rw [hunf] at this; cases this
        cases hfo : flOk P o with
        | true =>
          -- one that may come whenever
          have hf : flE P os es i = true := by rw [hfi, he, hfo]; rfl
          have FL := fl_of (callF := callF) hfo
          obtain ⟨H, k1, k2, k3⟩ := d.rel.ex
          refine FL.law w0 w H a _ Q k2 (fun gn w2 hS2 => ?_)
          have hrel := d.rel.frame' k1 k3 hS2
          let g2 : Nat → Nat := fun k => if k = i then gn else g k
          have hg2 : ∀ k ∈ PL, g2 k = g k := fun k hk => if_neg (fun e => hiPL (by rw [← e]; exact hk))
          have hmap : PL.map (fun i => flHp P (os.getD i default) (g2 i)) = PL.map (fun i => flHp P (os.getD i default) (g i)) := List.map_congr_left fun k hk => by rw [hg2 k hk]
          refine mk (p2 := p) (ρ2 := ρ') (g2 := g2) (PL2 := i :: PL) ⟨d.hp, d.hρ, fun k enk hk hek hfk => ?_, fun k hk1 hk2 => ?_, List.nodup_cons.2 ⟨hiPL, d.nd⟩, fun k => ?_, ?_, (hsize _).1, (hsize _).2, fun t ht => ?_, fun t k hk hm => ?_⟩
          · rw [getD_set_true hlt']
            have hki : k ≠ i := fun e => by subst e; rw [hf] at hfk; cases hfk
            rw [if_neg hki]
            exact d.effN k enk hk hek hfk
          · rw [getD_set_true hlt']
            split
            · rfl
            · exact d.effF k hk1 hk2
          · rw [List.mem_cons, d.mem, getD_set_true hlt']
            by_cases hki : k = i
            · subst hki
              simp only [true_or, if_true, true_iff]
              exact ⟨hlt, trivial, hf, hpi⟩
            · simp only [hki, false_or, if_false]
          · rw [List.map_cons, hmap, List.cons_append]
            have : g2 i = gn := if_pos rfl
            rw [this, getD_os ho]
            exact hrel
          · cases hk : dstIx os 0 t with
            | none => rw [hxn t hk, hnone t hk]; exact d.slot t (fun k hk2 => by rw [hk] at hk2; cases hk2)
            | some k =>
              have hne : k ≠ i := fun e => ht k hk (by rw [e]; exact List.mem_cons_self)
              rw [hxo t k hk hne, hother t k hk hne]
              exact d.slot t (fun k2 hk2 hm => ht k2 hk2 (List.mem_cons_of_mem _ hm))
          · rcases List.mem_cons.1 hm with rfl | hm
            · have : g2 k = gn := if_pos rfl
              rw [hown t hk, this, getD_os ho]
            · rw [hflt _ t k hk hm, hg2 k hm]
        | false =>
          have hf : flE P os es i = false := by rw [hfi, hfo, Bool.and_false]
          have hall : ∀ (q : Nat) (okq : Oper), q < i → os[q]? = some okq → isEff P okq.op = true → ls.getD q false = true := fun q okq hq hoq heq => (hbef q (hs.eff heo hfo q okq hq hoq heq)).1
          have hpi2 : p = i := by
            rcases hcan with e | ⟨en', h1, h2, h3⟩
            · omega
            · refine Nat.le_antisymm hpi (Nat.le_of_not_lt fun hlt2 => ?_)
              have hok := List.getElem?_eq_getElem (l := os) (i := p) (by omega)
              have := hall p _ hlt2 hok (effOf p _ hok en' h1 h2)
              rw [this] at h3; cases h3
          subst hpi2
          have hR := d.rel
          rw [(en_at hen).2] at hR
          rw [← step_congr hev] at hrun
          refine good_step hrun hF hR hevR _ _ fun v A2 ρ2 V w2 hm hp2 hR2 hV => ?_
          rw [List.mem_singleton] at hm
          cases hm
          refine mk (p2 := p + 1) (ρ2 := ρ2) (g2 := g) (PL2 := PL) ⟨by omega, d.hρ.trans hp2, fun k enk hk hek hfk => ?_, fun k hk1 hk2 => ?_, d.nd, fun k => ?_, hR2, (hsize V).1, (hsize V).2, hslot hp2 hV, hflt V⟩
          · rw [getD_set_true hlt']
            by_cases hki : k = p
            · rw [if_pos hki]; simp; omega
            · rw [if_neg hki, d.effN k enk hk hek hfk]; omega
          · rw [getD_set_true hlt']
            split
            · rfl
            · exact d.effF k hk1 (by omega)
          · rw [d.mem, getD_set_true hlt']
            by_cases hki : k = p
            · subst hki; rw [hf]; simp
            · rw [if_neg hki]
              constructor
              · rintro ⟨a1, a2, a3, a4⟩; exact ⟨a1, a2, a3, by omega⟩
              · rintro ⟨a1, a2, a3, a4⟩; exact ⟨a1, a2, a3, by omega⟩

theorem evDraw_sound {id : Nat} (hm : P.follows .mixedOrders = true) (hF : SF P w0 callF) {outs : List (Tm × AH)} (h : evDraw callF P ops T A = some outs) (hA : Rel w0 Fr ρ A w) (ht : RA ρ T a) {Q : Exit → Act → World → Prop}
    (hQ : ∀ T' A' ρ' w' a', (T', A') ∈ outs → ρ <+: ρ' → Rel w0 Fr ρ' A' w' → RA ρ' T' a' → Q .normal a' w') : (Code.region id ops true).wp P Q a w := by
  unfold evDraw at h
  rw [fNs_eq, cond_eq_ite] at h
  split at h
  · rename_i hst
    split at h
    · rename_i es Tf Af htr
      rw [fNs_eq, cond_eq_ite] at h
      split at h
      · rename_i hdy
        cases h
        obtain ⟨h1, h2, h3, h4⟩ := trace_spec htr
        have hS : StA P ops ops.toList (befs ops.toList []) := fun j o ho => statJ_out (by have := statGo_spec hst j o ho; simpa using this)
        refine wp_region_any hm (draw_go (ρ := ρ) (os := ops.toList) (T := T) hF h4 h1 h2 hS (by simp) (fun i o en ho he => by have := dynGo_spec hdy i o en ho he; simpa using this) (fun ρ' w' a' hp hr hra => hQ Tf Af ρ' w' a' (List.mem_singleton.2 rfl) hp hr hra) _ _ _ _ ?_)
        have hoff : ∀ k, (Array.replicate ops.size false).getD k false = false := fun k => by
          simp only [Array.getD_eq_getD_getElem?, Array.getElem?_replicate]
          split <;> rfl
        refine ⟨by simp, by simp, (fun j o hj hL => by rw [hoff] at hL; cases hL), norm h4 h1 _ 0 ρ (fun _ => 0) [] rfl ⟨Nat.zero_le _, List.prefix_refl _, fun i en _ _ _ => by rw [hoff]; simp, fun i _ hi => by omega, List.nodup_nil, fun i => by simp [hoff], ?_, ht.size, ht.defers, fun t _ => ?_, fun t i _ hi => by cases hi⟩⟩
        · rw [h3]; exact hA.drew
        · have : xAt ops.toList es T (fun k => (Array.replicate ops.size false).getD k false) t = T.at t := by
            unfold xAt
            split
            · simp only [hoff]; rfl
            · rfl
          rw [this]
          exact ht.at_ t
      · cases h
    · cases h
  · cases h
end
end Go.Proofs.YtkfalpmimdcneaaGreatDoor
