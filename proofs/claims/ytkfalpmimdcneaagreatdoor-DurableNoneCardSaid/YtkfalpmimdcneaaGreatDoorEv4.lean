/-
  The evaluator's operations: lengths, slices of slices, append, copy, bytes as a string, what may be nil.
-/
import Derived.Test.YtkfalpmimdcneaaGreatDoorEv3
namespace Go.Proofs.YtkfalpmimdcneaaGreatDoor
set_option linter.unusedVariables false
set_option linter.unusedSimpArgs false

section
variable {P : Program} {w0 w : World} {Fr : List Hp} {ρ : List Loc} {A : AH} {a : Act} {ev : Operand → AV} {outs : List (AV × AH)}
  {dst : Option Tmp} {ty : TypeId} {pos : String} {after : Array Edge} {gd : Option (Nat × Bool)}

/-! len, cap -/
def aLen (P : Program) (t : TypeId) (x : AV) (A : AH) : Option (List (AV × AH)) := match P.underlying t, x with
  | some (.slice _), .sl _ _ n _ => some [(.lit (.int .i64 n), A)]
  | some (.slice _), .rs _ _ _ n => some [(.lit (.int .i64 n), A)]
  | some (.slice _), .ez _ => some [(.lit (.int .i64 0), A)]
  | some (.map _ _), .mp b => match A.get b with
    | .mp _ kvs => some [(.lit (.int .i64 kvs.length), A)]
    | _ => none
  | _, _ => none

theorem RK.length {kvs : KV} {ws : List (Value × Value)} (h : RK ρ kvs ws) : ws.length = kvs.length := by
  have := congrArg List.length h.1; simpa using this

theorem good_len {t : TypeId} {x : Operand} (h : aLen P t (ev x) A = some outs) (hA : Rel w0 Fr ρ A w) (he : R ρ (ev x) (a.eval x)) : Good P w0 Fr ⟨dst, .call { callee := .builtin .len, args := #[x], argTypes := #[t] }, ty, pos, after, gd⟩ a w ρ outs := by
  unfold aLen at h
  split at h
  · rename_i e b o n c hu hx
    rw [hx, R_sl] at he; obtain ⟨l, hb, hV⟩ := he
    cases h
    exact good_value _ (by simp [execOp, resolve, invoke, builtin, hV, Builtin.len_, run_underlying hu, Result.andThen, goInt]; rfl) hA (by simp)
  · rename_i e b o n c hu hx
    rw [hx, R_rs] at he; obtain ⟨l, o', hb, _, hV⟩ := he
    cases h
    exact good_value _ (by simp [execOp, resolve, invoke, builtin, hV, Builtin.len_, run_underlying hu, Result.andThen, goInt]; rfl) hA (by simp)
  · rename_i e b hu hx
    rw [hx, R_ez] at he; obtain ⟨l, o', hb, hV⟩ := he
    cases h
    exact good_value _ (by simp [execOp, resolve, invoke, builtin, hV, Builtin.len_, run_underlying hu, Result.andThen, goInt]; rfl) hA (by simp)
  · rename_i k e b hu hx
    rw [hx, R_mp] at he; obtain ⟨l, hb, hV⟩ := he
    split at h
    · rename_i d kvs hg
      cases h
      obtain ⟨H, hp, h1, hS, h3, h4, h5⟩ := hA.out hb
      rw [hg] at h5
      obtain ⟨ws, hk, rfl⟩ := h5
      intro K Q hK
      refine opA_lenMap hS b hV h4 hu ?_
      rw [hk.length]
      exact hK _ _ ρ _ w (List.mem_singleton.2 rfl) (List.prefix_refl _) hA (by simp)
    · cases h
  · cases h

def aCap (P : Program) (t : TypeId) (x : AV) (A : AH) : Option (List (AV × AH)) := match P.underlying t, x with
  | some (.slice _), .sl _ _ _ c => some [(.lit (.int .i64 c), A)]
  | some (.slice _), .ez _ => some [(.lit (.int .i64 0), A)]
  | _, _ => none

theorem good_cap {t : TypeId} {x : Operand} (h : aCap P t (ev x) A = some outs) (hA : Rel w0 Fr ρ A w) (he : R ρ (ev x) (a.eval x)) : Good P w0 Fr ⟨dst, .call { callee := .builtin .cap, args := #[x], argTypes := #[t] }, ty, pos, after, gd⟩ a w ρ outs := by
  unfold aCap at h
  split at h
  · rename_i e b o n c hu hx
    rw [hx, R_sl] at he; obtain ⟨l, hb, hV⟩ := he
    cases h
    exact good_value _ (by simp [execOp, resolve, invoke, builtin, hV, Builtin.cap_, run_underlying hu, Result.andThen, goInt]; rfl) hA (by simp)
  · rename_i e b hu hx
    rw [hx, R_ez] at he; obtain ⟨l, o', hb, hV⟩ := he
    cases h
    exact good_value _ (by simp [execOp, resolve, invoke, builtin, hV, Builtin.cap_, run_underlying hu, Result.andThen, goInt]; rfl) hA (by simp)
  · cases h

/-! a slice of a slice -/
def natOf : AV → Option Nat
  | .lit (.int _ (.ofNat n)) => some n
  | _ => none

/-- A bound that may be left out. -/
def bndOf (ev : Operand → AV) (d : Nat) : Option Operand → Option Nat
  | none => some d
  | some x => natOf (ev x)

theorem natOf_some {x : AV} {n : Nat} {V : Value} (h : natOf x = some n) (hx : R ρ x V) : ∃ k, V = .int k (n : Int) := by
  unfold natOf at h
  split at h
  · rename_i k m
    cases h
    rw [R_lit] at hx
    exact ⟨k, hx⟩
  · cases h

theorem run_bound {k : IntKind} {i y : Nat} {code : BoundsCode} (h : i ≤ y) (w : World) : (Instr.sliceBound (.int k (i : Int)) y code).run P w = .ok i w := by
  have hc : (0 : Int) ≤ (i : Int) ∧ (i : Int) ≤ (y : Int) := by omega
  simp only [Instr.sliceBound, asIntOf, Sem.run_bind, Sem.run_pure, Result.andThen_ok, if_pos hc, Int.toNat_natCast]

/-- The bounds of 'x[lo:hi:mx]': with mx, what is left is known; without it the capacity stays as it is. -/
theorem run_bounds {isl : Bool} {len cap : Nat} {lo hi mx : Option Operand} {l h m : Nat} (he : ∀ x, R ρ (ev x) (a.eval x)) (hm : (∀ c, bndOf ev c mx = some m) ∨ (mx = none ∧ m = cap)) (hh : bndOf ev len hi = some h) (hl : bndOf ev 0 lo = some l)
    (h1 : l ≤ h) (h2 : h ≤ m) (h3 : m ≤ cap) (hx : mx.isSome = true → hi.isSome = true) (w : World) :
    (Instr.sliceBounds isl len cap (lo.map a.eval) (hi.map a.eval) (mx.map a.eval)).run P w = .ok (l, h, m) w := by
  have key : ∀ (x : Operand) (n y : Nat) (code : BoundsCode), natOf (ev x) = some n → n ≤ y → (Instr.sliceBound (a.eval x) y code).run P w = .ok n w := fun x n y code hn hy => by
    obtain ⟨k, e⟩ := natOf_some hn (he x)
    rw [e]; exact run_bound hy w
  cases mx with
  | none =>
    have em : m = cap := by
      rcases hm with hm | hm
      · have := hm cap; simpa [bndOf] using this.symm
      · exact hm.2
    subst em
    cases hi with
    | none =>
      simp [bndOf] at hh; subst hh
      cases lo with
      | none => simp [bndOf] at hl; subst hl; simp [Instr.sliceBounds, Result.andThen]
      | some x => simp [Instr.sliceBounds, Result.andThen, key x l len _ (by simpa [bndOf] using hl) h1]
    | some y =>
      have hy := key y h m (if isl = true then .sliceAcap else .sliceAlen) (by simpa [bndOf] using hh) h2
      cases lo with
      | none => simp [bndOf] at hl; subst hl; simp [Instr.sliceBounds, Result.andThen, hy]
      | some x => simp [Instr.sliceBounds, Result.andThen, hy, key x l h _ (by simpa [bndOf] using hl) h1]
  | some z =>
    have hz : natOf (ev z) = some m := by
      rcases hm with hm | hm
      · have := hm 0; simpa [bndOf] using this
      · cases hm.1
    have hz' := key z m cap (if isl = true then .slice3Acap else .slice3Alen) hz h3
    cases hi with
    | none => simp at hx
    | some y =>
      have hy := key y h m .slice3B (by simpa [bndOf] using hh) h2
      cases lo with
      | none => simp [bndOf] at hl; subst hl; simp [Instr.sliceBounds, Result.andThen, hy, hz']
      | some x => simp [Instr.sliceBounds, Result.andThen, hy, hz', key x l h _ (by simpa [bndOf] using hl) h1]

def aSlice (P : Program) (t : TypeId) (ev : Operand → AV) (x : AV) (lo hi mx : Option Operand) (A : AH) : Option (List (AV × AH)) :=
  bif mx.isSome && !hi.isSome then none else
  match P.underlying t, x with
  | some (.slice e), .sl b o n c => match sizeP P e, bndOf ev c mx, bndOf ev n hi, bndOf ev 0 lo with
    | some s, some m, some h, some l => bif Nat.ble l h && (Nat.ble h m && Nat.ble m c) then
        some [(bif Nat.beq m l then .sl b o (h - l) 0 else .sl b (o + l * s) (h - l) (m - l), A)] else none
    | _, _, _, _ => none
  | some (.slice e), .rs b oe oc n => match sizeP P e, bndOf ev n hi, bndOf ev 0 lo, A.get b with
    | some s, some h, some l, .blk _ xs (some s') => match mx with
      | none => bif Nat.ble l h && (Nat.ble h n && (Nat.beq s s' && (Nat.blt 0 s && Nat.ble ((oe + n) * s) xs.length))) then some [(.rs b (oe + l) (oc + l * s) (h - l), A)] else none
      | some z => match natOf (ev z) with
        | some m => bif Nat.ble l h && (Nat.ble h m && (Nat.ble m n && (Nat.beq s s' && (Nat.blt 0 s && Nat.ble ((oe + n) * s) xs.length)))) then
            some [(bif Nat.beq m l then .ez b else .sl b (oc + l * s) (h - l) (m - l), A)] else none
        | none => none
    | _, _, _, _ => none
  | some (.slice e), .ez b => match sizeP P e, bndOf ev 0 hi, bndOf ev 0 lo, bndOf ev 0 mx with
    | some _, some 0, some 0, some 0 => some [(.ez b, A)]
    | _, _, _, _ => none
  | some (.array n e), .ptr b o => match sizeP P e, bndOf ev n mx, bndOf ev n hi, bndOf ev 0 lo with
    | some s, some m, some h, some l => bif Nat.ble l h && (Nat.ble h m && Nat.ble m n) then
        some [(bif Nat.beq m l then .sl b o (h - l) 0 else .sl b (o + l * s) (h - l) (m - l), A)] else none
    | _, _, _, _ => none
  | _, _ => none

theorem bnd_max {mx : Option Operand} {c m : Nat} (h : bndOf ev c mx = some m) : (∀ c, bndOf ev c mx = some m) ∨ (mx = none ∧ m = c) := by
  cases mx with
  | none => simp [bndOf] at h; exact .inr ⟨rfl, h.symm⟩
  | some z => exact .inl fun _ => by simpa [bndOf] using h

theorem run_sliceAt_sl {t e : TypeId} {ao : Option Addr} {n c s l h m : Nat} {lo hi mx : Option Value} (hu : P.underlying t = some (.slice e)) (hs : sizeP P e = some s) (hb : (Instr.sliceBounds true n c lo hi mx).run P w = .ok (l, h, m) w) :
    (Instr.sliceAt t (.slice ao n c) lo hi mx).run P w = .ok (.slice (if m = l then ao else ao.map (·.add (l * s))) (h - l) (m - l)) w := by
  simp only [Instr.sliceAt, Instr.slice, Sem.run_bind, run_underlying hu, Result.andThen_ok, hb, run_sizeOf hs, Sem.run_pure]

theorem good_slice {t : TypeId} {x : Operand} {lo hi mx : Option Operand} (h : aSlice P t ev (ev x) lo hi mx A = some outs) (hA : Rel w0 Fr ρ A w) (he : ∀ x, R ρ (ev x) (a.eval x)) : Good P w0 Fr ⟨dst, .slice t x lo hi mx, ty, pos, after, gd⟩ a w ρ outs := by
  unfold aSlice at h
  rw [cond_eq_ite] at h
  split at h
  · cases h
  rename_i hmx
  have hmx' : mx.isSome = true → hi.isSome = true := fun h1 => by
    cases hq : hi.isSome
    · simp [h1, hq] at hmx
    · rfl
  have hx := he x
  split at h
  · rename_i e b o n c hu hx'
    rw [hx', R_sl] at hx; obtain ⟨lc, hb, hV⟩ := hx
    split at h
    · rename_i s m hh l hs h1 h2 h3
      rw [cond_eq_ite] at h
      split at h
      · rename_i hc
        simp only [Bool.and_eq_true] at hc
        have hr := run_bounds (P := P) (isl := true) (cap := c) he (bnd_max h1) h2 h3 (Nat.le_of_ble_eq_true hc.1) (Nat.le_of_ble_eq_true hc.2.1) (Nat.le_of_ble_eq_true hc.2.2) hmx' w
        cases h
        refine good_value _ (by simp only [execOp, hV, Sem.run_bind]; rw [run_sliceAt_sl hu hs hr]; rfl) hA ?_
        rw [cond_eq_ite]
        by_cases q : m = l
        · subst q; simp only [Nat.beq_refl, if_true]; rw [R_sl]; exact ⟨lc, hb, by simp⟩
        · have : ¬ Nat.beq m l = true := fun e => q (Nat.eq_of_beq_eq_true e)
          rw [if_neg this, if_neg q, R_sl]
          exact ⟨lc, hb, by simp [addr_add]⟩
      · cases h
    · cases h
  · rename_i e b oe oc n hu hx'
    rw [hx', R_rs] at hx; obtain ⟨lc, o', hb, ho, hV⟩ := hx
    split at h
    · rename_i s hh l tt xs s' hs h2 h3 hg
      split at h
      · rename_i hmn
        rw [cond_eq_ite] at h
        split at h
        · rename_i hc
          simp only [Bool.and_eq_true] at hc
          obtain ⟨c1, c2, c3, c4, c5⟩ := hc
          obtain rfl := Nat.eq_of_beq_eq_true c3
          have hcap := rs_cap hA hb hg (blt_lt c4) (Nat.le_of_ble_eq_true c5)
          have c1' := Nat.le_of_ble_eq_true c1
          have c2' := Nat.le_of_ble_eq_true c2
          have hr := run_bounds (P := P) (isl := true) (len := n) (cap := lc.cap - oe) (mx := none) (m := lc.cap - oe) he (.inr ⟨rfl, rfl⟩) h2 h3 c1' (by omega) (Nat.le_refl _) (by simp) w
          cases h
          refine good_value _ (by simp only [execOp, hV, Sem.run_bind]; rw [run_sliceAt_sl hu hs hr]; rfl) hA ?_
          rw [R_rs]
          by_cases q : lc.cap - oe = l
          · refine ⟨lc, o', hb, fun hne => absurd hne (by omega), ?_⟩
            rw [if_pos q]
            congr 1
            omega
          · refine ⟨lc, oc + l * s, hb, fun _ => rfl, ?_⟩
            rw [if_neg q]
            obtain rfl := ho (by omega)
            simp [addr_add]
            omega
        · cases h
      · rename_i _ z
        split at h
        · rename_i m hzm
          rw [cond_eq_ite] at h
          split at h
          · rename_i hc
            simp only [Bool.and_eq_true] at hc
            obtain ⟨c1, c2, c2b, c3, c4, c5⟩ := hc
            obtain rfl := Nat.eq_of_beq_eq_true c3
            have hcap := rs_cap hA hb hg (blt_lt c4) (Nat.le_of_ble_eq_true c5)
            have c1' := Nat.le_of_ble_eq_true c1
            have c2' := Nat.le_of_ble_eq_true c2
            have c2c := Nat.le_of_ble_eq_true c2b
            have hr := run_bounds (P := P) (isl := true) (len := n) (cap := lc.cap - oe) (mx := some z) (m := m) he (.inl fun _ => hzm) h2 h3 c1' c2' (by omega) hmx' w
            cases h
            refine good_value _ (by simp only [execOp, hV, Sem.run_bind]; rw [run_sliceAt_sl hu hs hr]; rfl) hA ?_
            rw [cond_eq_ite]
            by_cases q : m = l
            · subst q
              simp only [Nat.beq_refl, if_true]
              rw [R_ez]
              have : hh - m = 0 := by omega
              exact ⟨lc, o', hb, by simp [this]⟩
            · have : ¬ Nat.beq m l = true := fun e => q (Nat.eq_of_beq_eq_true e)
              rw [if_neg this, if_neg q, R_sl]
              obtain rfl := ho (by omega)
              exact ⟨lc, hb, by simp [addr_add]⟩
          · cases h
        · cases h
    · cases h
  · rename_i e b hu hx'
    rw [hx', R_ez] at hx; obtain ⟨lc, o', hb, hV⟩ := hx
    split at h
    · rename_i s hs h1 h2 h3
      have hr := run_bounds (P := P) (isl := true) (cap := 0) he (bnd_max h3) h1 h2 (Nat.le_refl _) (Nat.le_refl _) (Nat.le_refl _) hmx' w
      cases h
      refine good_value _ (by simp only [execOp, hV, Sem.run_bind]; rw [run_sliceAt_sl hu hs hr]; rfl) hA ?_
      rw [R_ez]
      exact ⟨lc, o', hb, by simp⟩
    · cases h
  · rename_i n e b o hu hx'
    rw [hx', R_ptr] at hx; obtain ⟨lc, hb, hV⟩ := hx
    split at h
    · rename_i s m hh l hs h1 h2 h3
      rw [cond_eq_ite] at h
      split at h
      · rename_i hc
        simp only [Bool.and_eq_true] at hc
        have hr := run_bounds (P := P) (isl := false) (cap := n) he (bnd_max h1) h2 h3 (Nat.le_of_ble_eq_true hc.1) (Nat.le_of_ble_eq_true hc.2.1) (Nat.le_of_ble_eq_true hc.2.2) hmx' w
        cases h
        refine good_value (.slice (some (if m = l then ⟨lc.blk, o, none⟩ else (⟨lc.blk, o, none⟩ : Addr).add (l * s))) (hh - l) (m - l)) (by simp only [execOp, hV, Instr.sliceAt, Instr.sureAddr, Sem.run_bind, run_underlying hu, Result.andThen_ok, Sem.run_pure, hr, run_sizeOf hs]) hA ?_
        rw [cond_eq_ite]
        by_cases q : m = l
        · subst q; simp only [Nat.beq_refl, if_true]; rw [R_sl]; exact ⟨lc, hb, by simp⟩
        · have : ¬ Nat.beq m l = true := fun e => q (Nat.eq_of_beq_eq_true e)
          rw [if_neg this, if_neg q, R_sl]
          exact ⟨lc, hb, by simp [addr_add]⟩
      · cases h
    · cases h
  · cases h

/-! what may be nil, compared -/
def aEql (P : Program) (neg : Bool) (t : TypeId) (x y : AV) (A : AH) : Option (List (AV × AH)) :=
  let ans (b : Bool) : Option (List (AV × AH)) := some [(.lit (.bool (bif neg then !b else b)), A)]
  match P.underlying t, x, y with
  | some (.pointer _), .ptr _ _, .lit (.pointer none) => ans false
  | some (.pointer _), .lit (.pointer none), .ptr _ _ => ans false
  | some (.slice _), .sl _ _ _ _, .lit (.slice none _ _) => ans false
  | some (.slice _), .rs _ _ _ _, .lit (.slice none _ _) => ans false
  | some (.slice _), .ez _, .lit (.slice none _ _) => ans false
  | some (.map _ _), .mp _, .lit (.map none) => ans false
  | some (.interface _), .ifc _ _, .lit .nilIface => ans false
  | some (.func _ _ _), .fn _ _ _, .lit .nilFunc => ans false
  | _, _, _ => none

def isNeq : BinOp → Bool
  | .neq => true
  | _ => false

theorem eq_of {t : TypeId} {X Y : Value} {b : Bool} (h : ∀ d, (Op.equalIn (d + 1) t X Y).run P w = .ok b w) : (Op.equal t X Y).run P w = .ok b w := h 9999

theorem good_eqlV {op : BinOp} (hop : op = .eql ∨ op = .neq) {t : TypeId} {x y : Operand} {u : TypeId} {b : Bool} {X Y : Value} (hx : a.eval x = X) (hy : a.eval y = Y) (hA : Rel w0 Fr ρ A w)
    (hg : (eqGuard op t x y X Y).run P w = .ok () w) (hb1 : binOp .eql t X Y = (do pure (.bool (← Op.equal t X Y)))) (hb2 : binOp .neq t X Y = (do pure (.bool (!(← Op.equal t X Y))))) (hr : (Op.equal t X Y).run P w = .ok b w) :
    Good P w0 Fr ⟨dst, .binOp op t x y u, ty, pos, after, gd⟩ a w ρ [(.lit (.bool (bif (isNeq op) then !b else b)), A)] := by
  refine good_value (.bool (bif (isNeq op) then !b else b)) ?_ hA (by simp)
  rcases hop with rfl | rfl
  · simp only [execOp, hx, hy, Sem.run_bind, hg, Result.andThen_ok, hb1, hr, Sem.run_pure, isNeq, cond_false]
  · simp only [execOp, hx, hy, Sem.run_bind, hg, Result.andThen_ok, hb2, hr, Sem.run_pure, isNeq, cond_true]

theorem good_eql {op : BinOp} (hop : op = .eql ∨ op = .neq) {t : TypeId} {x y : Operand} {u : TypeId} (h : aEql P (isNeq op) t (ev x) (ev y) A = some outs) (hA : Rel w0 Fr ρ A w) (hx : R ρ (ev x) (a.eval x)) (hy : R ρ (ev y) (a.eval y)) :
    Good P w0 Fr ⟨dst, .binOp op t x y u, ty, pos, after, gd⟩ a w ρ outs := by
  unfold aEql at h
  simp only at h
  split at h
  · rename_i e b o hu h1 h2
    rw [h1, R_ptr] at hx; obtain ⟨l, hb, hV⟩ := hx
    rw [h2, R_lit] at hy
    cases h
    exact good_eqlV hop hV hy hA (by rcases hop with rfl | rfl <;> rfl) rfl rfl (b := false) (eq_of fun d => by simp [Op.equalIn, run_underlying hu, Result.andThen])
  · rename_i e b o hu h1 h2
    rw [h2, R_ptr] at hy; obtain ⟨l, hb, hV⟩ := hy
    rw [h1, R_lit] at hx
    cases h
    exact good_eqlV hop hx hV hA (by rcases hop with rfl | rfl <;> rfl) rfl rfl (b := false) (eq_of fun d => by simp [Op.equalIn, run_underlying hu, Result.andThen])
  · rename_i e _ _ _ _ _ _ hu h1 h2
    rw [h1, R_sl] at hx; obtain ⟨l, hb, hV⟩ := hx
    rw [h2, R_lit] at hy
    cases h
    exact good_eqlV hop hV hy hA (by rcases hop with rfl | rfl <;> rfl) rfl rfl (b := false) (eq_of fun d => by simp [Op.equalIn, run_underlying hu, Result.andThen])
  · rename_i e _ _ _ _ _ _ hu h1 h2
    rw [h1, R_rs] at hx; obtain ⟨l, o', hb, _, hV⟩ := hx
    rw [h2, R_lit] at hy
    cases h
    exact good_eqlV hop hV hy hA (by rcases hop with rfl | rfl <;> rfl) rfl rfl (b := false) (eq_of fun d => by simp [Op.equalIn, run_underlying hu, Result.andThen])
  · rename_i e _ _ _ hu h1 h2
    rw [h1, R_ez] at hx; obtain ⟨l, o', hb, hV⟩ := hx
    rw [h2, R_lit] at hy
    cases h
    exact good_eqlV hop hV hy hA (by rcases hop with rfl | rfl <;> rfl) rfl rfl (b := false) (eq_of fun d => by simp [Op.equalIn, run_underlying hu, Result.andThen])
  · rename_i k e b hu h1 h2
    rw [h1, R_mp] at hx; obtain ⟨l, hb, hV⟩ := hx
    rw [h2, R_lit] at hy
    cases h
    exact good_eqlV hop hV hy hA (by rcases hop with rfl | rfl <;> rfl) rfl rfl (b := false) (eq_of fun d => by simp [Op.equalIn, run_underlying hu, Result.andThen])
  · rename_i ms t' v hu h1 h2
    rw [h1, R_ifc] at hx; obtain ⟨l, hb, hV⟩ := hx
    rw [h2, R_lit] at hy
    cases h
    exact good_eqlV hop hV hy hA (by rcases hop with rfl | rfl <;> rfl) rfl rfl (b := false) (eq_of fun d => by simp [Op.equalIn, run_underlying hu, Result.andThen])
  · rename_i p q r f c d hu h1 h2
    rw [h1, R_fn] at hx; obtain ⟨va, vc, _, _, hV⟩ := hx
    rw [h2, R_lit] at hy
    cases h
    exact good_eqlV hop hV hy hA (by rcases hop with rfl | rfl <;> rfl) rfl rfl (b := false) (eq_of fun d => by simp [Op.equalIn, run_underlying hu, Result.andThen])
  · cases h
end
end Go.Proofs.YtkfalpmimdcneaaGreatDoor
