/-
  The evaluator's operations: structs built and taken apart, interfaces, functions, slices, comparisons of what may be nil.
-/
import Derived.Test.YtkfalpmimdcneaaGreatDoorEv2
namespace Go.Proofs.YtkfalpmimdcneaaGreatDoor
set_option linter.unusedVariables false
set_option linter.unusedSimpArgs false

section
variable {P : Program} {w0 w : World} {Fr : List Hp} {ρ : List Loc} {A : AH} {a : Act} {ev : Operand → AV} {outs : List (AV × AH)}
  {dst : Option Tmp} {ty : TypeId} {pos : String} {after : Array Edge} {gd : Option (Nat × Bool)}

def aExtract (x : AV) (i : Nat) (A : AH) : Option (List (AV × AH)) := match x with
  | .tup l => (l[i]?).map fun v => [(v, A)]
  | _ => none

theorem good_extract {x : Operand} {i : Nat} (h : aExtract (ev x) i A = some outs) (hA : Rel w0 Fr ρ A w) (he : R ρ (ev x) (a.eval x)) : Good P w0 Fr ⟨dst, .extract x i, ty, pos, after, gd⟩ a w ρ outs := by
  unfold aExtract at h
  split at h
  · rename_i l hx
    rw [hx, R_tup] at he
    obtain ⟨vs, h1, hV⟩ := he
    rw [Option.map_eq_some_iff] at h
    obtain ⟨v, hv, rfl⟩ := h
    obtain ⟨V, hV1, hR⟩ := h1.get hv
    refine good_value V ?_ hA hR
    simp [execOp, hV, Instr.extract, hV1]
  · cases h

def aIface (P : Program) (t : TypeId) (x : AV) (A : AH) : Option (List (AV × AH)) := match P.underlying t with
  | some (.interface _) => none
  | some _ => some [(.ifc t x, A)]
  | none => none

theorem good_iface {t : TypeId} {x : Operand} (h : aIface P t (ev x) A = some outs) (hA : Rel w0 Fr ρ A w) (he : R ρ (ev x) (a.eval x)) : Good P w0 Fr ⟨dst, .makeInterface t x, ty, pos, after, gd⟩ a w ρ outs := by
  unfold aIface at h
  split at h
  · cases h
  · rename_i d hne hu
    cases h
    refine good_value (.iface t (a.eval x)) ?_ hA (by rw [R_ifc]; exact ⟨_, he, rfl⟩)
    have hu' := hu
    simp only [execOp, Instr.makeInterface, Sem.run_bind, run_underlying hu, Result.andThen_ok]
    cases d <;> first | rfl | exact absurd hu (hne _)
  · cases h

theorem RL_evs {ev : Operand → AV} {f : Operand → Value} (h : ∀ x, R ρ (ev x) (f x)) : ∀ l : List Operand, RL ρ (l.map ev) (l.map f)
  | [] => by simp
  | x :: r => by rw [List.map_cons, List.map_cons, RL_cons]; exact ⟨_, _, rfl, h x, RL_evs h r⟩

def aMakeFunc (f : Fn) (x y : List AV) (A : AH) : Option (List (AV × AH)) := some [(.fn f x y, A)]

theorem good_makeFunc {f : Fn} {x y : Array Operand} (h : aMakeFunc f (x.toList.map ev) (y.toList.map ev) A = some outs) (hA : Rel w0 Fr ρ A w) (he : ∀ x, R ρ (ev x) (a.eval x)) : Good P w0 Fr ⟨dst, .makeFunc f x y, ty, pos, after, gd⟩ a w ρ outs := by
  cases h
  refine good_value (.func f (x.map a.eval) (y.map a.eval)) rfl hA ?_
  rw [R_fn]
  refine ⟨x.toList.map a.eval, y.toList.map a.eval, RL_evs he _, RL_evs he _, ?_⟩
  rw [← Array.toList_map, ← Array.toList_map]

def aAssert (P : Program) (x : AV) (t : TypeId) (ok : Bool) (A : AH) : Option (List (AV × AH)) := match P.underlying t with
  | some (.interface _) => none
  | some _ => match x with
    | .ifc u v => bif Nat.beq u t then some [(bif ok then .tup [v, .lit (.bool true)] else v, A)]
        else bif ok then match (P.info? t).bind (·.zero) with
          | some z => some [(.tup [.lit z, .lit (.bool false)], A)]
          | none => none
        else none
    | _ => none
  | none => none

theorem run_zero {t : TypeId} {z : Value} (h : (P.info? t).bind (·.zero) = some z) (w : World) : (zeroValue t).run P w = .ok z w := by
  cases hq : P.info? t with
  | none => simp [hq] at h
  | some q =>
    have : q.zero = some z := by simpa [hq] using h
    simp [zeroValue, typeInfo, hq, this]

theorem good_assert {x : Operand} {xt t : TypeId} {ok : Bool} (h : aAssert P (ev x) t ok A = some outs) (hA : Rel w0 Fr ρ A w) (he : R ρ (ev x) (a.eval x)) : Good P w0 Fr ⟨dst, .typeAssert x xt t ok, ty, pos, after, gd⟩ a w ρ outs := by
  unfold aAssert at h
  split at h
  · cases h
  · rename_i d hne hu
    split at h
    · rename_i u v hx
      rw [hx, R_ifc] at he
      obtain ⟨V, h1, hV⟩ := he
      rw [cond_eq_ite] at h
      split at h
      · rename_i hb
        obtain rfl := Nat.eq_of_beq_eq_true hb
        cases h
        refine good_value (if ok then .tuple #[V, .bool true] else V) ?_ hA ?_
        · simp only [execOp, hV, Instr.typeAssert, Sem.run_bind, run_underlying hu, Result.andThen_ok]
          cases d <;> first | exact absurd hu (hne _) | (simp; done)
        · cases ok
          · exact h1
          · simp only [cond_true, if_true, R_tup]
            exact ⟨[V, .bool true], by simp [h1], rfl⟩
      · rename_i hb
        have hb' : ¬ u = t := fun e => hb (by rw [e]; exact Nat.beq_refl t)
        rw [cond_eq_ite] at h
        split at h
        · rename_i hok
          subst hok
          split at h
          · rename_i z hz
            cases h
            refine good_value (.tuple #[z, .bool false]) ?_ hA (by rw [R_tup]; exact ⟨[z, .bool false], by simp, rfl⟩)
            simp only [execOp, hV, Instr.typeAssert, Sem.run_bind, run_underlying hu, Result.andThen_ok]
            cases d <;> first | exact absurd hu (hne _) | (simp [hb', run_zero hz, Result.andThen]; done)
          · cases h
        · cases h
    · cases h
  · cases h

/-! parts -/
def aPart (P : Program) (t : TypeId) (l : List AV) (off : Nat) : Option AV := match P.underlying t with
  | some (.struct _) => (sizeP P t).map fun n => .agg ((l.drop off).take n)
  | some (.array _ _) => (sizeP P t).map fun n => .agg ((l.drop off).take n)
  | some _ => l[off]?
  | none => none

theorem extract_toList (vs : List Value) (i n : Nat) : (vs.toArray.extract i (i + n)) = ((vs.drop i).take n).toArray := by
  apply Array.ext'
  simp [List.extract_eq_take_drop]

theorem run_part {t : TypeId} {l : List AV} {off : Nat} {v : AV} (h : aPart P t l off = some v) {vs : List Value} (hl : RL ρ l vs) (w : World) : ∃ V, (part t vs.toArray off).run P w = .ok V w ∧ R ρ v V := by
  unfold aPart at h
  split at h
  · rename_i fs hu
    rw [Option.map_eq_some_iff] at h
    obtain ⟨n, hn, rfl⟩ := h
    refine ⟨.agg ((vs.drop off).take n).toArray, ?_, by rw [R_agg]; exact ⟨_, RL.take _ (RL.drop _ hl), rfl⟩⟩
    simp [part, isAgg, run_underlying hu, run_sizeOf hn, Result.andThen, List.extract_eq_take_drop]
  · rename_i fs e hu
    rw [Option.map_eq_some_iff] at h
    obtain ⟨n, hn, rfl⟩ := h
    refine ⟨.agg ((vs.drop off).take n).toArray, ?_, by rw [R_agg]; exact ⟨_, RL.take _ (RL.drop _ hl), rfl⟩⟩
    simp [part, isAgg, run_underlying hu, run_sizeOf hn, Result.andThen, List.extract_eq_take_drop]
  · rename_i d h1 h2 hu
    obtain ⟨V, hV, hR⟩ := hl.get h
    refine ⟨V, ?_, hR⟩
    simp only [part, isAgg, Sem.run_bind, run_underlying hu, Result.andThen_ok]
    cases d <;> first | (simp [hV]; done) | exact absurd rfl (h1 _) | exact absurd rfl (h2 _ _)
  · cases h

def aField (P : Program) (t : TypeId) (x : AV) (f : Nat) (A : AH) : Option (List (AV × AH)) := match x, P.underlying t with
  | .agg l, some (.struct fs) => match fs[f]? with
    | some fd => (aPart P fd.type l fd.offset).map fun v => [(v, A)]
    | none => none
  | _, _ => none

theorem good_field {t : TypeId} {x : Operand} {f : Nat} (h : aField P t (ev x) f A = some outs) (hA : Rel w0 Fr ρ A w) (he : R ρ (ev x) (a.eval x)) : Good P w0 Fr ⟨dst, .field t x f, ty, pos, after, gd⟩ a w ρ outs := by
  unfold aField at h
  split at h
  · rename_i l fs hx hu
    rw [hx, R_agg] at he
    obtain ⟨vs, h1, hV⟩ := he
    split at h
    · rename_i fd hf
      rw [Option.map_eq_some_iff] at h
      obtain ⟨v, hv, rfl⟩ := h
      obtain ⟨V, hr, hR⟩ := run_part hv h1 w
      refine good_value V ?_ hA hR
      simp [execOp, hV, Instr.field, run_underlying hu, hf, asAgg, hr, Result.andThen]
    · cases h
  · cases h

def aIndex (P : Program) (t : TypeId) (x i : AV) (A : AH) : Option (List (AV × AH)) := match x, i, P.underlying t with
  | .agg l, .lit (.int _ (.ofNat i)), some (.array n e) => match sizeP P e with
    | some s => bif Nat.blt i n then (aPart P e l (i * s)).map fun v => [(v, A)] else none
    | none => none
  | _, _, _ => none

theorem good_index {t : TypeId} {x i : Operand} (h : aIndex P t (ev x) (ev i) A = some outs) (hA : Rel w0 Fr ρ A w) (he : R ρ (ev x) (a.eval x)) (hi : R ρ (ev i) (a.eval i)) : Good P w0 Fr ⟨dst, .index t x i, ty, pos, after, gd⟩ a w ρ outs := by
  unfold aIndex at h
  split at h
  · rename_i l k j n e hx hj hu
    rw [hx, R_agg] at he
    obtain ⟨vs, h1, hV⟩ := he
    rw [hj, R_lit] at hi
    split at h
    · rename_i s hs
      rw [cond_eq_ite] at h
      split at h
      · rename_i hlt
        rw [Option.map_eq_some_iff] at h
        obtain ⟨v, hv, rfl⟩ := h
        obtain ⟨V, hr, hR⟩ := run_part hv h1 w
        refine good_value V ?_ hA hR
        have hc : (0 : Int) ≤ Int.ofNat j ∧ Int.ofNat j < (n : Int) := ⟨Int.natCast_nonneg j, Int.ofNat_lt.2 (blt_lt hlt)⟩
        simp only [execOp, hi, hV, Instr.index, asIntOf, Sem.run_bind, Sem.run_pure, Result.andThen_ok, run_underlying hu, if_pos hc, run_sizeOf hs]
        have e : (Int.ofNat j).toNat = j := rfl
        rw [e, hr]; rfl
      · cases h
    · cases h
  · cases h

/-! structs, arrays, slices written out -/
def aFill (place : Nat → Option (Nat × Nat)) : List AV → List (Nat × AV) → Option (List AV)
  | cells, [] => some cells
  | cells, (i, x) :: rest => match place i with
    | none => none
    | some (off, size) =>
      let cs := cellsA x
      bif Nat.beq cs.length size && Nat.ble (off + cs.length) cells.length then aFill place (cells.take off ++ cs ++ cells.drop (off + cs.length)) rest else none

theorem foldl_put (l : List Value) : ∀ (k off : Nat) (cells : Array Value), off + k + l.length ≤ cells.size →
    ((l.zipIdx k).foldl (fun (cs : Array Value) (p : Value × Nat) => cs.setIfInBounds (off + p.2) p.1) cells) = (cells.toList.take (off + k) ++ l ++ cells.toList.drop (off + k + l.length)).toArray := by
  induction l with
  | nil => intro k off cells h; simp
  | cons v r ih =>
    intro k off cells h
    simp only [List.length_cons] at h
    rw [List.zipIdx_cons, List.foldl_cons, ih (k + 1) off _ (by simp; omega)]
    congr 1
    have hlt : off + k < cells.toList.length := by rw [Array.length_toList]; omega
    have hA : (cells.toList.take (off + k)).length = off + k := by rw [List.length_take]; omega
    have e1 : (cells.toList.take (off + k) ++ v :: cells.toList.drop (off + k + 1)).take (off + (k + 1)) = cells.toList.take (off + k) ++ [v] := by
      rw [List.take_append, hA, List.take_of_length_le (by rw [hA]; omega), show off + (k + 1) - (off + k) = 1 by omega]; rfl
    have e2 : (cells.toList.take (off + k) ++ v :: cells.toList.drop (off + k + 1)).drop (off + (k + 1) + r.length) = cells.toList.drop (off + k + (r.length + 1)) := by
      rw [List.drop_append, hA, List.drop_eq_nil_of_le (by rw [hA]; omega), show off + (k + 1) + r.length - (off + k) = r.length + 1 by omega, List.drop_succ_cons, List.drop_drop, List.nil_append]
      congr 1
      omega
    rw [Array.toList_setIfInBounds, List.set_eq_take_append_cons_drop, if_pos hlt, e1, e2, List.length_cons, List.append_assoc, List.append_assoc, List.append_assoc]
    rfl

theorem fill_rel {place : Nat → Option (Nat × Nat)} {f : Operand → Value} (he : ∀ x, R ρ (ev x) (f x)) : ∀ (parts : List (Nat × Operand)) {cells out : List AV} {vs : List Value}, RL ρ cells vs → aFill place cells (parts.map fun p => (p.1, ev p.2)) = some out →
    ∃ ws : List Value, Instr.fill place vs.toArray (parts.map fun p => (p.1, f p.2)) = some ws.toArray ∧ RL ρ out ws
  | [], cells, out, vs, hc, h => by
    simp only [List.map_nil, aFill, Option.some.injEq] at h
    subst h
    exact ⟨vs, rfl, hc⟩
  | (i, x) :: rest, cells, out, vs, hc, h => by
    simp only [List.map_cons, aFill] at h
    split at h
    · cases h
    · rename_i off size hp
      rw [cond_eq_ite] at h
      split at h
      · rename_i hb
        simp only [Bool.and_eq_true] at hb
        have h1 := Nat.eq_of_beq_eq_true hb.1
        have h2 := Nat.le_of_ble_eq_true hb.2
        have hx := R_cells (he x)
        have hl := hx.length
        have hv := hc.length
        have hl' : (f x).cells.size = (cellsA (ev x)).length := by rw [← hl, Array.length_toList]
        have hc' := RL.append (RL.append (RL.take off hc) hx) (RL.drop (off + (cellsA (ev x)).length) hc)
        obtain ⟨ws, h3, h4⟩ := fill_rel he rest hc' h
        refine ⟨ws, ?_, h4⟩
        rw [List.map_cons]
        have hn : ¬ ((f x).cells.size ≠ size ∨ off + (f x).cells.size > vs.toArray.size) := by
          intro hh
          rcases hh with hh | hh
          · exact hh (by omega)
          · simp only [List.size_toArray] at hh; omega
        have hfold : ((f x).cells.zipIdx.foldl (fun cs (p : Value × Nat) => cs.setIfInBounds (off + p.2) p.1) vs.toArray) = (vs.take off ++ (f x).cells.toList ++ vs.drop (off + (cellsA (ev x)).length)).toArray := by
          rw [← Array.foldl_toList, Array.toList_zipIdx, foldl_put _ 0 off _ (by simp; omega), hl]
          simp
        rw [Instr.fill]
        simp only [hp]
        rw [if_neg (by simpa using hn)]
        exact (congrArg (fun z => Instr.fill place z (rest.map fun p => (p.1, f p.2))) hfold).trans h3
      · cases h

def placesP (P : Program) : List Field → Option (List (Nat × Nat))
  | [] => some []
  | f :: r => match sizeP P f.type, placesP P r with
    | some n, some l => some ((f.offset, n) :: l)
    | _, _ => none

theorem run_places : ∀ {fs : List Field} {l : List (Nat × Nat)}, placesP P fs = some l → ∀ w, (fs.mapM (fun f => (do pure (f.offset, ← sizeOf f.type) : Sem (Nat × Nat)))).run P w = .ok l w
  | [], l, h, w => by simp only [placesP, Option.some.injEq] at h; subst h; rfl
  | f :: r, l, h, w => by
    simp only [placesP] at h
    split at h
    · rename_i n l' hn hl
      cases h
      rw [List.mapM_cons]
      simp only [Sem.run_bind, run_sizeOf hn, Result.andThen_ok, Sem.run_pure, run_places hl]
    · cases h

def aBuild (P : Program) (t : TypeId) (parts : List (Nat × AV)) (A : AH) : Option (List (AV × AH)) := match (P.info? t).bind (·.zero) with
  | none => none
  | some z => match P.underlying t with
    | some (.struct fs) => match placesP P fs.toList with
      | some pl => (aFill (fun i => pl[i]?) (z.cells.toList.map .lit) parts).map fun l => [(.agg l, A)]
      | none => none
    | some (.array _ e) => match sizeP P e with
      | some s => (aFill (fun i => some (i * s, s)) (z.cells.toList.map .lit) parts).map fun l => [(.agg l, A)]
      | none => none
    | _ => none

theorem good_build {t : TypeId} {parts : Array (Nat × Operand)} (h : aBuild P t (parts.toList.map fun p => (p.1, ev p.2)) A = some outs) (hA : Rel w0 Fr ρ A w) (he : ∀ x, R ρ (ev x) (a.eval x)) : Good P w0 Fr ⟨dst, .build t parts, ty, pos, after, gd⟩ a w ρ outs := by
  unfold aBuild at h
  split at h
  · cases h
  · rename_i z hz
    have hz0 : RL ρ (z.cells.toList.map .lit) z.cells.toList := RL.lits _
    have hmap : (parts.map fun (p : Nat × Operand) => (p.1, a.eval p.2)).toList = parts.toList.map fun p => (p.1, a.eval p.2) := Array.toList_map ..
    split at h
    · rename_i fs hu
      split at h
      · rename_i pl hpl
        rw [Option.map_eq_some_iff] at h
        obtain ⟨l, hl, rfl⟩ := h
        obtain ⟨ws, h1, h2⟩ := fill_rel he _ hz0 hl
        refine good_value (.agg ws.toArray) ?_ hA (by rw [R_agg]; exact ⟨_, h2, rfl⟩)
        have hm : (fs.mapM (fun f => (do pure (f.offset, ← sizeOf f.type) : Sem (Nat × Nat)))).run P w = .ok pl.toArray w := by
          rw [Array.mapM_eq_mapM_toList, Sem.run_map, run_places hpl]; rfl
        simp only [execOp, Instr.build, Sem.run_bind, run_zero hz, run_underlying hu, Result.andThen_ok, hm]
        have hf : Instr.fill (fun i => pl.toArray[i]?) z.cells (parts.map fun (p : Nat × Operand) => (p.1, a.eval p.2)).toList = some ws.toArray := by
          rw [hmap, ← h1]
          simp
        rw [hf]
        simp [Sem.run_pure]
      · cases h
    · rename_i n e hu
      split at h
      · rename_i s hs
        rw [Option.map_eq_some_iff] at h
        obtain ⟨l, hl, rfl⟩ := h
        obtain ⟨ws, h1, h2⟩ := fill_rel he _ hz0 hl
        refine good_value (.agg ws.toArray) ?_ hA (by rw [R_agg]; exact ⟨_, h2, rfl⟩)
        simp only [execOp, Instr.build, Sem.run_bind, run_zero hz, run_underlying hu, Result.andThen_ok, run_sizeOf hs]
        have hf : Instr.fill (fun i => some (i * s, s)) z.cells (parts.map fun (p : Nat × Operand) => (p.1, a.eval p.2)).toList = some ws.toArray := by
          rw [hmap, ← h1]
        rw [hf]
        simp [Sem.run_pure]
      · cases h
    · cases h

def repA (z : List AV) : Nat → List AV
  | 0 => []
  | n + 1 => z ++ repA z n

def aBuildSlice (P : Program) (t : TypeId) (n : Nat) (parts : List (Nat × AV)) (A : AH) : Option (List (AV × AH)) := match P.underlying t with
  | some (.slice e) => match sizeP P e, (P.info? e).bind (·.zero) with
    | some s, some z => bif Nat.beq z.cells.size s && (Nat.blt 0 (n * s) && Nat.ble (n * s) 16777216) then
        (aFill (fun i => some (i * s, s)) (repA (z.cells.toList.map .lit) n) parts).map fun l => [(.sl A.n 0 n n, A.push (.blk e l none))]
      else bif Nat.beq n 0 && parts.isEmpty then some [(.sl A.n 0 0 0, A.push (.blk e [] none))] else none
    | _, _ => none
  | _ => none

theorem rep_toList (z : Array Value) : ∀ n : Nat, ((Array.range (n * z.size)).map (z[· % z.size]!)).toList = (List.replicate n z.toList).flatten := by
  intro n
  rw [Array.toList_map, Array.toList_range]
  induction n with
  | zero => simp
  | succ n ih =>
    rw [List.replicate_succ', List.flatten_append, ← ih, Nat.succ_mul, List.range_add, List.map_append]
    congr 1
    simp only [List.flatten_cons, List.flatten_nil, List.append_nil, List.map_map]
    apply List.ext_getElem?
    intro i
    by_cases hi : i < z.size
    · simp [hi, Nat.mod_eq_of_lt hi, Nat.add_mod]
    · simp [hi]

theorem rep_rel (z : List Value) : ∀ n, RL ρ (repA (z.map .lit) n) (List.replicate n z).flatten
  | 0 => by simp [repA]
  | n + 1 => by
    rw [repA, List.replicate_succ, List.flatten_cons]
    exact RL.append (RL.lits _) (rep_rel z n)

theorem good_buildSlice {t : TypeId} {n : Nat} {parts : Array (Nat × Operand)} (h : aBuildSlice P t n (parts.toList.map fun p => (p.1, ev p.2)) A = some outs) (hA : Rel w0 Fr ρ A w) (he : ∀ x, R ρ (ev x) (a.eval x)) : Good P w0 Fr ⟨dst, .buildSlice t n parts, ty, pos, after, gd⟩ a w ρ outs := by
  unfold aBuildSlice at h
  split at h
  · rename_i e hu
    split at h
    · rename_i s z hs hz
      rw [cond_eq_ite] at h
      split at h
      · rename_i hb
        simp only [Bool.and_eq_true] at hb
        have hzs := Nat.eq_of_beq_eq_true hb.1
        have hn0 := blt_lt hb.2.1
        have hn1 := Nat.le_of_ble_eq_true hb.2.2
        rw [Option.map_eq_some_iff] at h
        obtain ⟨l, hl, rfl⟩ := h
        obtain ⟨ws, h1, h2⟩ := fill_rel he _ (rep_rel z.cells.toList n) hl
        obtain ⟨H, g1, hS, g3⟩ := hA.ex
        intro K Q hK
        have hinfo : (P.info? e).map (fun i => (i.zero, i.size, i.bytes)) = some (some z, s, ((P.info? e).map (·.bytes)).getD 0) := by
          unfold sizeP at hs
          cases hq : P.info? e with
          | none => simp [hq] at hs
          | some q => simp [hq] at hs hz ⊢; exact ⟨hz, hs⟩
        refine opS_buildSlice t n parts rfl hS hu hinfo (by omega) hn0 (cs := ws) ?_ (fun g w' hS' => ?_)
        · have e1 : ((Array.range (n * s)).map (z.cells[· % z.cells.size]!)) = (List.replicate n z.cells.toList).flatten.toArray := by
            apply Array.ext'
            rw [← hzs, rep_toList]
          rw [e1, ← h1]
          congr 1
          exact Array.toList_map ..
        · exact hK _ _ _ _ w' (List.mem_singleton.2 rfl) (List.prefix_append _ _) (push_blk hA g1 g3 hS' h2) (by rw [R_sl]; exact ⟨_, hA.last _, rfl⟩)
      · rw [cond_eq_ite] at h
        split at h
        · rename_i hb
          simp only [Bool.and_eq_true] at hb
          have hn := Nat.eq_of_beq_eq_true hb.1
          have hp : parts = #[] := by
            have := hb.2
            simp only [List.isEmpty_iff, List.map_eq_nil_iff, Array.toList_eq_nil_iff] at this
            exact this
          subst hn; subst hp
          cases h
          obtain ⟨H, g1, hS, g3⟩ := hA.ex
          intro K Q hK
          refine opA_build0 s hS hu (by unfold sizeIs; unfold sizeP at hs; rw [hs]; exact beq_self_eq_true _) (fun g w' hS' => ?_)
          obtain ⟨cur, c1, c2, c3, c4, hS2⟩ := hS'.rowCells 0 rfl
          have hcur : cur = [] := List.eq_nil_of_length_eq_zero (by rw [c1]; simp)
          subst hcur
          exact hK _ _ _ _ w' (List.mem_singleton.2 rfl) (List.prefix_append _ _) (push_blk hA g1 g3 hS2 (by simp)) (by rw [R_sl]; exact ⟨_, hA.last _, rfl⟩)
        · cases h
    · cases h
  · cases h

def aMakeSlice (P : Program) (t : TypeId) (x y : AV) (A : AH) : Option (List (AV × AH)) := match x, y, P.underlying t with
  | .lit (.int _ (.ofNat l)), .lit (.int _ (.ofNat c)), some (.slice e) => match P.info? e with
    | some i => match i.zero with
      | some z => bif Nat.beq z.cells.size i.size && (Nat.ble l c && (Nat.ble (i.bytes * c) 281474976710656 && Nat.ble c 1000000)) then
          some [(.sl A.n 0 l c, A.push (.blk e (repA (z.cells.toList.map .lit) c) none))] else none
      | none => none
    | none => none
  | _, _, _ => none

theorem good_makeSlice {t : TypeId} {x y : Operand} (h : aMakeSlice P t (ev x) (ev y) A = some outs) (hA : Rel w0 Fr ρ A w) (hx : R ρ (ev x) (a.eval x)) (hy : R ρ (ev y) (a.eval y)) : Good P w0 Fr ⟨dst, .makeSlice t x y, ty, pos, after, gd⟩ a w ρ outs := by
  unfold aMakeSlice at h
  split at h
  · rename_i k1 l k2 c e h1 h2 hu
    rw [h1, R_lit] at hx
    rw [h2, R_lit] at hy
    split at h
    · rename_i i hi
      split at h
      · rename_i z hz
        rw [cond_eq_ite] at h
        split at h
        · rename_i hb
          simp only [Bool.and_eq_true] at hb
          have b1 := Nat.eq_of_beq_eq_true hb.1
          have b2 := Nat.le_of_ble_eq_true hb.2.1
          have b3 := Nat.le_of_ble_eq_true hb.2.2.1
          have b4 := Nat.le_of_ble_eq_true hb.2.2.2
          cases h
          obtain ⟨H, g1, hS, g3⟩ := hA.ex
          have hr := run_make (P := P) w t e i z hu hi hz k1 k2 l c (by omega) (by omega) (by rw [← Int.natCast_mul]; omega) (by omega)
          have e1 : madeCells z.cells ((c : Int).toNat * i.size) = (List.replicate c z.cells.toList).flatten.toArray := by
            apply Array.ext'
            rw [← b1, Int.toNat_natCast]
            exact rep_toList z.cells c
          rw [e1] at hr
          have hS' := hS.alloc (List.replicate c z.cells.toList).flatten e
          intro K Q hK
          unfold Oper.wp
          simp only [execOp, hx, hy, Sem.run_bind]
          rw [show (Instr.makeSlice t (.int k1 (Int.ofNat l)) (.int k2 (Int.ofNat c))).run P w = _ from hr]
          simp only [Result.andThen_ok, Sem.run_pure]
          exact hK _ _ (ρ ++ [⟨w.heap.size, 0, undef⟩]) _ _ (List.mem_singleton.2 rfl) (List.prefix_append _ _) (push_blk hA g1 g3 hS' (rep_rel _ _)) (by rw [R_sl]; exact ⟨_, hA.last _, rfl⟩)
        · cases h
      · cases h
    · cases h
  · cases h

end
end Go.Proofs.YtkfalpmimdcneaaGreatDoor
