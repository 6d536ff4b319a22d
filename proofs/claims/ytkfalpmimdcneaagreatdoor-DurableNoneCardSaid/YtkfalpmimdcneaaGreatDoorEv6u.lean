/-
  The evaluator: pointers seen as unsafe ones, strings that share bytes, a copy out of a string, a pointer compared with itself.
-/
import Derived.LaidEql
import Derived.Lib.Builder
import Derived.Lib.UnsafeStr
import Derived.Lib.BufferWrite
import Derived.Test.YtkfalpmimdcneaaGreatDoorEv6
namespace Go.Proofs.YtkfalpmimdcneaaGreatDoor
set_option linter.unusedVariables false
set_option linter.unusedSimpArgs false
open Go.RowKit

section
variable {P : Program} {w0 w : World} {Fr : List Hp} {ρ : List Loc} {A : AH} {a : Act} {ev : Operand → AV} {outs : List (AV × AH)} {dst : Option Tmp} {ty : TypeId} {pos : String} {after : Array Edge} {gd : Option (Nat × Bool)}

theorem b_sd {ats : Array TypeId} {ty : TypeId} {cs : Array Bool} {args : Array Value} : builtin .unsafeSliceData ats ty cs args = (do pure (.value (← Builtin.unsafeSliceData_ ats ty args))) := rfl
theorem b_us {ats : Array TypeId} {ty : TypeId} {cs : Array Bool} {args : Array Value} : builtin .unsafeString ats ty cs args = (do pure (.value (← Builtin.unsafeString_ ats ty args))) := rfl
theorem b_cp {ats : Array TypeId} {ty : TypeId} {cs : Array Bool} {args : Array Value} : builtin .copy ats ty cs args = (do pure (.value (← Builtin.copy_ ats ty args))) := rfl

/-- A block's type and the number of its cells, where that is known. -/
def shapeA (A : AH) (b : Nat) : Option (TypeId × Nat) := match A.get b with
  | .blk t xs none => some (t, xs.length)
  | _ => none

theorem shapeA_out (hA : Rel w0 Fr ρ A w) {b : Nat} {l : Loc} (hb : ρ[b]? = some l) {t : TypeId} {n : Nat} (h : shapeA A b = some (t, n)) : w.shape? l.blk = some (t, n) := by
  unfold shapeA at h
  split at h
  · rename_i tt xs hg
    cases h
    obtain ⟨H, vs, tail, h1, hS, h3, h4, h5, h6⟩ := blk_out hA hb hg
    have hl := h5.length
    have h6' : tail = [] := h6
    have hon : w.heap[l.blk]? = some (.cells (vs ++ tail).toArray t (0, 0)) := hS.at_ b h4
    simp [World.shape?, hon, h6', hl]
  · cases h

def aUnsafe (P : Program) (src dst : TypeId) (x : AV) (A : AH) : Option (List (AV × AH)) := match P.underlying src, P.underlying dst, x with
  | some (.pointer e), some .unsafePointer, .ptr b o => match sizeP P e, shapeA A b with
    | some (_ + 1), some (_, n) => bif Nat.blt o n then some [(.ptr b o, A)] else none
    | _, _ => none
  | some .unsafePointer, some (.pointer e), .ptr b o => match sizeP P e, shapeA A b with
    | some (_ + 1), some (t, n) => bif liesAt P P.depth t (n / P.cellsOf t) o e 1 then some [(.ptr b o, A)] else none
    | _, _ => none
  | _, _, _ => none

theorem sizeP_out {t : TypeId} {n : Nat} (h : sizeP P t = some n) : ∃ j : TypeInfo, P.info? t = some j ∧ j.size = n := by
  unfold sizeP at h
  rw [Option.map_eq_some_iff] at h
  exact h

theorem good_unsafe {t u : TypeId} {x : Operand} (h : aUnsafe P t u (ev x) A = some outs) (hA : Rel w0 Fr ρ A w) (hx : R ρ (ev x) (a.eval x)) : Good P w0 Fr ⟨dst, .convert t u x, ty, pos, after, gd⟩ a w ρ outs := by
  unfold aUnsafe at h
  split at h
  · rename_i e b o ht hu hxv
    rw [hxv, R_ptr] at hx
    obtain ⟨l, hb, hV⟩ := hx
    split at h
    · rename_i m tt n hs hsh
      rw [cond_eq_ite] at h
      split at h
      · rename_i hlt
        cases h
        obtain ⟨j, hj, hjs⟩ := sizeP_out hs
        refine good_value (.pointer (some ⟨l.blk, o, none⟩)) ?_ hA (by rw [R_ptr]; exact ⟨l, hb, rfl⟩)
        have hr := Lib.run_to_unsafe (P := P) w ⟨l.blk, o, none⟩ ht hu hj (by omega) (shapeA_out hA hb hsh) (blt_lt hlt)
        simp only [execOp, hV, Sem.run_bind, hr, Result.andThen_ok, Sem.run_pure]
      · cases h
    · cases h
  · rename_i e b o ht hu hxv
    rw [hxv, R_ptr] at hx
    obtain ⟨l, hb, hV⟩ := hx
    split at h
    · rename_i m tt n hs hsh
      rw [cond_eq_ite] at h
      split at h
      · rename_i hlt
        cases h
        obtain ⟨j, hj, hjs⟩ := sizeP_out hs
        refine good_value (.pointer (some ⟨l.blk, o, none⟩)) ?_ hA (by rw [R_ptr]; exact ⟨l, hb, rfl⟩)
        have hr := Lib.run_from_unsafe (P := P) w ⟨l.blk, o, none⟩ ht hu hj (shapeA_out hA hb hsh) hlt
        simp only [execOp, hV, Sem.run_bind, hr, Result.andThen_ok, Sem.run_pure]
      · cases h
    · cases h
  · cases h

def aSliceData (x : AV) (A : AH) : Option (List (AV × AH)) := match x with
  | .lit (.slice none _ _) => some [(.lit (.pointer none), A)]
  | .sl b o _ (_ + 1) => some [(.ptr b o, A)]
  | .rs b oe oc (n + 1) => match A.get b with
    | .blk _ xs (some 1) => bif Nat.ble (oe + (n + 1)) xs.length then some [(.ptr b oc, A)] else none
    | _ => none
  | _ => none

theorem good_sliceData {x : Operand} {ats : Array TypeId} (h : aSliceData (ev x) A = some outs) (hA : Rel w0 Fr ρ A w) (hx : R ρ (ev x) (a.eval x)) : Good P w0 Fr ⟨dst, .call { callee := .builtin .unsafeSliceData, args := #[x], argTypes := ats }, ty, pos, after, gd⟩ a w ρ outs := by
  unfold aSliceData at h
  split at h
  · rename_i n c hxv
    rw [hxv, R_lit] at hx
    cases h
    refine good_value (.pointer none) ?_ hA (by simp)
    have hr := Lib.run_unsafeSliceData_nil (P := P) w ats ty n c
    simp only [execOp, resolve, invoke, b_sd, List.map_toArray, List.map_cons, List.map_nil, hx, Sem.run_bind, Sem.run_pure, Result.andThen_ok, hr]
  · rename_i b o n c hxv
    rw [hxv, R_sl] at hx
    obtain ⟨l, hb, hV⟩ := hx
    cases h
    refine good_value (.pointer (some ⟨l.blk, o, none⟩)) ?_ hA (by rw [R_ptr]; exact ⟨l, hb, rfl⟩)
    have hr := Lib.run_unsafeSliceData_row (P := P) w ats ty ⟨l.blk, o, none⟩ n (c + 1) (by omega)
    simp only [execOp, resolve, invoke, b_sd, List.map_toArray, List.map_cons, List.map_nil, hV, Sem.run_bind, Sem.run_pure, Result.andThen_ok, hr]
  · rename_i b oe oc n hxv
    rw [hxv, R_rs] at hx
    obtain ⟨l, o', hb, ho, hV⟩ := hx
    split at h
    · rename_i tt xs hg
      rw [cond_eq_ite] at h
      split at h
      · rename_i hle
        have hle' := Nat.le_of_ble_eq_true hle
        cases h
        have hcap := rs_cap hA hb hg (by omega) (m := oe + (n + 1)) (by omega)
        have eo := ho (by omega)
        rw [eo] at hV
        refine good_value (.pointer (some ⟨l.blk, oc, none⟩)) ?_ hA (by rw [R_ptr]; exact ⟨l, hb, rfl⟩)
        have hr := Lib.run_unsafeSliceData_row (P := P) w ats ty ⟨l.blk, oc, none⟩ (n + 1) (l.cap - oe) (by omega)
        simp only [execOp, resolve, invoke, b_sd, List.map_toArray, List.map_cons, List.map_nil, hV, Sem.run_bind, Sem.run_pure, Result.andThen_ok, hr]
      · cases h
    · cases h
  · cases h

/-- Bytes, read off. -/
def u8sA : List AV → Option (List UInt8)
  | [] => some []
  | .lit (.int .u8 (.ofNat n)) :: r => bif Nat.blt n 256 then (u8sA r).map (n.toUInt8 :: ·) else none
  | _ => none

theorem u8sA_out : ∀ {xs : List AV} {bs : List UInt8} {vs : List Value}, u8sA xs = some bs → RL ρ xs vs → vs = bs.map fun (c : UInt8) => Value.int .u8 c.toNat
  | [], bs, vs, h, hv => by simp only [u8sA, Option.some.injEq] at h; subst h; rw [RL_nil] at hv; simp [hv]
  | x :: r, bs, vs, h, hv => by
    rw [RL_cons] at hv
    obtain ⟨v, t, rfl, h1, h2⟩ := hv
    unfold u8sA at h
    split at h
    · rename_i heq; cases heq
    · rename_i n r' heq
      cases heq
      rw [cond_eq_ite] at h
      split at h
      · rename_i hlt
        have hlt' := blt_lt hlt
        rw [Option.map_eq_some_iff] at h
        obtain ⟨bs', h3, rfl⟩ := h
        rw [R_lit] at h1
        rw [u8sA_out h3 h2, h1, List.map_cons]
        congr 1
        have : (n.toUInt8).toNat = n := by simp [Nat.toUInt8, UInt8.toNat_ofNat, Nat.mod_eq_of_lt hlt']
        rw [this]; rfl
      · cases h
    · cases h

def aUnsafeString (P : Program) (pt : TypeId) (x n : AV) (A : AH) : Option (List (AV × AH)) := match x, n with
  | .lit (.pointer none), .lit (.int .i64 (.ofNat 0)) => some [(.lit (.string .empty), A)]
  | .ptr _ _, .lit (.int .i64 (.ofNat 0)) => some [(.lit (.string .empty), A)]
  | .ptr b 0, .lit (.int .i64 (.ofNat (n + 1))) => match A.get b, P.underlying pt with
    | .blk t xs (some 1), some (.pointer e) => bif Nat.beq e t && (Nat.beq (P.cellsOf e) 1 && (Nat.ble (n + 1) xs.length && Nat.ble (n + 1) 1000000)) then match u8sA (xs.take (n + 1)) with
      | some bs => some [(.lit (.string ⟨bs.toArray⟩), A.set b (.rob t xs))]
      | none => none
      else none
    | _, _ => none
  | _, _ => none

theorem freeze_eq {g n : Nat} (o : Nat) {cs : Array Value} {t : TypeId} (hb : w.heap[g]? = some (.cells cs t (0, 0))) : ∃ fr, w.freeze ⟨g, o, none⟩ n = { w with heap := w.heap.setIfInBounds g (.cells cs t fr) } := by
  unfold World.freeze
  split
  · refine ⟨(0, 0), ?_⟩
    have : w.heap.setIfInBounds g (.cells cs t (0, 0)) = w.heap := by
      apply Array.ext_getElem?
      intro i
      rw [Array.getElem?_setIfInBounds]
      split
      · rename_i e; subst e; split
        · exact hb.symm
        · rename_i h1; rw [Array.getElem?_eq_none (by omega)]
      · rfl
    rw [this]
  · refine ⟨(o, o + n), ?_⟩
    congr 1
    apply Array.ext_getElem?
    intro i
    rw [Array.getElem?_modify, Array.getElem?_setIfInBounds]
    have hlt := (Array.getElem?_eq_some_iff.1 hb).1
    split
    · rename_i e
      subst e
      rw [hb]
      simp
    · rfl

theorem h2set (hA : Rel w0 Fr ρ A w) {H : List Hp} (h1 : HL A.n Fr H) (hS : St w0 w H) (h3 : ∀ b l h, ρ[b]? = some l → H[b]? = some h → RO ρ l (A.get b) h) {b : Nat} {l : Loc} (hb : ρ[b]? = some l) {cs : List Value} {t : TypeId} (h4 : H[b]? = some (.cells l.blk cs t)) (fr : Nat × Nat)
    (xs : List AV) (vs tail : List Value) (h5 : RL ρ xs vs) (hcs : cs = vs ++ tail) (h6 : (vs ++ tail).length = l.cap) (h7 : l.cap ≤ maxLen) :
    Rel w0 Fr ρ (A.set b (.rob t xs)) { w with heap := w.heap.setIfInBounds l.blk (.cells cs.toArray t fr) } := by
  have hon : w.heap[l.blk]? = some (.cells cs.toArray t (0, 0)) := hS.at_ b h4
  have hlt : l.blk < w.heap.size := (Array.getElem?_eq_some_iff.1 hon).1
  refine hA.put h1 h3 hb (x := .obj l.blk (.cells cs.toArray t fr)) (hS.setAt b h4 ?_ (by simp [Hp.fp]) (by simp [Hp.fp]) ?_) ⟨vs, tail, fr, h5, by rw [hcs], h6, h7⟩
  · exact ⟨rfl, rfl, rfl, by simp, fun i _ hi => by simp [Hp.fp] at hi; simp [Array.getElem?_setIfInBounds, Ne.symm hi]⟩
  · simp [Hp.on, Array.getElem?_setIfInBounds, hlt]

theorem good_unsafeString {x n : Operand} {pt it : TypeId} (h : aUnsafeString P pt (ev x) (ev n) A = some outs) (hA : Rel w0 Fr ρ A w) (hx : R ρ (ev x) (a.eval x)) (hn : R ρ (ev n) (a.eval n)) : Good P w0 Fr ⟨dst, .call { callee := .builtin .unsafeString, args := #[x, n], argTypes := #[pt, it] }, ty, pos, after, gd⟩ a w ρ outs := by
  unfold aUnsafeString at h
  split at h
  · rename_i hxv hnv
    rw [hxv, R_lit] at hx
    rw [hnv, R_lit] at hn
    cases h
    refine good_value (.string .empty) ?_ hA (by simp)
    have hr := Lib.run_unsafeString_none (P := P) w pt it ty none
    have hn' : a.eval n = .int .i64 0 := hn
    simp only [execOp, resolve, invoke, b_us, List.map_toArray, List.map_cons, List.map_nil, hx, hn', Sem.run_bind, Sem.run_pure, Result.andThen_ok, hr]
  · rename_i b o hxv hnv
    rw [hxv, R_ptr] at hx
    obtain ⟨l, hb, hV⟩ := hx
    rw [hnv, R_lit] at hn
    cases h
    refine good_value (.string .empty) ?_ hA (by simp)
    have hr := Lib.run_unsafeString_none (P := P) w pt it ty (some ⟨l.blk, o, none⟩)
    have hn' : a.eval n = .int .i64 0 := hn
    simp only [execOp, resolve, invoke, b_us, List.map_toArray, List.map_cons, List.map_nil, hV, hn', Sem.run_bind, Sem.run_pure, Result.andThen_ok, hr]
  · rename_i b m hxv hnv
    rw [hxv, R_ptr] at hx
    obtain ⟨l, hb, hV⟩ := hx
    rw [hnv, R_lit] at hn
    split at h
    · rename_i t xs e hg hpt
      rw [cond_eq_ite] at h
      split at h
      · rename_i hc
        simp only [Bool.and_eq_true] at hc
        obtain ⟨c1, c2, c3, c4⟩ := hc
        obtain rfl := Nat.eq_of_beq_eq_true c1
        have c2' := Nat.eq_of_beq_eq_true c2
        have c3' := Nat.le_of_ble_eq_true c3
        have c4' := Nat.le_of_ble_eq_true c4
        split at h
        · rename_i bs hbs
          cases h
          obtain ⟨H, vs, tail, h1, hS, h3, h4, h5, h6, h7⟩ := blk_out hA hb hg
          have hl := h5.length
          have hon : w.heap[l.blk]? = some (.cells (vs ++ tail).toArray e (0, 0)) := hS.at_ b h4
          have htk := u8sA_out hbs (RL.take (m + 1) h5)
          have hbl : bs.length = m + 1 := by
            have := congrArg List.length htk
            simp only [List.length_take, List.length_map] at this
            omega
          have hsh : w.shape? l.blk = some (e, (vs ++ tail).length) := by simp [World.shape?, hon]
          have hcell : ∀ j x, bs[j]? = some x → w.cell? ((⟨l.blk, 0, none⟩ : Addr).add j) = some (.int .u8 x.toNat) := by
            intro j x hj
            have hjl := (List.getElem?_eq_some_iff.1 hj).1
            have h8 : (vs.take (m + 1))[j]? = some (.int .u8 x.toNat) := by rw [htk, List.getElem?_map, hj]; rfl
            rw [List.getElem?_take, if_pos (by omega)] at h8
            rw [Addr.add_lit, Nat.zero_add]
            simp only [World.cell?, hon]
            rw [List.getElem?_toArray, List.getElem?_append_left (by omega)]
            exact h8
          have hne : bs ≠ [] := by intro hz; rw [hz] at hbl; cases hbl
          have hr := Lib.run_unsafeString_row (P := P) w pt it ty e hpt c2' l.blk _ hsh bs hne (by rw [List.length_append]; omega) (by omega) hcell
          obtain ⟨fr, hfr⟩ := freeze_eq (n := bs.length) 0 hon
          rw [hfr] at hr
          have hn' : a.eval n = .int .i64 bs.length := by rw [hn, hbl]; rfl
          have hset := h2set hA h1 hS h3 hb h4 fr
          intro K Q hK
          unfold Oper.wp
          simp only [execOp, resolve, invoke, b_us, List.map_toArray, List.map_cons, List.map_nil, hV, hn', Sem.run_bind, Sem.run_pure, Result.andThen_ok, hr]
          exact hK _ _ ρ _ _ (List.mem_singleton.2 rfl) (List.prefix_refl _) (hset xs vs tail h5 rfl (by rw [Nat.mul_one] at h6; exact h6) h7) (by simp)
        · cases h
      · cases h
    · cases h
  · cases h

def aCopyS (P : Program) (t : TypeId) (d x : AV) (A : AH) : Option (List (AV × AH)) := match P.underlying t, d, x with
  | some (.slice e), .sl b o n _, .lit (.string s) => match sizeP P e, A.get b with
    | some 1, .blk tt xs sz => fN (Nat.min s.size n) fun m => bif Nat.ble (o + m) xs.length then
        some [(.lit (.int .i64 m), A.set b (.blk tt (xs.take o ++ ((s.data.toList.take m).map fun (c : UInt8) => AV.lit (.int .u8 c.toNat)) ++ xs.drop (o + m)) sz))] else none
    | _, _ => none
  | _, _, _ => none

theorem run_copy_str (w : World) (dT sT ty elem : TypeId) (g o dLen dCap : Nat) (s : ByteArray) (cur : Array Value) (t : TypeId) (cs : List Value) (hcs : cs = (s.data.toList.take (Nat.min s.size dLen)).map fun (c : UInt8) => Value.int .u8 c.toNat)
    (hu : P.underlying dT = some (.slice elem)) (hs : (P.info? elem).map (·.size) = some 1) (hg : w.heap[g]? = some (.cells cur t (0, 0))) (hfit : o + Nat.min s.size dLen ≤ cur.size) :
    (Builtin.copy_ #[dT, sT] ty #[.slice (some ⟨g, o, none⟩) dLen dCap, .string s]).run P w =
      .ok (goInt (Nat.min s.size dLen)) (w.setRow g (cur.toList.take o ++ cs ++ cur.toList.drop (o + Nat.min s.size dLen)).toArray) := by
  have hsz : s.data.toList.length = s.size := by rw [Array.length_toList]; rfl
  have hlen : cs.length = Nat.min s.size dLen := by
    rw [hcs, List.length_map, List.length_take, hsz]
    exact Nat.min_eq_left (Nat.min_le_left _ _)
  have hone : ∀ v ∈ cs, v.oneCell' = true := by
    rw [hcs]
    intro v hv
    rw [List.mem_map] at hv
    obtain ⟨c, _, rfl⟩ := hv
    rfl
  have hst := run_storeCells_at P g o t cs 0 cur w hg (by rw [hlen]; simpa using hfit) hone
  have htk : List.take (Nat.min s.size dLen) (List.map (fun b : UInt8 => Value.int IntKind.u8 (b.toNat : Int)) s.data.toList) = cs := by
    rw [hcs, List.map_take]
  rw [hlen] at hst
  simp only [Nat.add_zero] at hst
  cases hq : P.info? elem with
  | none => simp [hq] at hs
  | some i =>
    simp only [Nat.min_def] at htk hst ⊢
    simp [Builtin.copy_, run_underlying hu, Builtin.lenOf, Builtin.firstCells, sizeOf, typeInfo, hq, Nat.min_def]
    rw [htk, hst]
    simp [Result.andThen]

theorem good_copyS {x y : Operand} {t u : TypeId} (h : aCopyS P t (ev x) (ev y) A = some outs) (hA : Rel w0 Fr ρ A w) (hx : R ρ (ev x) (a.eval x)) (hy : R ρ (ev y) (a.eval y)) : Good P w0 Fr ⟨dst, .call { callee := .builtin .copy, args := #[x, y], argTypes := #[t, u] }, ty, pos, after, gd⟩ a w ρ outs := by
  unfold aCopyS at h
  split at h
  · rename_i e b o n c s ht hxv hyv
    rw [hxv, R_sl] at hx
    obtain ⟨l, hb, hV⟩ := hx
    rw [hyv, R_lit] at hy
    split at h
    · rename_i tt xs sz hs hg
      rw [fN_eq, cond_eq_ite] at h
      split at h
      · rename_i hle
        have hle' := Nat.le_of_ble_eq_true hle
        cases h
        obtain ⟨H, vs, tail, h1, hS, h3, h4, h5, h6⟩ := blk_out hA hb hg
        have hl := h5.length
        have hon : w.heap[l.blk]? = some (.cells (vs ++ tail).toArray tt (0, 0)) := hS.at_ b h4
        have hr := run_copy_str (P := P) w t u ty e l.blk o n c s _ tt _ rfl ht hs hon (by simp; omega)
        have hsz : s.data.toList.length = s.size := by rw [Array.length_toList]; rfl
        have hlen : ((s.data.toList.take (Nat.min s.size n)).map fun (c : UInt8) => Value.int .u8 c.toNat).length = Nat.min s.size n := by
          rw [List.length_map, List.length_take, hsz]
          exact Nat.min_eq_left (Nat.min_le_left _ _)
        have hset := hS.setRow b h4 (vs.take o ++ ((s.data.toList.take (Nat.min s.size n)).map fun (c : UInt8) => Value.int .u8 c.toNat) ++ vs.drop (o + Nat.min s.size n) ++ tail)
        have he : (vs ++ tail).toArray.toList.take o ++ ((s.data.toList.take (Nat.min s.size n)).map fun (c : UInt8) => Value.int .u8 c.toNat) ++ (vs ++ tail).toArray.toList.drop (o + Nat.min s.size n) = vs.take o ++ ((s.data.toList.take (Nat.min s.size n)).map fun (c : UInt8) => Value.int .u8 c.toNat) ++ vs.drop (o + Nat.min s.size n) ++ tail := by
          have := splice_app vs tail ((s.data.toList.take (Nat.min s.size n)).map fun (c : UInt8) => Value.int .u8 c.toNat) o (by rw [hlen]; omega)
          rw [hlen] at this
          exact this
        rw [he] at hr
        intro K Q hK
        unfold Oper.wp
        simp only [execOp, resolve, invoke, b_cp, List.map_toArray, List.map_cons, List.map_nil, hV, hy, Sem.run_bind, Sem.run_pure, Result.andThen_ok, hr]
        refine hK _ _ ρ _ _ (List.mem_singleton.2 rfl) (List.prefix_refl _) (hA.put h1 h3 hb hset ⟨_, tail, ?_, rfl, ?_⟩) (by rw [R_lit]; rfl)
        · refine RL.append (RL.append (RL.take o h5) ?_) (RL.drop _ h5)
          have := RL.lits (ρ := ρ) ((s.data.toList.take (Nat.min s.size n)).map fun (c : UInt8) => Value.int .u8 c.toNat)
          rw [List.map_map] at this
          exact this
        · cases sz with
          | none => exact h6
          | some z =>
            refine ⟨?_, h6.2⟩
            rw [← h6.1]
            simp only [List.length_append, List.length_take, List.length_drop, hlen]
            omega
      · cases h
    · cases h
  · cases h

def aEqlP (P : Program) (neg : Bool) (t : TypeId) (x y : AV) (A : AH) : Option (List (AV × AH)) := match P.underlying t, x, y with
  | some (.pointer e), .ptr b o, .ptr b' o' => bif Nat.beq b b' && (Nat.beq o o' && (sizeP P e).isSome) then some [(.lit (.bool (bif neg then false else true)), A)] else none
  | _, _, _ => none

theorem good_eqlP {op : BinOp} (hop : op = .eql ∨ op = .neq) {t : TypeId} {x y : Operand} {u : TypeId} (h : aEqlP P (isNeq op) t (ev x) (ev y) A = some outs) (hA : Rel w0 Fr ρ A w) (hx : R ρ (ev x) (a.eval x)) (hy : R ρ (ev y) (a.eval y)) :
    Good P w0 Fr ⟨dst, .binOp op t x y u, ty, pos, after, gd⟩ a w ρ outs := by
  unfold aEqlP at h
  split at h
  · rename_i e b o b' o' hu h1 h2
    rw [cond_eq_ite] at h
    split at h
    · rename_i hc
      simp only [Bool.and_eq_true] at hc
      obtain ⟨c1, c2, c3⟩ := hc
      obtain rfl := Nat.eq_of_beq_eq_true c1
      obtain rfl := Nat.eq_of_beq_eq_true c2
      obtain ⟨n, hn⟩ := Option.isSome_iff_exists.1 c3
      obtain ⟨j, hj, _⟩ := sizeP_out hn
      rw [h1, R_ptr] at hx; obtain ⟨l, hb, hV⟩ := hx
      rw [h2, R_ptr] at hy; obtain ⟨l', hb', hV'⟩ := hy
      rw [hb] at hb'
      cases hb'
      cases h
      have heq : ∀ d, (Op.equalIn (d + 1) t (.pointer (some ⟨l.blk, o, none⟩)) (.pointer (some ⟨l.blk, o, none⟩))).run P w = .ok true w := fun d => by
        simp [Op.equalIn, run_underlying hu, sizeOf, typeInfo, hj, run_sameAddr_same]
      have := good_eqlV (P := P) (Fr := Fr) (ρ := ρ) (w0 := w0) (a := a) (dst := dst) (ty := ty) (pos := pos) (after := after) (gd := gd) (u := u) hop hV hV' hA (by rcases hop with rfl | rfl <;> rfl) rfl rfl (b := true) (eq_of heq)
      rcases hop with rfl | rfl <;> exact this
    · cases h
  · cases h

/-- A function without a body that gives back what it is handed. -/
def sameFn (P : Program) (f : AV) : Bool := match f with
  | .lit (.func (.func k) ⟨[]⟩ ⟨[]⟩) => match P.funcs[k]? with
    | some fn => fn.body.isNone && (fn.name == "internal/abi.NoEscape" && (Extern.findNext fn).isNone)
    | none => false
  | _ => false

def aSame (P : Program) (f x : AV) (A : AH) : Option (List (AV × AH)) := bif sameFn P f then some [(x, A)] else none

theorem g_none : (Extern.allGenericRows.lookup "internal/abi.NoEscape").isNone = true := by kernel_rfl
theorem t_none : (Extern.allTypedRows.lookup "internal/abi.NoEscape").isNone = true := by kernel_rfl
theorem a_same : Extern.allRows.lookup "internal/abi.NoEscape" = some Extern.AbiNoEscape.same := by kernel_rfl

theorem find_same (fn : Func) (h : fn.name = "internal/abi.NoEscape") : Extern.find fn = some Extern.AbiNoEscape.same := by
  unfold Extern.find
  dsimp only
  rw [h, Option.isNone_iff_eq_none.1 g_none, Option.isNone_iff_eq_none.1 t_none, a_same]
  rfl

theorem good_same {f x : Operand} {ats : Array TypeId} (h : aSame P (ev f) (ev x) A = some outs) (hA : Rel w0 Fr ρ A w) (hf : R ρ (ev f) (a.eval f)) (hx : R ρ (ev x) (a.eval x)) : Good P w0 Fr ⟨dst, .call { callee := .value f, args := #[x], argTypes := ats }, ty, pos, after, gd⟩ a w ρ outs := by
  unfold aSame at h
  rw [cond_eq_ite] at h
  split at h
  · rename_i hs
    cases h
    unfold sameFn at hs
    split at hs
    · rename_i k hfv
      rw [hfv, R_lit] at hf
      split at hs
      · rename_i fn hfn
        simp only [Bool.and_eq_true, beq_iff_eq] at hs
        obtain ⟨c1, c2, c3⟩ := hs
        intro K Q hK
        have hno : ¬ (fn.name == "runtime.NumGoroutine") = true := by rw [c2]; decide
        have hrun : (execOp a.eval ⟨dst, .call { callee := .value f, args := #[x], argTypes := ats }, ty, pos, after, gd⟩).run P w = .ok (.value (a.eval x)) w := by
          simp only [execOp, resolve, hf, Deferred.ofValue, Sem.run_bind, Sem.run_pure, Result.andThen_ok, invoke, callFunc, program, Sem.run, hfn, hno, c1, if_true, if_false, Bool.false_eq_true, mark, Option.isNone_iff_eq_none.1 c3, find_same fn c2]
          have e : ((⟨[]⟩ : Array Value) ++ Array.map a.eval #[x] ++ ⟨[]⟩) = #[a.eval x] := by simp
          rw [e]
          rfl
        unfold Oper.wp
        rw [hrun]
        exact hK _ _ ρ _ _ (List.mem_singleton.2 rfl) (List.prefix_refl _) hA hx
      · cases hs
    · cases hs
  · cases h

theorem tg_none : (Extern.allGenericRows.lookup "internal/reflectlite.TypeOf").isNone = true := by kernel_rfl
theorem tt_none : (Extern.allTypedRows.lookup "internal/reflectlite.TypeOf").isNone = true := by kernel_rfl
theorem t_typeOf : Extern.allRows.lookup "internal/reflectlite.TypeOf" = some Extern.ReflectliteType.typeOf := by kernel_rfl

theorem find_typeOf (fn : Func) (h : fn.name = "internal/reflectlite.TypeOf") : Extern.find fn = some Extern.ReflectliteType.typeOf := by
  unfold Extern.find
  dsimp only
  rw [h, Option.isNone_iff_eq_none.1 tg_none, Option.isNone_iff_eq_none.1 tt_none, t_typeOf]
  rfl

/-- The function that tells a value's type. -/
def typeFn (P : Program) (f : AV) : Bool := match f with
  | .lit (.func (.func k) ⟨[]⟩ ⟨[]⟩) => match P.funcs[k]? with
    | some fn => fn.body.isNone && (fn.name == "internal/reflectlite.TypeOf" && (Extern.findNext fn).isNone)
    | none => false
  | _ => false

def aTypeOf (P : Program) (f x : AV) (A : AH) : Option (List (AV × AH)) := match x with
  | .ifc t _ => bif typeFn P f then (pureRun P (Extern.ReflectliteType.toType t)).map fun v => [(.lit v, A)] else none
  | _ => none

theorem good_typeOf {f x : Operand} {ats : Array TypeId} (h : aTypeOf P (ev f) (ev x) A = some outs) (hA : Rel w0 Fr ρ A w) (hf : R ρ (ev f) (a.eval f)) (hx : R ρ (ev x) (a.eval x)) : Good P w0 Fr ⟨dst, .call { callee := .value f, args := #[x], argTypes := ats }, ty, pos, after, gd⟩ a w ρ outs := by
  unfold aTypeOf at h
  split at h
  · rename_i t y hxv
    rw [hxv, R_ifc] at hx
    obtain ⟨V, hV, hX⟩ := hx
    rw [cond_eq_ite] at h
    split at h
    · rename_i hs
      rw [Option.map_eq_some_iff] at h
      obtain ⟨v, hv, rfl⟩ := h
      have hr := pureRun_run _ hv w
      unfold typeFn at hs
      split at hs
      · rename_i k hfv
        rw [hfv, R_lit] at hf
        split at hs
        · rename_i fn hfn
          simp only [Bool.and_eq_true, beq_iff_eq] at hs
          obtain ⟨c1, c2, c3⟩ := hs
          intro K Q hK
          have hno : ¬ (fn.name == "runtime.NumGoroutine") = true := by rw [c2]; decide
          have hrun : (execOp a.eval ⟨dst, .call { callee := .value f, args := #[x], argTypes := ats }, ty, pos, after, gd⟩).run P w = .ok (.value v) w := by
            simp only [execOp, resolve, hf, Deferred.ofValue, Sem.run_bind, Sem.run_pure, Result.andThen_ok, invoke, callFunc, program, Sem.run, hfn, hno, c1, if_true, if_false, Bool.false_eq_true, mark, Option.isNone_iff_eq_none.1 c3, find_typeOf fn c2]
            have e : ((⟨[]⟩ : Array Value) ++ Array.map a.eval #[x] ++ ⟨[]⟩) = #[.iface t V] := by simp [hX]
            rw [e]
            show ((Extern.ReflectliteType.toType t).run P w).andThen _ = _
            rw [hr]
            rfl
          unfold Oper.wp
          rw [hrun]
          exact hK _ _ ρ _ _ (List.mem_singleton.2 rfl) (List.prefix_refl _) hA (by rw [R_lit])
        · cases hs
      · cases hs
    · cases h
  · cases h

def aEqlI (P : Program) (neg : Bool) (t : TypeId) (x y : AV) (A : AH) : Option (List (AV × AH)) := match P.underlying t, x, y with
  | some (.interface _), .ifc tp (.ptr b o), .ifc tq (.ptr b' o') => match P.underlying tp, (P.info? tp).map (·.comparable) with
    | some (.pointer te), some true => bif Nat.beq tp tq && (Nat.beq b b' && (Nat.beq o o' && (sizeP P te).isSome)) then some [(.lit (.bool (bif neg then false else true)), A)] else none
    | _, _ => none
  | some (.interface _), .ifc tp (.opq i), .ifc tq (.opq j) => match P.underlying tp, (P.info? tp).map (·.comparable) with
    | some (.pointer te), some true => bif Nat.beq tp tq && (Nat.beq i j && (sizeP P te).isSome) then some [(.lit (.bool (bif neg then false else true)), A)] else none
    | _, _ => none
  | some (.interface _), .lit .nilIface, .ifc _ _ => some [(.lit (.bool (bif neg then true else false)), A)]
  | _, _, _ => none

theorem good_eqlI {op : BinOp} (hop : op = .eql ∨ op = .neq) {t : TypeId} {x y : Operand} {u : TypeId} (h : aEqlI P (isNeq op) t (ev x) (ev y) A = some outs) (hA : Rel w0 Fr ρ A w) (hx : R ρ (ev x) (a.eval x)) (hy : R ρ (ev y) (a.eval y)) :
    Good P w0 Fr ⟨dst, .binOp op t x y u, ty, pos, after, gd⟩ a w ρ outs := by
  unfold aEqlI at h
  split at h
  · rename_i ms tp b o tq b' o' hu h1 h2
    split at h
    · rename_i te hp hcomp
      rw [cond_eq_ite] at h
      split at h
      · rename_i hc
        simp only [Bool.and_eq_true] at hc
        obtain ⟨c0, c1, c2, c3⟩ := hc
        obtain rfl := Nat.eq_of_beq_eq_true c0
        obtain rfl := Nat.eq_of_beq_eq_true c1
        obtain rfl := Nat.eq_of_beq_eq_true c2
        obtain ⟨n, hn⟩ := Option.isSome_iff_exists.1 c3
        obtain ⟨j, hj, _⟩ := sizeP_out hn
        rw [Option.map_eq_some_iff] at hcomp
        obtain ⟨i, hi, hic⟩ := hcomp
        rw [h1, R_ifc] at hx; obtain ⟨v1, hx, hX⟩ := hx
        rw [h2, R_ifc] at hy; obtain ⟨v2, hy, hY⟩ := hy
        rw [R_ptr] at hx; obtain ⟨l, hb, hV⟩ := hx
        rw [R_ptr] at hy; obtain ⟨l', hb', hV'⟩ := hy
        rw [hb] at hb'
        cases hb'
        subst hV
        subst hV'
        cases h
        have heq : (Op.equal t (.iface tp (.pointer (some ⟨l.blk, o, none⟩))) (.iface tp (.pointer (some ⟨l.blk, o, none⟩)))).run P w = .ok true w := run_equalIn_iface_ptr_same w 9998 ⟨l.blk, o, none⟩ hu hp hi hic hj
        have := good_eqlV (P := P) (Fr := Fr) (ρ := ρ) (w0 := w0) (a := a) (dst := dst) (ty := ty) (pos := pos) (after := after) (gd := gd) (u := u) hop hX hY hA (by rcases hop with rfl | rfl <;> rfl) rfl rfl (b := true) heq
        rcases hop with rfl | rfl <;> exact this
      · cases h
    · cases h
  · rename_i ms tp k tq k' hu h1 h2
    split at h
    · rename_i te hp hcomp
      rw [cond_eq_ite] at h
      split at h
      · rename_i hc
        simp only [Bool.and_eq_true] at hc
        obtain ⟨c0, c1, c3⟩ := hc
        obtain rfl := Nat.eq_of_beq_eq_true c0
        obtain rfl := Nat.eq_of_beq_eq_true c1
        obtain ⟨n, hn⟩ := Option.isSome_iff_exists.1 c3
        obtain ⟨j, hj, _⟩ := sizeP_out hn
        rw [Option.map_eq_some_iff] at hcomp
        obtain ⟨i, hi, hic⟩ := hcomp
        rw [h1, R_ifc] at hx; obtain ⟨v1, hx, hX⟩ := hx
        rw [h2, R_ifc] at hy; obtain ⟨v2, hy, hY⟩ := hy
        rw [R_opq] at hx; obtain ⟨l, p, hb, hv, hV⟩ := hx
        rw [R_opq] at hy; obtain ⟨l', p', hb', hv', hV'⟩ := hy
        rw [hb] at hb'
        cases hb'
        rw [hv] at hv'
        cases hv'
        subst hV
        subst hV'
        cases h
        have heq : (Op.equal t (.iface tp (.pointer (some p))) (.iface tp (.pointer (some p)))).run P w = .ok true w := run_equalIn_iface_ptr_same w 9998 p hu hp hi hic hj
        have := good_eqlV (P := P) (Fr := Fr) (ρ := ρ) (w0 := w0) (a := a) (dst := dst) (ty := ty) (pos := pos) (after := after) (gd := gd) (u := u) hop hX hY hA (by rcases hop with rfl | rfl <;> rfl) rfl rfl (b := true) heq
        rcases hop with rfl | rfl <;> exact this
      · cases h
    · cases h
  · rename_i ms tp y' hu h1 h2
    rw [h1, R_lit] at hx
    rw [h2, R_ifc] at hy; obtain ⟨v2, hy, hY⟩ := hy
    cases h
    have heq : ∀ d, (Op.equalIn (d + 1) t .nilIface (.iface tp v2)).run P w = .ok false w := fun d => by simp [Op.equalIn, run_underlying hu]
    have := good_eqlV (P := P) (Fr := Fr) (ρ := ρ) (w0 := w0) (a := a) (dst := dst) (ty := ty) (pos := pos) (after := after) (gd := gd) (u := u) hop hx hY hA (by rcases hop with rfl | rfl <;> rfl) rfl rfl (b := false) (eq_of heq)
    rcases hop with rfl | rfl <;> exact this
  · cases h

/-! put together -/
def orE {α : Type} (x y : Option α) : Option α := match x with | some o => some o | none => y
theorem orE_out {α : Type} {x y : Option α} {o : α} (h : orE x y = some o) : x = some o ∨ y = some o := by
  unfold orE at h
  split at h
  · exact .inl h
  · exact .inr h

def aConv2 (P : Program) (src dst : TypeId) (x : AV) (A : AH) : Option (List (AV × AH)) := orE (aConv P src dst x A) (aUnsafe P src dst x A)

theorem good_conv2 {t u : TypeId} {x : Operand} (h : aConv2 P t u (ev x) A = some outs) (hA : Rel w0 Fr ρ A w) (hx : R ρ (ev x) (a.eval x)) : Good P w0 Fr ⟨dst, .convert t u x, ty, pos, after, gd⟩ a w ρ outs := by
  rcases orE_out h with h | h
  · exact good_conv h hA hx
  · exact good_unsafe h hA hx

def aEql2 (P : Program) (neg : Bool) (t : TypeId) (x y : AV) (A : AH) : Option (List (AV × AH)) := orE (aEql P neg t x y A) (orE (aEqlP P neg t x y A) (aEqlI P neg t x y A))

theorem good_eql2 {op : BinOp} (hop : op = .eql ∨ op = .neq) {t : TypeId} {x y : Operand} {u : TypeId} (h : aEql2 P (isNeq op) t (ev x) (ev y) A = some outs) (hA : Rel w0 Fr ρ A w) (hx : R ρ (ev x) (a.eval x)) (hy : R ρ (ev y) (a.eval y)) :
    Good P w0 Fr ⟨dst, .binOp op t x y u, ty, pos, after, gd⟩ a w ρ outs := by
  rcases orE_out h with h | h
  · exact good_eql hop h hA hx hy
  · rcases orE_out h with h | h
    · exact good_eqlP hop h hA hx hy
    · exact good_eqlI hop h hA hx hy

def aSame1 (P : Program) (f : AV) (l : List AV) (A : AH) : Option (List (AV × AH)) := match l with
  | [x] => orE (aSame P f x A) (aTypeOf P f x A)
  | _ => none

theorem good_same1 {f : Operand} {args : Array Operand} {ats : Array TypeId} (h : aSame1 P (ev f) (args.toList.map ev) A = some outs) (hA : Rel w0 Fr ρ A w) (he : ∀ x, R ρ (ev x) (a.eval x)) : Good P w0 Fr ⟨dst, .call { callee := .value f, args := args, argTypes := ats }, ty, pos, after, gd⟩ a w ρ outs := by
  unfold aSame1 at h
  split at h
  · rename_i x hl
    obtain ⟨l⟩ := args
    rcases l with _ | ⟨y, _ | ⟨z, r⟩⟩
    · simp at hl
    · simp only [List.map_cons, List.map_nil, List.cons.injEq, and_true] at hl
      subst hl
      rcases orE_out h with h | h
      · exact good_same h hA (he _) (he _)
      · exact good_typeOf h hA (he _) (he _)
    · simp at hl
  · cases h
end
end Go.Proofs.YtkfalpmimdcneaaGreatDoor
