/-
  The evaluator's append, copy, and bytes as a string.
-/
import Derived.Test.YtkfalpmimdcneaaGreatDoorEv4
namespace Go.Proofs.YtkfalpmimdcneaaGreatDoor
set_option linter.unusedVariables false
set_option linter.unusedSimpArgs false

section
variable {P : Program} {w0 w : World} {Fr : List Hp} {ρ : List Loc} {A : AH} {a : Act} {ev : Operand → AV} {outs : List (AV × AH)}
  {dst : Option Tmp} {ty : TypeId} {pos : String} {after : Array Edge} {gd : Option (Nat × Bool)}

/-- The cells of a slice or a string: how many elements, and what they are. -/
def aSrc (s : Nat) (x : AV) (A : AH) : Option (Nat × List AV) := match x with
  | .lit (.slice none 0 _) => some (0, [])
  | .lit (.string str) => bif Nat.beq s 1 then some (str.size, (Lib.strCells str).map .lit) else none
  | .ez _ => some (0, [])
  | .sl b o n _ => match A.get b with
    | .blk _ xs _ =>
      let l := (xs.drop o).take (n * s)
      bif Nat.ble (o + n * s) xs.length && l.all oneA then some (n, l) else none
    | _ => none
  | .rs b oe oc n => match A.get b with
    | .blk _ xs (some s') =>
      let l := (xs.drop oc).take (n * s)
      bif Nat.ble (oc + n * s) xs.length && (l.all oneA && (Nat.beq s s' && (Nat.blt 0 s && Nat.ble ((oe + n) * s) xs.length))) then some (n, l) else none
    | _ => none
  | _ => none

theorem src_block {g o n c s : Nat} {vs tail : List Value} {t : TypeId} {H : List Hp} {b : Nat} (hS : St w0 w H) (hi : H[b]? = some (.cells g (vs ++ tail) t)) (hl : o + n * s ≤ vs.length) (h1 : ∀ u ∈ (vs.drop o).take (n * s), u.oneCell' = true) :
    Src P w s (.slice (some ⟨g, o, none⟩) n c) n ((vs.drop o).take (n * s)) := by
  refine Src.slice (by rw [List.length_take, List.length_drop]; omega) (fun j u hj => ?_) h1
  rw [addr_add]
  refine hS.cell b hi (o + j) ?_
  rw [List.getElem?_take] at hj
  split at hj
  · rw [List.getElem?_drop] at hj
    rw [List.getElem?_append_left (List.getElem?_eq_some_iff.1 hj).1]
    exact hj
  · cases hj

theorem aSrc_src {s : Nat} {x : AV} {V : Value} {m : Nat} {news : List AV} (h : aSrc s x A = some (m, news)) (hA : Rel w0 Fr ρ A w) (hx : R ρ x V) : ∃ ns, RL ρ news ns ∧ Src P w s V m ns := by
  unfold aSrc at h
  split at h
  · rw [R_lit] at hx; subst hx
    cases h
    exact ⟨[], by simp, Src.nil s _⟩
  · rw [R_lit] at hx; subst hx
    rw [cond_eq_ite] at h
    split at h
    · rename_i hb
      obtain rfl := Nat.eq_of_beq_eq_true hb
      cases h
      exact ⟨_, RL.lits _, Src.string _⟩
    · cases h
  · rw [R_ez] at hx; obtain ⟨l, o', hb, rfl⟩ := hx
    cases h
    exact ⟨[], by simp, Src.slice (by simp) (by simp) (by simp)⟩
  · rename_i b o n c
    rw [R_sl] at hx; obtain ⟨l, hb, rfl⟩ := hx
    split at h
    · rename_i t xs sz hg
      simp only [cond_eq_ite] at h
      split at h
      · rename_i hc
        simp only [Bool.and_eq_true] at hc
        cases h
        obtain ⟨H, vs, tail, h1, hS, h3, h4, h5, h6⟩ := blk_out hA hb hg
        have hn := RL.take (m * s) (RL.drop o h5)
        refine ⟨_, hn, src_block hS h4 (by have := Nat.le_of_ble_eq_true hc.1; rw [h5.length]; exact this) (RL_one hn hc.2)⟩
      · cases h
    · cases h
  · rename_i b oe oc n
    rw [R_rs] at hx; obtain ⟨l, o', hb, ho, rfl⟩ := hx
    split at h
    · rename_i t xs s' hg
      simp only [cond_eq_ite] at h
      split at h
      · rename_i hc
        simp only [Bool.and_eq_true] at hc
        obtain ⟨c1, c2, c3, c4, c5⟩ := hc
        obtain rfl := Nat.eq_of_beq_eq_true c3
        cases h
        have hcap := rs_cap hA hb hg (blt_lt c4) (Nat.le_of_ble_eq_true c5)
        obtain ⟨H, vs, tail, h1, hS, h3, h4, h5, h6⟩ := blk_out hA hb hg
        have hn := RL.take (m * s) (RL.drop oc h5)
        refine ⟨_, hn, ?_⟩
        by_cases hz : m = 0
        · subst hz
          simp only [Nat.zero_mul, List.take_zero]
          exact Src.slice (by simp) (by simp) (by simp)
        · have eo := ho (by omega)
          rw [eo]
          exact src_block hS h4 (by have := Nat.le_of_ble_eq_true c1; rw [h5.length]; exact this) (RL_one hn c2)
      · cases h
    · cases h
  · cases h

section
variable {t u e : TypeId} {i : TypeInfo} {z : Value} {n cap m : Nat} {base : Option Addr} {x : Value} {news : List Value}

/-- append of nothing. -/
theorem run_append_zero (ht : P.underlying t = some (.slice e)) (hu : P.underlying u = some .string ∨ P.underlying u = some (.slice e)) (hi : P.info? e = some i) (hx : Src P w i.size x 0 news) (hc : n ≤ cap) :
    (Builtin.append_ #[t, u] ty #[.slice base n cap, x]).run P w = .ok (.slice base n cap) w := by
  have hn : news = [] := List.eq_nil_of_length_eq_zero (by simpa using hx.length)
  subst hn
  rcases hu with hu | hu <;> cases base <;> simp [Builtin.append_, run_underlying ht, run_underlying hu, sizeOf, typeInfo, hi, hx.len, hc, hx.cells w rfl, storeCells, Result.andThen]

/-- append with room. -/
theorem run_append_room (ht : P.underlying t = some (.slice e)) (hu : P.underlying u = some .string ∨ P.underlying u = some (.slice e)) (hi : P.info? e = some i) (hx : Src P w i.size x m news) (hc : n + m ≤ cap)
    {g o : Nat} {cur : Array Value} {tt : TypeId} (hg : w.heap[g]? = some (.cells cur tt (0, 0))) (hfit : o + n * i.size + news.length ≤ cur.size) :
    (Builtin.append_ #[t, u] ty #[.slice (some ⟨g, o, none⟩) n cap, x]).run P w = .ok (.slice (some ⟨g, o, none⟩) (n + m) cap) (w.setRow g (cur.toList.take (o + n * i.size) ++ news ++ cur.toList.drop (o + n * i.size + news.length)).toArray) := by
  have hst := run_storeCells_at P g (o + n * i.size) tt news 0 cur w hg (by simpa using hfit) hx.one
  simp only [Nat.add_zero] at hst
  rcases hu with hu | hu <;> simp [Builtin.append_, run_underlying ht, run_underlying hu, sizeOf, typeInfo, hi, hx.len, hc, hx.cells w rfl, addr_add, hst, Result.andThen]

/-- append without room. -/
theorem run_append_grow (ht : P.underlying t = some (.slice e)) (hu : P.underlying u = some .string ∨ P.underlying u = some (.slice e)) (hi : P.info? e = some i) (hz : i.zero = some z) (hzs : z.cells.size = i.size) (hx : Src P w i.size x m news) (hno : ¬ n + m ≤ cap)
    {old : List Value} (hl : old.length = n * i.size) (hold : ∀ w' : World, w'.heap = w.heap → (Builtin.firstCells i.size n (.slice base n cap)).run P w' = .ok old.toArray w') (h63 : n + m ≤ maxLen) (hbytes : (n + m) * i.bytes ≤ 140737488355328) :
    ∃ c w' tail, (Builtin.append_ #[t, u] ty #[.slice base n cap, x]).run P w = .ok (.slice (some ⟨w.heap.size, 0, none⟩) (n + m) c) w' ∧ w' = w.drew.alloc (.cells (old ++ news ++ tail).toArray e) ∧ (old ++ news ++ tail).length = c * i.size ∧ c ≤ maxLen := by
  have hsmall : ¬ (9223372036854775807 < ((n : Int) + (m : Int))) := by simp only [maxLen] at h63; omega
  have h48 : ¬ (281474976710656 < Builtin.nextslicecap (n + m) cap * i.bytes) := by have := growslice_fits (need := n + m) (old := cap) (by omega) hbytes; omega
  have hge := grownCap_ge w (n + m) cap e
  have hcm : grownCap w (n + m) cap e ≤ maxLen := grownCap_le_maxLen w (n + m) cap e h63
  have e1 := hold w.drew rfl
  have e2 := hx.cells w.drew rfl
  refine ⟨grownCap w (n + m) cap e, _, (Builtin.zeroCells z.cells (grownCap w (n + m) cap e - (n + m))).toList, ?_, rfl, ?_, hcm⟩
  · have hq : ∀ (b : Nat) (w' : World), (askRoom b).run P w' = .ok () w' := fun b w' => by unfold askRoom; split <;> simp [mark, Sem.run]
    rcases hu with hu | hu <;> simp [Builtin.append_, run_underlying ht, run_underlying hu, sizeOf, typeInfo, hi, hx.len, hno, hsmall, h48, hq, zeroValue, hz, newRow, newObj, Sem.run, Result.andThen, Question.forced, e1, e2, grownCap, ← List.append_toArray] <;> rfl
  · simp only [List.length_append, Array.length_toList, size_zeroCells, hzs, hl, hx.length, ← Nat.add_mul]
    congr 1
    omega
end

theorem Rel.move (hA : Rel w0 Fr ρ A w) {H : List Hp} (h1 : HL A.n Fr H) (hS0 : St w0 w H) (h3 : ∀ b l h, ρ[b]? = some l → H[b]? = some h → RO ρ l (A.get b) h) {b : Nat} {lb : Loc} (hb : ρ[b]? = some lb) {w' : World} {x : Hp} {l : Loc} {o : AO} (hS : St w0 w' (H.set b x)) (ho : RO (ρ ++ [l]) l o x) :
    Rel w0 Fr (ρ ++ [l]) ((A.set b .dead).push o) w' := by
  have hlt : b < H.length := Nat.lt_of_lt_of_le (hA.lt hb) h1.le
  have hg := List.getElem?_eq_getElem hlt
  have e0 : H.set b H[b] = H := List.set_getElem_self hlt
  have hA2 : Rel w0 Fr ρ (A.set b .dead) w := hA.put h1 h3 hb (x := H[b]) (by rw [e0]; exact hS0) trivial
  have hS2 := hS.nilRow 0 0
  have hp : (Hp.row 0 0 none 0 0 [] :: H.set b x).Perm (x :: H.set b (.row 0 0 none 0 0 [])) :=
    ((perm_set H b _ x hg).symm.cons _).trans ((List.Perm.swap _ _ _).trans ((perm_set H b _ _ hg).cons _))
  have hS3 := hS2.perm hp
  refine hA2.push (h1.set (hA.lt hb) _) (fun c m y hc hy => ?_) hS3 ho
  rw [AH.get_set]
  by_cases e : c = b
  · rw [if_pos e]; trivial
  · rw [if_neg e]
    rw [List.getElem?_set_ne (Ne.symm e)] at hy
    exact h3 c m y hc hy

def uOk (P : Program) (u e : TypeId) : Bool := match P.underlying u with
  | some .string => true
  | some (.slice e') => Nat.beq e' e
  | _ => false
theorem uOk_out {u e : TypeId} (h : uOk P u e = true) : P.underlying u = some .string ∨ P.underlying u = some (.slice e) := by
  unfold uOk at h
  split at h
  · exact .inl (by assumption)
  · rename_i e' hu
    obtain rfl := Nat.eq_of_beq_eq_true h
    exact .inr hu
  · cases h

def aAppend (P : Program) (t u : TypeId) (s x : AV) (A : AH) : Option (List (AV × AH)) := match P.underlying t with
  | some (.slice e) => match P.info? e with
    | some i => match i.zero with
      | some z => bif Nat.beq z.cells.size i.size && uOk P u e then match aSrc i.size x A with
        | some (m, news) =>
          let room (n : Nat) : Bool := Nat.ble (n + m) 1000000 && Nat.ble ((n + m) * i.bytes) 140737488355328
          match s with
          | .lit (.slice none 0 c) => bif Nat.beq c 0 then (bif Nat.beq m 0 then some [(s, A)] else bif room 0 then some [(.rs A.n 0 0 m, A.push (.blk e news (some i.size)))] else none) else none
          | .ez b => bif Nat.beq m 0 then some [(s, A)] else bif room 0 then some [(.rs A.n 0 0 m, A.push (.blk e news (some i.size)))] else none
          | .sl b o n c => bif Nat.ble n c then (bif Nat.beq m 0 then some [(s, A)] else match A.get b with
            | .blk tt xs sz => bif Nat.ble (n + m) c then
                (bif Nat.ble (o + n * i.size + news.length) xs.length then some [(.sl b o (n + m) c, A.set b (.blk tt (xs.take (o + n * i.size) ++ news ++ xs.drop (o + n * i.size + news.length)) sz))] else none)
              else bif room n && Nat.ble (o + n * i.size) xs.length then some [(.rs A.n 0 0 (n + m), A.push (.blk e ((xs.drop o).take (n * i.size) ++ news) (some i.size)))] else none
            | _ => none) else none
          | .rs b oe oc n => match A.get b with
            | .blk tt xs (some s') => bif Nat.beq i.size s' && (Nat.blt 0 s' && Nat.ble ((oe + n) * s') xs.length) then
                (bif Nat.beq m 0 then some [(s, A)]
                 else bif Nat.ble ((oe + n + m) * s') xs.length && Nat.ble (oc + n * s' + news.length) xs.length then some [(.rs b oe oc (n + m), A.set b (.blk tt (xs.take (oc + n * s') ++ news ++ xs.drop (oc + n * s' + news.length)) (some s')))]
                 else bif (Nat.blt 0 n && Nat.beq oe 0) && (Nat.beq oc 0 && (Nat.beq (n * s') xs.length && (room n && Nat.beq tt e))) then some [(.rs A.n 0 0 (n + m), (A.set b .dead).push (.blk e (xs ++ news) (some s')))]
                 else none)
              else none
            | _ => none
          | _ => none
        | none => none
      else none
      | none => none
    | none => none
  | _ => none

theorem good_appendV {t u : TypeId} {s x : Operand} {S X : Value} (hs : a.eval s = S) (hx : a.eval x = X) {V : Value} {w' : World} (hr : (Builtin.append_ #[t, u] ty #[S, X]).run P w = .ok V w') {v : AV} {A' : AH} {ρ' : List Loc} (hρ : ρ <+: ρ') (hA : Rel w0 Fr ρ' A' w') (hv : R ρ' v V) :
    Good P w0 Fr ⟨dst, .call { callee := .builtin .append, args := #[s, x], argTypes := #[t, u] }, ty, pos, after, gd⟩ a w ρ [(v, A')] := by
  intro K Q hK
  unfold Oper.wp
  simp only [execOp, resolve, invoke, builtin, List.map_toArray, List.map_cons, List.map_nil, hs, hx, Sem.run_bind, hr, Result.andThen_ok, Sem.run_pure]
  exact hK _ _ ρ' V w' (List.mem_singleton.2 rfl) hρ hA hv

/-- The block that append made. -/
theorem push_grown (hA : Rel w0 Fr ρ A w) {w' : World} {old news tail : List Value} {e : TypeId} {c s : Nat} (hw : w' = w.drew.alloc (.cells (old ++ news ++ tail).toArray e)) (hl : (old ++ news ++ tail).length = c * s) (hc : c ≤ maxLen) {xo xn : List AV} (ho : RL ρ xo old) (hn : RL ρ xn news) :
    Rel w0 Fr (ρ ++ [⟨w.heap.size, c, undef⟩]) (A.push (.blk e (xo ++ xn) (some s))) w' := by
  obtain ⟨H, h1, hS, h3⟩ := hA.ex
  have hS' := hS.drew.alloc (old ++ news ++ tail) e
  rw [← hw] at hS'
  exact hA.push h1 h3 hS' ⟨old ++ news, tail, RL_mono (List.prefix_append _ _) _ (RL.append ho hn), rfl, hl, hc⟩

theorem good_append {t u : TypeId} {s x : Operand} (h : aAppend P t u (ev s) (ev x) A = some outs) (hA : Rel w0 Fr ρ A w) (hs : R ρ (ev s) (a.eval s)) (hx : R ρ (ev x) (a.eval x)) :
    Good P w0 Fr ⟨dst, .call { callee := .builtin .append, args := #[s, x], argTypes := #[t, u] }, ty, pos, after, gd⟩ a w ρ outs := by
  unfold aAppend at h
  split at h
  · rename_i e ht
    split at h
    · rename_i i hi
      split at h
      · rename_i z hz
        rw [cond_eq_ite] at h
        split at h
        · rename_i hb0
          simp only [Bool.and_eq_true] at hb0
          have hzs := Nat.eq_of_beq_eq_true hb0.1
          have hu := uOk_out hb0.2
          clear hb0
          split at h
          · rename_i m news hsrc
            obtain ⟨ns, hns, hSrc⟩ := aSrc_src (P := P) hsrc hA hx
            have hnl := hns.length
            simp only [cond_eq_ite] at h
            have hroom : ∀ n : Nat, (Nat.ble (n + m) 1000000 && Nat.ble ((n + m) * i.bytes) 140737488355328) = true → n + m ≤ maxLen ∧ (n + m) * i.bytes ≤ 140737488355328 := fun n hh => by
              simp only [Bool.and_eq_true] at hh
              have := Nat.le_of_ble_eq_true hh.1
              exact ⟨by unfold maxLen; omega, Nat.le_of_ble_eq_true hh.2⟩
            split at h
            · rename_i c hsv
              split at h
              · rename_i hc0
                obtain rfl := Nat.eq_of_beq_eq_true hc0
                have hs0 := hs
                rw [hsv, R_lit] at hs
                split at h
                · rename_i hm
                  obtain rfl := Nat.eq_of_beq_eq_true hm
                  cases h
                  exact good_appendV hs rfl (run_append_zero ht hu hi hSrc (Nat.le_refl _)) (List.prefix_refl _) hA (by rw [← hs]; exact hs0)
                · rename_i hm
                  split at h
                  · rename_i hro
                    obtain ⟨q1, q2⟩ := hroom 0 hro
                    cases h
                    obtain ⟨c, w', tail, r1, r2, r3, r4⟩ := run_append_grow (P := P) (ty := ty) (base := none) (cap := 0) (old := []) ht hu hi hz hzs hSrc (by have : m ≠ 0 := fun e => hm (by rw [e]; rfl); omega) (by simp) (fun w' _ => by simp [Builtin.firstCells]) q1 q2
                    exact good_appendV hs rfl r1 (List.prefix_append _ _) (push_grown hA r2 r3 r4 (xo := []) (by simp) hns) (by rw [R_rs]; exact ⟨_, 0, hA.last _, fun _ => rfl, by simp⟩)
                  · cases h
              · cases h
            · rename_i b hsv
              have hs0 := hs
              rw [hsv, R_ez] at hs
              obtain ⟨l, o', hb, hV⟩ := hs
              split at h
              · rename_i hm
                obtain rfl := Nat.eq_of_beq_eq_true hm
                cases h
                exact good_appendV hV rfl (run_append_zero ht hu hi hSrc (Nat.le_refl _)) (List.prefix_refl _) hA (by rw [← hV]; exact hs0)
              · rename_i hm
                split at h
                · rename_i hro
                  obtain ⟨q1, q2⟩ := hroom 0 hro
                  cases h
                  obtain ⟨c, w', tail, r1, r2, r3, r4⟩ := run_append_grow (P := P) (ty := ty) (base := some ⟨l.blk, o', none⟩) (cap := 0) (old := []) ht hu hi hz hzs hSrc (by have : m ≠ 0 := fun e => hm (by rw [e]; rfl); omega) (by simp) (fun w' _ => by simp [Builtin.firstCells, loadCells, loadCellsFrom]) q1 q2
                  exact good_appendV hV rfl r1 (List.prefix_append _ _) (push_grown hA r2 r3 r4 (xo := []) (by simp) hns) (by rw [R_rs]; exact ⟨_, 0, hA.last _, fun _ => rfl, by simp⟩)
                · cases h
            · rename_i b o n c hsv
              have hs0 := hs
              rw [hsv, R_sl] at hs
              obtain ⟨l, hb, hV⟩ := hs
              split at h
              · rename_i hnc
                have hnc' := Nat.le_of_ble_eq_true hnc
                split at h
                · rename_i hm
                  obtain rfl := Nat.eq_of_beq_eq_true hm
                  cases h
                  exact good_appendV hV rfl (run_append_zero ht hu hi hSrc hnc') (List.prefix_refl _) hA (by rw [← hV]; exact hs0)
                · split at h
                  · rename_i tt xs sz hg
                    obtain ⟨H, vs, tail, h1, hS, h3, h4, h5, h6⟩ := blk_out hA hb hg
                    have hl := h5.length
                    split at h
                    · rename_i hfit
                      have hfit' := Nat.le_of_ble_eq_true hfit
                      split at h
                      · rename_i hin
                        have hin' := Nat.le_of_ble_eq_true hin
                        cases h
                        have hr := run_append_room (P := P) (ty := ty) ht hu hi hSrc hfit' (o := o) (hS.at_ b h4) (by simp; omega)
                        simp only [List.toList_toArray] at hr
                        rw [splice_app _ _ _ _ (by omega)] at hr
                        have hS' := hS.setRow b h4 (vs.take (o + n * i.size) ++ ns ++ vs.drop (o + n * i.size + ns.length) ++ tail)
                        refine good_appendV hV rfl hr (List.prefix_refl _) (hA.put h1 h3 hb hS' ⟨_, tail, ?_, rfl, ?_⟩) (by rw [R_sl]; exact ⟨l, hb, rfl⟩)
                        · rw [hnl]; exact RL.append (RL.append (RL.take _ h5) hns) (RL.drop _ h5)
                        · cases sz with
                          | none => exact h6
                          | some s =>
                            refine ⟨?_, h6.2⟩
                            rw [← h6.1]
                            simp only [List.length_append, List.length_take, List.length_drop]
                            omega
                      · cases h
                    · rename_i hfit
                      split at h
                      · rename_i hc
                        rw [Bool.and_eq_true] at hc
                        obtain ⟨q1, q2⟩ := hroom n hc.1
                        have hin := Nat.le_of_ble_eq_true hc.2
                        cases h
                        have hold : RL ρ ((xs.drop o).take (n * i.size)) ((vs.drop o).take (n * i.size)) := RL.take _ (RL.drop _ h5)
                        obtain ⟨c', w', tl, r1, r2, r3, r4⟩ := run_append_grow (P := P) (ty := ty) (base := some ⟨l.blk, o, none⟩) (old := (vs.drop o).take (n * i.size)) ht hu hi hz hzs hSrc (fun hh => hfit (Nat.ble_eq_true_of_le hh)) (by rw [List.length_take, List.length_drop]; omega)
                          (fun w' hw' => run_firstCells_some (P := P) w' i.size n ⟨l.blk, o, none⟩ n c _ (by rw [List.length_take, List.length_drop]; omega) (fun j v hj => by
                            rw [addr_add, cell_of_heap hw']
                            rw [List.getElem?_take] at hj
                            split at hj
                            · rw [List.getElem?_drop] at hj
                              exact hS.cell b h4 (o + j) (by rw [List.getElem?_append_left (List.getElem?_eq_some_iff.1 hj).1]; exact hj)
                            · cases hj)) q1 q2
                        exact good_appendV hV rfl r1 (List.prefix_append _ _) (push_grown hA r2 r3 r4 hold hns) (by rw [R_rs]; exact ⟨_, 0, hA.last _, fun _ => rfl, by simp⟩)
                      · cases h
                  · cases h
              · cases h
            · rename_i b oe oc n hsv
              have hs0 := hs
              rw [hsv, R_rs] at hs
              obtain ⟨l, o', hb, ho, hV⟩ := hs
              split at h
              · rename_i tt xs s' hg
                split at h
                · rename_i hc
                  simp only [Bool.and_eq_true] at hc
                  obtain ⟨c1, c2, c3⟩ := hc
                  have c1' := Nat.eq_of_beq_eq_true c1
                  subst c1'
                  have hcap := rs_cap hA hb hg (blt_lt c2) (Nat.le_of_ble_eq_true c3)
                  obtain ⟨H, vs, tail, h1, hS, h3, h4, h5, h6, h7⟩ := blk_out hA hb hg
                  have hl := h5.length
                  split at h
                  · rename_i hm
                    obtain rfl := Nat.eq_of_beq_eq_true hm
                    cases h
                    exact good_appendV hV rfl (run_append_zero ht hu hi hSrc (by omega)) (List.prefix_refl _) hA (by rw [← hV]; exact hs0)
                  · rename_i hm
                    have hm' : m ≠ 0 := fun e => hm (by rw [e]; rfl)
                    split at h
                    · rename_i hin
                      rw [Bool.and_eq_true] at hin
                      have hin' := Nat.le_of_ble_eq_true hin.2
                      have hcap2 := rs_cap hA hb hg (blt_lt c2) (Nat.le_of_ble_eq_true hin.1)
                      have eo := ho (by omega)
                      rw [eo] at hV
                      cases h
                      have hr := run_append_room (P := P) (ty := ty) ht hu hi hSrc (n := n) (cap := l.cap - oe) (by omega) (o := oc) (hS.at_ b h4) (by simp; omega)
                      simp only [List.toList_toArray] at hr
                      rw [splice_app _ _ _ _ (by omega)] at hr
                      have hS' := hS.setRow b h4 (vs.take (oc + n * i.size) ++ ns ++ vs.drop (oc + n * i.size + ns.length) ++ tail)
                      refine good_appendV hV rfl hr (List.prefix_refl _) (hA.put h1 h3 hb hS' ⟨_, tail, ?_, rfl, ?_, h7⟩) (by rw [R_rs]; exact ⟨l, oc, hb, fun _ => rfl, rfl⟩)
                      · rw [hnl]; exact RL.append (RL.append (RL.take _ h5) hns) (RL.drop _ h5)
                      · rw [← h6]
                        simp only [List.length_append, List.length_take, List.length_drop]
                        omega
                    · split at h
                      · rename_i hc
                        rw [Bool.and_eq_true, Bool.and_eq_true (a := Nat.beq oc 0), Bool.and_eq_true (a := Nat.beq (n * i.size) xs.length), Bool.and_eq_true (b := Nat.beq tt e)] at hc
                        obtain ⟨d1, d2, d3, d4, d5⟩ := hc
                        rw [Bool.and_eq_true] at d1
                        have dn := blt_lt d1.1
                        obtain ⟨q1, q2⟩ := hroom n d4
                        have d1' := Nat.eq_of_beq_eq_true d1.2
                        have d2' := Nat.eq_of_beq_eq_true d2
                        have d3' := Nat.eq_of_beq_eq_true d3
                        have d5' := Nat.eq_of_beq_eq_true d5
                        subst d1'; subst d2'; subst d5'
                        cases h
                        simp only [Nat.zero_add, Nat.sub_zero] at hcap ho hV
                        have hrow := hS.cellsRow b h4 (size := i.size) (n := n) (cap := l.cap) (xs := vs) h6 (by rw [d3', ← hl]; exact List.take_left) hcap h7
                        have hlt : b < H.length := (List.getElem?_eq_some_iff.1 h4).1
                        have hVr : a.eval s = .slice (some ⟨l.blk, 0, none⟩) n l.cap := by
                          rw [hV, ho (by omega)]
                        intro K Q hK
                        refine opS_append s x t u rfl hrow b hVr (List.getElem?_set_self hlt) rfl ht hu (z := z) (size := i.size) (bytes := i.bytes) (by rw [hi]; simp [hz]) hzs hSrc q1 q2 (fun ao' cap' w' hS' => ?_)
                        rw [List.set_set] at hS'
                        rcases row_head (hS'.at_ b (List.getElem?_set_self hlt)) with ⟨_, h0, _⟩ | ⟨⟨g', rfl⟩, _⟩
                        · omega
                        · obtain ⟨cur, k1, k2, k3, k4, hS2⟩ := hS'.rowCells b (List.getElem?_set_self hlt)
                          rw [List.set_set] at hS2
                          have hsplit : cur = (vs ++ ns) ++ cur.drop ((n + m) * i.size) := by rw [← k2, List.take_append_drop]
                          refine hK _ _ (ρ ++ [⟨g', cap', undef⟩]) _ w' (List.mem_singleton.2 rfl) (List.prefix_append _ _) (hA.move h1 hS h3 hb hS2 ⟨vs ++ ns, cur.drop ((n + m) * i.size), RL_mono (List.prefix_append _ _) _ (RL.append h5 hns), by rw [← hsplit], by rw [← hsplit]; exact k1, k4⟩) ?_
                          rw [R_rs]
                          exact ⟨_, 0, hA.last _, fun _ => rfl, by simp⟩
                      · cases h
                · cases h
              · cases h
            · cases h
          · cases h
        · cases h
      · cases h
    · cases h
  · cases h
end
end Go.Proofs.YtkfalpmimdcneaaGreatDoor
