/-
  copy at a block that is known whole; append of zeros that makes a new block; slices.overlaps at two blocks.
-/
import Derived.Test.YtelbpnlpmaihhaaSlMore
import Derived.Lib.Overlaps
import Derived.Lib.AppendZeros
namespace Go.Proofs.Ytelbpnlpmaihhaa
set_option linter.unusedVariables false
set_option linter.unusedSimpArgs false

section
variable {P : Program} {ops : Array Oper} {rest : List Oper} {Q : Exit → Act → World → Prop} {dst : Option Tmp} {ty : TypeId} {pos : String} {after : Array Edge} {gd : Option (Nat × Bool)} {a : Act} {w0 w : World} {H : List Hp} {K : Act → World → Prop}

theorem opA_copy {t u e : TypeId} {x y : Operand} (hS : St w0 w H) (i : Nat) {g j dl dc sl sc n size : Nat} {ad : Addr} {cur cs : List Value} {tt : TypeId} (hx : a.eval x = .slice (some ⟨g, j, none⟩) dl dc) (hi : H[i]? = some (.cells g cur tt)) (hy : a.eval y = .slice (some ad) sl sc) (ht : P.underlying t = some (.slice e))
    (hn : sizeIs P e size = true) (hm : Nat.min sl dl = n) (hl : cs.length = n * size) (hsrc : ∀ q v, cs[q]? = some v → w.cell? (ad.add q) = some v) (h1 : ∀ v ∈ cs, v.oneCell' = true) (hfit : j + cs.length ≤ cur.length)
    (hK : ∀ w', St w0 w' (H.set i (.cells g (cur.take j ++ cs ++ cur.drop (j + cs.length)) tt)) → K (a.put dst (.int .i64 n)) w') : Oper.wp P ⟨dst, .call { callee := .builtin .copy, args := #[x, y], argTypes := #[t, u] }, ty, pos, after, gd⟩ a w K Q := by
  have hb : w.heap[g]? = some (.cells cur.toArray tt (0, 0)) := hS.at_ i hi
  have hn' := sizeIs_out hn
  have hst := run_storeCells_at P g j tt cs 0 cur.toArray w hb (by simpa using hfit) h1
  simp only [Nat.add_zero] at hst
  have hS' := hS.setRow i hi (cur.take j ++ cs ++ cur.drop (j + cs.length))
  have hfc := run_firstCells_some (P := P) w size n ad sl sc cs hl hsrc
  cases hq : P.info? e with
  | none => simp [hq] at hn'
  | some q =>
    have hqs : q.size = size := by simpa [hq] using hn'
    unfold Oper.wp
    simp [execOp, resolve, invoke, builtin, hx, hy, Builtin.copy_, run_underlying ht, Builtin.lenOf, hm, sizeOf, typeInfo, hq, hqs, hfc, hst, Result.andThen, goInt]
    have h2 := hK _ hS'
    simp at h2
    exact h2

theorem wpA_copy {t u e : TypeId} {x y : Operand} (hS : St w0 w H) (i : Nat) {g j dl dc sl sc n size : Nat} {ad : Addr} {cur cs : List Value} {tt : TypeId} (hx : a.eval x = .slice (some ⟨g, j, none⟩) dl dc) (hi : H[i]? = some (.cells g cur tt)) (hy : a.eval y = .slice (some ad) sl sc) (ht : P.underlying t = some (.slice e))
    (hn : sizeIs P e size = true) (hm : Nat.min sl dl = n) (hl : cs.length = n * size) (hsrc : ∀ q v, cs[q]? = some v → w.cell? (ad.add q) = some v) (h1 : ∀ v ∈ cs, v.oneCell' = true) (hfit : j + cs.length ≤ cur.length)
    (hK : ∀ w', St w0 w' (H.set i (.cells g (cur.take j ++ cs ++ cur.drop (j + cs.length)) tt)) → wpList P ops Q rest (a.put dst (.int .i64 n)) w') : wpList P ops Q (⟨dst, .call { callee := .builtin .copy, args := #[x, y], argTypes := #[t, u] }, ty, pos, after, none⟩ :: rest) a w :=
  wpList_plain rfl fun _ h => opA_copy hS i hx hi hy ht hn hm hl hsrc h1 hfit (fun w' h_ => h _ _ (hK w' h_))

/-- 'append(s[:n], make([]T, m)...)' where there is no room: a new block. -/
theorem wpA_appendZ {t u e : TypeId} {x y : Operand} {k kn : IntKind} (hS : St w0 w H) {ao : Option Addr} {n cap m : Nat} {old : List Value} {z : Value} {size bytes : Nat} (hx : a.eval x = .slice ao n cap) (hy : a.eval y = .int k m) (ht : P.underlying t = some (.slice e)) (hu : P.underlying u = some (.int kn))
    (hinfo : (P.info? e).map (fun i => (i.zero, i.size, i.bytes)) = some (some z, size, bytes)) (hzs : z.cells.size = size) (h0 : 0 < size) (hno : ¬ n + m ≤ cap) (hm0 : 0 < m) (h63 : n + m ≤ maxLen) (hbytes : (n + m) * bytes ≤ 140737488355328) (hl : old.length = n * size)
    (hold : ∀ w' : World, w'.heap = w.heap → (Builtin.firstCells size n (.slice ao n cap)).run P w' = .ok old.toArray w')
    (hK : ∀ g cap' cur w', n + m ≤ cap' → cap' ≤ maxLen → cur.length = cap' * size → cur.take (n * size) = old → St w0 w' (.cells g cur e :: H) → wpList P ops Q rest (a.put dst (.slice (some ⟨g, 0, none⟩) (n + m) cap')) w') :
    wpList P ops Q (⟨dst, .call { callee := .builtin .append, args := #[x, y], argTypes := #[t, u] }, ty, pos, after, none⟩ :: rest) a w := by
  refine wpList_plain rfl fun K hK' => ?_
  obtain ⟨i, i1, i2, i3, i4⟩ := info_parts hinfo
  subst i3
  subst i4
  have hmz : m * i.size ≠ 0 := by
    have : 0 < m * i.size := Nat.mul_pos hm0 h0
    omega
  have hsmall : ¬ (9223372036854775807 < ((n : Int) + (m : Int))) := by simp only [maxLen] at h63; omega
  have h48 : ¬ (281474976710656 < Builtin.nextslicecap (n + m) cap * i.bytes) := by have := growslice_fits (need := n + m) (old := cap) (by omega) hbytes; omega
  have hge := grownCap_ge w (n + m) cap e
  have hcm : grownCap w (n + m) cap e ≤ maxLen := grownCap_le_maxLen w (n + m) cap e h63
  have hw : IntKind.i64.wrap (m : Int) = m := by rw [IntKind.wrap_i64]; simp only [maxLen] at h63; omega
  have h48i : ¬ (281474976710656 < (m : Int) * (i.bytes : Int)) := by
    rw [← Int.natCast_mul]
    have : m * i.bytes ≤ (n + m) * i.bytes := Nat.mul_le_mul_right _ (by omega)
    omega
  have e1 := hold w.drew rfl
  have hq : ∀ (b : Nat) (w' : World), (askRoom b).run P w' = .ok () w' := fun b w' => by unfold askRoom; split <;> simp [mark, Sem.run]
  have hneg : ¬ ((m : Int) < 0) := by omega
  have hS' := hS.drew.alloc (old.toArray ++ (Builtin.zeroCells z.cells m ++ Builtin.zeroCells z.cells (grownCap w (n + m) cap e - (n + m)))).toList e
  rw [Array.toArray_toList] at hS'
  have hfin := hK w.drew.heap.size (grownCap w (n + m) cap e) _ _ hge hcm (by
    simp only [Array.length_toList, Array.size_append, List.size_toArray, size_zeroCells, hzs, hl, ← Nat.add_mul]
    congr 1; omega) (by rw [Array.toList_append, ← hl]; exact List.take_left) hS'
  unfold Oper.wp
  have hmz' : ¬ (m = 0 ∨ i.size = 0) := by omega
  have hq' := hq
  simp [execOp, resolve, invoke, builtin, hx, hy, Builtin.append_, run_underlying ht, run_underlying hu, sizeOf, typeInfo, i1, asInt, asIntOf, hw, h48i, hno, hsmall, h48, hq, zeroValue, i2, newRow, newObj, Sem.run, Result.andThen, Question.forced, e1, grownCap, hmz', hmz, hneg]
  have h3 := hK' _ _ hfin
  simp only [grownCap] at h3
  exact h3

theorem wpA_ext {f : FuncId} {xs : Array Operand} {ts : Array TypeId} {args : Array Value} {v : Value} (hx : xs.map a.eval = args) (hov : (callFunc f args).run P w = .ok (.value v) w)
    (hK : wpList P ops Q rest (a.put dst v) w) : wpList P ops Q (⟨dst, .call { callee := .value (.func f), args := xs, argTypes := ts }, ty, pos, after, none⟩ :: rest) a w := by
  refine wpList_plain rfl fun K hK' => ?_
  have h := hK' _ _ hK
  unfold Oper.wp
  subst hx
  simp [execOp, resolve, invoke, Act.eval, Deferred.ofValue] at hov ⊢
  simp [hov, Oper.upon, Result.andThen]
  exact h

theorem shape_cells {w : World} {g : Nat} {cur : Array Value} {t : TypeId} (h : w.heap[g]? = some (.cells cur t (0, 0))) : ∃ k, w.shape? g = some (t, k) ∧ k = cur.size := by
  refine ⟨cur.size, ?_, rfl⟩
  simp [World.shape?, h]
end

/-- Insertion in place. -/
theorem ins_room {cur xs x : List Value} {I N k : Nat} (hl : N + k ≤ cur.length) (hx : cur.take N = xs) (hxl : x.length = k) (hi : I + k ≤ N) {cur1 cur2 : List Value}
    (h1 : cur1 = cur.take (I + k) ++ xs.drop I ++ cur.drop (I + k + (xs.drop I).length)) (h2 : cur2 = cur1.take I ++ x ++ cur1.drop (I + x.length)) :
    cur2.take (N + k) = xs.take I ++ x ++ xs.drop I ∧ cur2.length = cur.length ∧ cur1.length = cur.length := by
  have hxs : xs.length = N := by rw [← hx, List.length_take]; omega
  obtain ⟨r, rfl⟩ : ∃ r, cur = xs ++ r := ⟨cur.drop N, by rw [← hx, List.take_append_drop]⟩
  have hr : k ≤ r.length := by simp only [List.length_append] at hl; omega
  have hs : (xs.drop I).length = N - I := by rw [List.length_drop]; omega
  have ht : (xs.take I).length = I := by rw [List.length_take]; omega
  have e1 : cur1 = xs.take (I + k) ++ xs.drop I ++ r.drop k := by
    rw [h1, hs, List.take_append_of_le_length (by omega), List.drop_append, List.drop_eq_nil_of_le (show xs.length ≤ I + k + (N - I) by omega), List.nil_append, show I + k + (N - I) - xs.length = k by omega]
  have e2 : cur2 = xs.take I ++ x ++ (xs.drop I ++ r.drop k) := by
    rw [h2, e1, hxl]
    congr 1
    · congr 1
      rw [List.append_assoc, List.take_append_of_le_length (by rw [List.length_take]; omega), List.take_take, Nat.min_eq_left (by omega)]
    · rw [List.append_assoc, List.drop_append, List.drop_eq_nil_of_le (by rw [List.length_take]; omega), List.nil_append, List.length_take, Nat.min_eq_left (by omega), Nat.sub_self, List.drop_zero]
  refine ⟨?_, ?_, ?_⟩
  · rw [e2, ← List.append_assoc, List.take_append_of_le_length (by simp only [List.length_append, ht, hs]; omega), List.take_of_length_le (by simp only [List.length_append, ht, hs]; omega)]
  · rw [e2]; simp only [List.length_append, ht, hs, List.length_drop, hxl]; omega
  · rw [e1]; simp only [List.length_append, hs, List.length_drop, List.length_take]; omega

/-- Insertion into a new block. -/
theorem ins_grow {cur xs x : List Value} {I N k : Nat} (hl : N + k ≤ cur.length) (hx : cur.take I = xs.take I) (hxs : xs.length = N) (hxl : x.length = k) (hi : I + k ≤ N) {cur1 cur2 : List Value}
    (h1 : cur1 = cur.take I ++ x ++ cur.drop (I + x.length)) (h2 : cur2 = cur1.take (I + k) ++ xs.drop I ++ cur1.drop (I + k + (xs.drop I).length)) :
    cur2.take (N + k) = xs.take I ++ x ++ xs.drop I ∧ cur2.length = cur.length ∧ cur1.length = cur.length := by
  have hs : (xs.drop I).length = N - I := by rw [List.length_drop]; omega
  have ht : (xs.take I).length = I := by rw [List.length_take]; omega
  have l1 : cur1.length = cur.length := by rw [h1]; simp only [List.length_append, List.length_take, List.length_drop, hxl]; omega
  have e1 : cur1.take (I + k) = xs.take I ++ x := by
    rw [h1, hx, List.take_append_of_le_length (by simp only [List.length_append, ht, hxl]; omega), List.take_of_length_le (by simp only [List.length_append, ht, hxl]; omega)]
  refine ⟨?_, ?_, l1⟩
  · rw [h2, e1, List.take_append_of_le_length (by simp only [List.length_append, ht, hs]; omega), List.take_of_length_le (by simp only [List.length_append, ht, hs]; omega)]
  · rw [h2]; simp only [List.length_append, List.length_take, List.length_drop, l1, hs]; omega
end Go.Proofs.Ytelbpnlpmaihhaa
