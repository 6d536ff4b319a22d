/-
  The walk's laws on slices that are owned, over the heaplet 'row'.
-/
import Derived.Test.YtodojllclghoiaaMaps
import Derived.Lib.AppendStr
namespace Go.Proofs.Ytodojllclghoiaa
set_option linter.unusedVariables false
set_option linter.unusedSimpArgs false

/-- Where a row's value lies: nowhere, or at the head of its block. -/
theorem row_cases {w : World} {e : TypeId} {size : Nat} {ao : Option Addr} {n cap : Nat} {xs : List Value} (h : Hp.on w (.row e size ao n cap xs)) :
    (ao = none ∧ n = 0 ∧ cap = 0 ∧ xs = []) ∨ ∃ g cur, ao = some ⟨g, 0, none⟩ ∧ w.heap[g]? = some (.cells cur e (0, 0)) ∧ n ≤ cap ∧ cap ≤ maxLen ∧ cur.size = cap * size ∧ cur.toList.take (n * size) = xs := by
  rcases h.2 with ⟨hv, hn⟩ | ⟨g, cap', cur, hv, _, hg, h1, h2, h3, h4⟩
  · injection hv with a1 a2 a3
    exact .inl ⟨a1, hn, a3, List.eq_nil_of_length_eq_zero (by rw [h.1, hn]; simp)⟩
  · injection hv with a1 a2 a3
    subst a3
    exact .inr ⟨g, cur, a1, hg, h1, h2, h3, h4⟩

theorem row_length {w : World} {e : TypeId} {size : Nat} {ao : Option Addr} {n cap : Nat} {xs : List Value} (h : Hp.on w (.row e size ao n cap xs)) : xs.length = n * size := h.1

theorem row_mk {w : World} {e : TypeId} {size : Nat} {g n cap : Nat} {cur : Array Value} {xs : List Value} (hg : w.heap[g]? = some (.cells cur e (0, 0))) (h1 : n ≤ cap) (h2 : cap ≤ maxLen) (h3 : cur.size = cap * size) (h4 : cur.toList.take (n * size) = xs) :
    Hp.on w (.row e size (some ⟨g, 0, none⟩) n cap xs) := by
  refine ⟨?_, .inr ⟨g, cap, cur, rfl, Nat.zero_le _, hg, h1, h2, h3, h4⟩⟩
  rw [← h4, List.length_take, Array.length_toList, h3]
  exact Nat.min_eq_left (Nat.mul_le_mul_right _ h1)

theorem row_nil (w : World) (e : TypeId) (size : Nat) : Hp.on w (.row e size none 0 0 []) := World.ownsRow_nil w 0 e size

theorem row_cell {w : World} {e : TypeId} {size : Nat} {g n cap : Nat} {xs : List Value} (h : Hp.on w (.row e size (some ⟨g, 0, none⟩) n cap xs)) (j : Nat) {v : Value} (hj : xs[j]? = some v) : w.cell? ⟨g, j, none⟩ = some v := by
  rcases row_cases h with ⟨h1, _⟩ | ⟨g', cur, h1, hg, _, _, _, h4⟩
  · cases h1
  · injection h1 with h1; injection h1 with h1; subst h1
    rw [cell_of_row w g j cur e (0, 0) hg]
    rw [← h4, List.getElem?_take] at hj
    split at hj
    · simpa using hj
    · cases hj

section
variable {P : Program} {w : World}

/-- What stands to be appended: m elements, the cells 'news'. -/
structure Src (P : Program) (w : World) (size : Nat) (x : Value) (m : Nat) (news : List Value) : Prop where
  len : ∀ w', (Builtin.lenOf x).run P w' = .ok m w'
  cells : ∀ w' : World, w'.heap = w.heap → (Builtin.firstCells size m x).run P w' = .ok news.toArray w'
  length : news.length = m * size
  one : ∀ u ∈ news, u.oneCell' = true

theorem cell_of_heap {w w' : World} (h : w'.heap = w.heap) (a : Addr) : w'.cell? a = w.cell? a := by simp [World.cell?, h]

theorem Src.slice {size : Nat} {ad : Addr} {m c : Nat} {news : List Value} (hl : news.length = m * size) (hc : ∀ j u, news[j]? = some u → w.cell? (ad.add j) = some u) (h1 : ∀ u ∈ news, u.oneCell' = true) : Src P w size (.slice (some ad) m c) m news :=
  ⟨fun _ => rfl, fun w' hw => run_firstCells_some (P := P) w' size m ad m c news hl (fun j u hj => (cell_of_heap hw _).trans (hc j u hj)), hl, h1⟩

theorem Src.nil (size : Nat) (c : Nat) : Src P w size (.slice none 0 c) 0 [] :=
  ⟨fun _ => rfl, fun w' _ => by simp [Builtin.firstCells], by simp, by simp⟩

theorem Src.string (s : ByteArray) : Src P w 1 (.string s) s.size (Lib.strCells s) :=
  ⟨fun _ => rfl, fun w' _ => Lib.run_firstCells_string (P := P) w' 1 s, by rw [Lib.strCells_length]; omega, Lib.strCells_oneCell s⟩

theorem Src.row {e : TypeId} {size : Nat} {ao : Option Addr} {n cap : Nat} {xs : List Value} (h : Hp.on w (.row e size ao n cap xs)) (h1 : ∀ u ∈ xs, u.oneCell' = true) : Src P w size (.slice ao n cap) n xs := by
  rcases row_cases h with ⟨rfl, rfl, rfl, rfl⟩ | ⟨g, cur, rfl, _⟩
  · exact Src.nil size 0
  · exact Src.slice (row_length h) (fun j u hj => by rw [Addr.add_lit]; simpa using row_cell h j hj) h1

/-- append: SOME row, at the old head or in a new block, which holds the old cells and the new ones. -/
theorem run_append_gen {t u ty e : TypeId} {i : TypeInfo} {z : Value} {size bytes : Nat} (ht : P.underlying t = some (.slice e)) (hu : P.underlying u = some .string ∨ P.underlying u = some (.slice e))
    (hi : P.info? e = some i) (hz : i.zero = some z) (hsize : i.size = size) (hby : i.bytes = bytes) (hzs : z.cells.size = size)
    {ao : Option Addr} {n cap : Nat} {xs : List Value} (hown : Hp.on w (.row e size ao n cap xs)) {x : Value} {m : Nat} {news : List Value} (hx : Src P w size x m news)
    (h63 : n + m ≤ maxLen) (hbytes : (n + m) * bytes ≤ 140737488355328) :
    ∃ ao' cap' w', (Builtin.append_ #[t, u] ty #[.slice ao n cap, x]).run P w = .ok (.slice ao' (n + m) cap') w' ∧ Hp.on w' (.row e size ao' (n + m) cap' (xs ++ news)) ∧ Turn w w' (Hp.fp (.row e size ao n cap xs)) ∧
      (∀ b ∈ Hp.fp (.row e size ao' (n + m) cap' (xs ++ news)), b ∈ Hp.fp (.row e size ao n cap xs) ∨ w.heap.size ≤ b) := by
  subst hsize
  subst hby
  have hsmall : ¬ (9223372036854775807 < ((n : Int) + (m : Int))) := by simp only [maxLen] at h63; omega
  -- the arm that grows
  have grow : ∀ (_ : ¬ n + m ≤ cap) (_ : ∀ w' : World, w'.heap = w.heap → (Builtin.firstCells i.size n (.slice ao n cap)).run P w' = .ok xs.toArray w'),
      ∃ ao' cap' w', (Builtin.append_ #[t, u] ty #[.slice ao n cap, x]).run P w = .ok (.slice ao' (n + m) cap') w' ∧ Hp.on w' (.row e i.size ao' (n + m) cap' (xs ++ news)) ∧ Turn w w' (Hp.fp (.row e i.size ao n cap xs)) ∧
      (∀ b ∈ Hp.fp (.row e i.size ao' (n + m) cap' (xs ++ news)), b ∈ Hp.fp (.row e i.size ao n cap xs) ∨ w.heap.size ≤ b) := by
    intro hno hold
    have h48 : ¬ (281474976710656 < Builtin.nextslicecap (n + m) cap * i.bytes) := by have := growslice_fits (need := n + m) (old := cap) (by omega) hbytes; omega
    have hge := grownCap_ge w (n + m) cap e
    have hcm : grownCap w (n + m) cap e ≤ maxLen := grownCap_le_maxLen w (n + m) cap e h63
    have e1 := hold w.drew rfl
    have e2 := hx.cells w.drew rfl
    refine ⟨some ⟨w.heap.size, 0, none⟩, grownCap w (n + m) cap e, w.drew.alloc (.cells (xs.toArray ++ news.toArray ++ Builtin.zeroCells z.cells (grownCap w (n + m) cap e - (n + m))) e), ?_, ?_, ?_, ?_⟩
    · have hq : ∀ (b : Nat) (w' : World), (askRoom b).run P w' = .ok () w' := fun b w' => by unfold askRoom; split <;> simp [mark, Sem.run]
      rcases hu with hu | hu <;> simp [Builtin.append_, run_underlying ht, run_underlying hu, sizeOf, typeInfo, hi, hx.len, hno, hsmall, h48, hq, zeroValue, hz, newRow, newObj, Sem.run, Result.andThen, Question.forced, e1, e2, grownCap, ← List.append_toArray] <;> rfl
    · refine row_mk (g := w.heap.size) (heap_alloc_new w.drew _) hge hcm ?_ ?_
      · simp only [Array.size_append, List.size_toArray, size_zeroCells, hzs, row_length hown, hx.length, ← Nat.add_mul]
        congr 1
        omega
      · simp only [Array.toList_append]
        have : (xs.toArray.toList ++ news.toArray.toList).length = (n + m) * i.size := by simp [row_length hown, hx.length, Nat.add_mul]
        rw [← this]
        exact List.take_left
    · exact ⟨rfl, rfl, rfl, by simp, fun k hk _ => (World.grownBy_alloc w.drew _ none).block k hk (by simp)⟩
    · intro b hb
      simp [Hp.fp] at hb
      exact .inr (by omega)
  rcases row_cases hown with ⟨rfl, rfl, rfl, rfl⟩ | ⟨g, cur, rfl, hg, hnc, hcm, hcs, htake⟩
  · by_cases hm : m = 0
    · subst hm
      have hn : news = [] := List.eq_nil_of_length_eq_zero (by simpa using hx.length)
      subst hn
      refine ⟨none, 0, w, ?_, row_nil w e i.size, Turn.refl _ _, by simp [Hp.fp]⟩
      rcases hu with hu | hu <;> simp [Builtin.append_, run_underlying ht, run_underlying hu, sizeOf, typeInfo, hi, hx.len, hx.cells w rfl, Result.andThen]
    · exact grow (by omega) (fun w' _ => by simp [Builtin.firstCells])
  · by_cases hroom : n + m ≤ cap
    · have hfit : n * i.size + news.length ≤ cur.size := by rw [hx.length, hcs, ← Nat.add_mul]; exact Nat.mul_le_mul_right _ hroom
      have hst := run_storeCells_at P g (n * i.size) e news 0 cur w hg (by simpa using hfit) hx.one
      simp only [Nat.add_zero] at hst
      refine ⟨some ⟨g, 0, none⟩, cap, w.setRow g (cur.toList.take (n * i.size) ++ news ++ cur.toList.drop (n * i.size + news.length)).toArray, ?_, row_mk (setRow_heap w g cur _ e _ hg) hroom hcm ?_ ?_, ?_, ?_⟩
      · rcases hu with hu | hu <;> simp [Builtin.append_, run_underlying ht, run_underlying hu, sizeOf, typeInfo, hi, hx.len, hroom, hx.cells w rfl, Addr.add_lit, hst, Result.andThen]
      · simp only [List.size_toArray, List.length_append, List.length_take, List.length_drop, Array.length_toList]
        omega
      · rw [htake]
        have : (xs ++ news).length = (n + m) * i.size := by simp [row_length hown, hx.length, Nat.add_mul]
        rw [← this]
        exact List.take_left
      · exact ⟨rfl, rfl, rfl, by simp [World.setRow], fun k _ hk => setRow_other w g k _ (fun e => hk (by simp [Hp.fp, e]))⟩
      · intro b hb; exact .inl hb
    · exact grow hroom (fun w' hw => run_firstCells_some (P := P) w' i.size n ⟨g, 0, none⟩ n cap xs (row_length hown) (fun j v hj => by rw [Addr.add_lit, cell_of_heap hw]; simpa using row_cell hown j hj))
end

section
variable {P : Program} {K : Act → World → Prop} {o : Oper} {a : Act} {Q : Exit → Act → World → Prop} {w0 w : World} {H : List Hp}

theorem row_fp_nodup {e : TypeId} {size : Nat} {ao : Option Addr} {n cap : Nat} {xs : List Value} : (Hp.fp (.row e size ao n cap xs)).Nodup := by
  cases ao <;> simp [Hp.fp]

/-- append at the operation. -/
theorem opS_append (s x : Operand) (t u : TypeId) (hop : o.op = .call { callee := .builtin .append, args := #[s, x], argTypes := #[t, u] }) (hS : St w0 w H) (k : Nat)
    {e : TypeId} {size bytes : Nat} {z : Value} {ao : Option Addr} {n cap : Nat} {xs : List Value} (hs : a.eval s = .slice ao n cap) (hi : H[k]? = some (.row e size ao n cap xs)) {v : Value} (hx : a.eval x = v)
    (ht : P.underlying t = some (.slice e)) (hu : P.underlying u = some .string ∨ P.underlying u = some (.slice e)) (hinfo : (P.info? e).map (fun i => (i.zero, i.size, i.bytes)) = some (some z, size, bytes)) (hzs : z.cells.size = size)
    {m : Nat} {news : List Value} (hsrc : Src P w size v m news) (h63 : n + m ≤ maxLen) (hbytes : (n + m) * bytes ≤ 140737488355328)
    (hK : ∀ ao' cap' w', St w0 w' (H.set k (.row e size ao' (n + m) cap' (xs ++ news))) → K (a.put o.dst (.slice ao' (n + m) cap')) w') : o.wp P a w K Q := by
  obtain ⟨i, i1, i2, i3, i4⟩ := info_parts hinfo
  obtain ⟨ao', cap', w', hrun, h1, h2, h3⟩ := run_append_gen (P := P) (ty := o.type) ht hu i1 i2 i3 i4 hzs (hS.at_ k hi) hsrc h63 hbytes
  unfold Oper.wp
  simp only [execOp, hop, resolve, invoke, builtin, List.map_toArray, List.map_cons, List.map_nil, hs, hx, Sem.run_bind, hrun, Result.andThen_ok, Sem.run_pure]
  exact (hK ao' cap' w' (hS.setAt k hi h2 row_fp_nodup h3 h1))

/-- A slice literal. -/
theorem opS_buildSlice (t : TypeId) (n : Nat) (parts : Array (Nat × Operand)) (hop : o.op = .buildSlice t n parts) (hS : St w0 w H) {e size : Nat} {z : Value} {bytes : Nat} (ht : P.underlying t = some (.slice e))
    (hinfo : (P.info? e).map (fun i => (i.zero, i.size, i.bytes)) = some (some z, size, bytes)) (hsz : n * size ≤ 2 ^ 24) (hn : 0 < n * size) {cs : List Value}
    (hf : Instr.fill (fun i => some (i * size, size)) ((Array.range (n * size)).map (z.cells[· % z.cells.size]!)) (parts.map fun (i, x) => (i, a.eval x)).toList = some cs.toArray)
    (hK : ∀ g w', St w0 w' (.cells g cs e :: H) → K (a.put o.dst (.slice (some ⟨g, 0, none⟩) n n)) w') : o.wp P a w K Q := by
  obtain ⟨i, i1, i2, i3, i4⟩ := info_parts hinfo
  subst i3
  have hS' := hS.alloc cs e
  have h24 : ¬ (2 ^ 24 < n * i.size) := by omega
  have h0 : ¬ (n * i.size = 0) := by omega
  unfold Oper.wp
  simp only [execOp, hop, Instr.buildSlice, Sem.run_bind, run_underlying ht, Result.andThen_ok, sizeOf, typeInfo, zeroValue, program, Sem.run, i1, i2, Sem.run_pure, gt_iff_lt, h24, if_false, h0, hf, newRow, newObj]
  exact (hK _ _ hS')

/-- A cell of a row. -/
theorem opS_rowload (t : TypeId) (x : Operand) (hop : o.op = .load t x) (hS : St w0 w H) (i : Nat) {e : TypeId} {size g n cap : Nat} {xs : List Value} {j : Nat} {v : Value} {d : TypeDesc}
    (hx : a.eval x = .pointer (some ⟨g, j, none⟩)) (hi : H[i]? = some (.row e size (some ⟨g, 0, none⟩) n cap xs)) (hj : xs[j]? = some v) (hu : P.underlying t = some d) (hd : plainDesc d = true)
    (hK : K (a.put o.dst v) w) : o.wp P a w K Q := by
  unfold Oper.wp
  simp [execOp, hop, hx, Instr.loadAt, Instr.sureAddr, run_loadVar_plain hu hd (row_cell (hS.at_ i hi) j hj), Result.andThen]
  exact hK
end

/-- A row's beginning. -/
theorem row_short {w : World} {e : TypeId} {size : Nat} {ao : Option Addr} {n cap : Nat} {xs : List Value} (h : Hp.on w (.row e size ao n cap xs)) {k : Nat} (hk : k ≤ n) : Hp.on w (.row e size ao k cap (xs.take (k * size))) := by
  rcases row_cases h with ⟨rfl, rfl, rfl, rfl⟩ | ⟨g, cur, rfl, hg, h1, h2, h3, h4⟩
  · obtain rfl : k = 0 := by omega
    simpa using row_nil w e size
  · refine row_mk hg (Nat.le_trans hk h1) h2 h3 ?_
    rw [← h4, List.take_take, Nat.min_eq_left (Nat.mul_le_mul_right _ hk)]

theorem St.short {w0 w : World} {H : List Hp} (hS : St w0 w H) (i : Nat) {e : TypeId} {size : Nat} {ao : Option Addr} {n cap : Nat} {xs : List Value} (hi : H[i]? = some (.row e size ao n cap xs)) {k : Nat} (hk : k ≤ n) :
    St w0 w (H.set i (.row e size ao k cap (xs.take (k * size)))) :=
  hS.setAt i hi (Turn.refl _ _) row_fp_nodup (fun b hb => .inl hb) (row_short (hS.at_ i hi) hk)

theorem row_head {w : World} {e : TypeId} {size : Nat} {ao : Option Addr} {n cap : Nat} {xs : List Value} (h : Hp.on w (.row e size ao n cap xs)) : ao = none ∧ n = 0 ∧ cap = 0 ∨ (∃ g, ao = some ⟨g, 0, none⟩) ∧ n ≤ cap := by
  rcases row_cases h with ⟨h1, h2, h3, _⟩ | ⟨g, cur, h1, _, h2, _⟩
  · exact .inl ⟨h1, h2, h3⟩
  · exact .inr ⟨⟨g, h1⟩, h2⟩

/-- 'xs[:k]' of a row at its block's head. -/
theorem run_sliceHi {P : Program} {w : World} {t e : TypeId} {ao : Option Addr} {n cap : Nat} {k : Int} (ht : P.underlying t = some (.slice e)) (he : (P.info? e).isSome = true) (h : ao = none ∨ ∃ g, ao = some ⟨g, 0, none⟩) (h0 : 0 ≤ k) (h1 : k ≤ cap) :
    (Instr.sliceAt t (.slice ao n cap) none (some (.int .i64 k)) none).run P w = .ok (.slice ao k.toNat cap) w := by
  obtain ⟨i, hi⟩ := Option.isSome_iff_exists.1 he
  have e1 : (if cap = 0 then ao else ao.map (·.add (0 * i.size))) = ao := by
    rcases h with rfl | ⟨g, rfl⟩
    · simp
    · simp [Addr.add]
  simp [Instr.sliceAt, Instr.slice, run_underlying ht, Instr.sliceBounds, Instr.sliceBound, asIntOf, h0, h1, sizeOf, typeInfo, hi, Result.andThen]
  rcases h with rfl | ⟨g, rfl⟩
  · simp
  · simp [Addr.add]

theorem execOp_sliceHi {P : Program} {w : World} {ρ : Operand → Value} {t e : TypeId} {x y : Operand} {dst : Option Tmp} {ty : TypeId} {pos : String} {after : Array Edge} {gd : Option (Nat × Bool)} {ao : Option Addr} {n cap K : Nat} {k : Int}
    (hx : ρ x = .slice ao n cap) (hy : ρ y = .int .i64 k) (ht : P.underlying t = some (.slice e)) (he : (P.info? e).isSome = true) (h : ao = none ∨ ∃ g, ao = some ⟨g, 0, none⟩) (h0 : k = (K : Int)) (h1 : K ≤ cap) :
    (execOp ρ ⟨dst, .slice t x none (some y) none, ty, pos, after, gd⟩).run P w = .ok (.value (.slice ao K cap)) w := by
  have hr := run_sliceHi (P := P) (w := w) (n := n) (cap := cap) (k := k) ht he h (by omega) (by omega)
  rw [h0, Int.toNat_natCast] at hr
  simp [execOp, hx, hy, h0, hr, Result.andThen]

end Go.Proofs.Ytodojllclghoiaa
