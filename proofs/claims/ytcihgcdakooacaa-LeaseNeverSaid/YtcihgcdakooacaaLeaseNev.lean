/-
  A session that a keep was confirmed of is not due ahead of that keep's coming and the server's lease: the plain law.
-/
import Derived.Test.YtcihgcdakooacaaLeaseAns
namespace Go.Proofs.Ytcihgcdakooacaa
set_option linter.unusedVariables false
set_option linter.unusedSimpArgs false

/-- A deed as it lies in memory: six numbers, two slices. -/
structure DeedS where
  kind : Int
  n : Int
  tag : Int
  client : Int
  round : Int
  now : Int
  a0 : Option Addr
  a1 : Nat
  a2 : Nat
  b0 : Option Addr
  b1 : Nat
  b2 : Nat
def DeedS.cells (d : DeedS) : List Value := [.int .i64 d.kind, .int .i64 d.n, .int .i64 d.tag, .int .i64 d.client, .int .i64 d.round, .int .i64 d.now, .slice d.a0 d.a1 d.a2, .slice d.b0 d.b1 d.b2]
def DeedS.keep (s : Int) (d : DeedS) : KeepS := ⟨s, d.tag, d.client, d.now, d.round⟩

/-- The latest end that the deeds that are confirmed give. -/
def leastOfs (least : Int) (c : Int) (ds : List DeedS) : Int := ds.foldl (fun m d => if c < d.round then m else max m (d.now + 900)) least

theorem conf_never (s c : Int) : ∀ (ds : List DeedS) (least : Int) (left : List KeepS) (out : List (KeepS × Int)),
    ((ds.map (DeedS.keep s)).foldl (confStep c [s] []) ⟨[(s, least)], left, out⟩).ends = [(s, leastOfs least c ds)] ∧
    ((ds.map (DeedS.keep s)).foldl (confStep c [s] []) ⟨[(s, least)], left, out⟩).left = left ++ (ds.filter (fun d => decide (c < d.round))).map (DeedS.keep s)
  | [], least, left, out => by simp [leastOfs]
  | d :: ds, least, left, out => by
    have hc1 : ([s] : List Int).contains (d.keep s).session = true := by simp [DeedS.keep]
    have hget : aget [(s, least)] (d.keep s).session = some least := by simp [aget, aidx, DeedS.keep, List.findIdx?_cons]
    rw [List.map_cons, List.foldl_cons]
    by_cases hr : c < d.round
    · have e : confStep c [s] [] ⟨[(s, least)], left, out⟩ (d.keep s) = ⟨[(s, least)], left ++ [d.keep s], out⟩ := by unfold confStep; rw [if_pos (show c < (d.keep s).round from hr)]
      rw [e]
      obtain ⟨h1, h2⟩ := conf_never s c ds least (left ++ [d.keep s]) out
      rw [h1, h2]
      simp [leastOfs, hr]
    · have e : confStep c [s] [] ⟨[(s, least)], left, out⟩ (d.keep s) = ⟨[(s, max least (d.now + 900))], left, out ++ [(d.keep s, 0)]⟩ := by
        unfold confStep
        rw [if_neg (show ¬ c < (d.keep s).round from hr), if_neg (by rw [hc1]; simp), if_neg (by simp), hget]
        simp [aput, aidx, DeedS.keep, List.findIdx?_cons, Int.max_comm]
      rw [e]
      obtain ⟨h1, h2⟩ := conf_never s c ds (max least (d.now + 900)) left (out ++ [(d.keep s, 0)])
      rw [h1, h2]
      simp [leastOfs, hr]

theorem deed_cs {w : World} {cs : List Value} (h : Rd Try.prog w 28 cs) : ∃ d : DeedS, cs = d.cells := by
  obtain ⟨hl, hf⟩ := h.fields Try.underlying28
  have hc : Try.prog.cellsOf 28 = 8 := by kernel_rfl
  have hk3 : Try.prog.cellsOf 3 = 1 := by kernel_rfl
  have hk26 : Try.prog.cellsOf 26 = 1 := by kernel_rfl
  rw [hc] at hl
  obtain ⟨c0, r0, rfl, l0⟩ := cons_of_len hl
  obtain ⟨c1, r1, rfl, l1⟩ := cons_of_len l0
  obtain ⟨c2, r2, rfl, l2⟩ := cons_of_len l1
  obtain ⟨c3, r3, rfl, l3⟩ := cons_of_len l2
  obtain ⟨c4, r4, rfl, l4⟩ := cons_of_len l3
  obtain ⟨c5, r5, rfl, l5⟩ := cons_of_len l4
  obtain ⟨c6, r6, rfl, l6⟩ := cons_of_len l5
  obtain ⟨c7, r7, rfl, l7⟩ := cons_of_len l6
  obtain rfl := List.length_eq_zero_iff.1 l7
  have f0 : Rd Try.prog w 3 [c0] := by simpa [hk3] using hf 0 _ rfl
  obtain ⟨x0, e0, _⟩ := f0.int Try.underlying3
  simp only [List.cons.injEq, and_true] at e0
  subst e0
  have f1 : Rd Try.prog w 3 [c1] := by simpa [hk3] using hf 1 _ rfl
  obtain ⟨x1, e1, _⟩ := f1.int Try.underlying3
  simp only [List.cons.injEq, and_true] at e1
  subst e1
  have f2 : Rd Try.prog w 3 [c2] := by simpa [hk3] using hf 2 _ rfl
  obtain ⟨x2, e2, _⟩ := f2.int Try.underlying3
  simp only [List.cons.injEq, and_true] at e2
  subst e2
  have f3 : Rd Try.prog w 3 [c3] := by simpa [hk3] using hf 3 _ rfl
  obtain ⟨x3, e3, _⟩ := f3.int Try.underlying3
  simp only [List.cons.injEq, and_true] at e3
  subst e3
  have f4 : Rd Try.prog w 3 [c4] := by simpa [hk3] using hf 4 _ rfl
  obtain ⟨x4, e4, _⟩ := f4.int Try.underlying3
  simp only [List.cons.injEq, and_true] at e4
  subst e4
  have f5 : Rd Try.prog w 3 [c5] := by simpa [hk3] using hf 5 _ rfl
  obtain ⟨x5, e5, _⟩ := f5.int Try.underlying3
  simp only [List.cons.injEq, and_true] at e5
  subst e5

  have f6 : Rd Try.prog w 26 [c6] := by simpa [hk26] using hf 6 _ rfl
  obtain ⟨a6, n6, k6, e6⟩ := f6.isSlice Try.underlying26
  simp only [List.cons.injEq, and_true] at e6
  subst e6
  have f7 : Rd Try.prog w 26 [c7] := by simpa [hk26] using hf 7 _ rfl
  obtain ⟨a7, n7, k7, e7⟩ := f7.isSlice Try.underlying26
  simp only [List.cons.injEq, and_true] at e7
  subst e7

  exact ⟨⟨x0, x1, x2, x3, x4, x5, _, _, _, _, _, _⟩, rfl⟩

theorem deeds_of {w0 : World} {v : Value} (h : RdV Try.prog w0 22 v) : ∃ (ds : List DeedS) (ao : Option Addr) (cap : Nat), v = .slice ao ds.length cap ∧ ds.length ≤ 1000000000000000 ∧
    (ds = [] ∨ ∃ b off, ao = some ⟨b, off, none⟩ ∧ ∀ j d, ds[j]? = some d → w0.rangeAt b (off + j * 8) d.cells) := by
  obtain ⟨ao, len, cap, C, rfl, hl, hm, hbytes, h0, hC⟩ := h.slice Try.underlying22 (show Try.prog.cellsOf 28 = 8 by kernel_rfl) (by omega)
  have hb : Try.prog.bytesOf 28 = 96 := by kernel_rfl
  have hr : reachBytes = 140737488351232 := rfl
  rw [hb] at hbytes
  have hch : ∀ i : Nat, ∃ d : DeedS, i < cap → C i = d.cells := fun i => by
    by_cases h : i < cap
    · obtain ⟨d, h1⟩ := deed_cs (hC i h).2.1; exact ⟨d, fun _ => h1⟩
    · exact ⟨⟨0, 0, 0, 0, 0, 0, none, 0, 0, none, 0, 0⟩, fun h' => absurd h' h⟩
  obtain ⟨f, hf⟩ := Classical.axiomOfChoice hch
  refine ⟨(List.range len).map f, ao, cap, by simp, by simp; omega, ?_⟩
  · by_cases hl0 : len = 0
    · left; subst hl0; rfl
    · right
      obtain ⟨_, _, b, off, rfl, _⟩ := hC 0 (by omega)
      refine ⟨b, off, rfl, fun j d hj => ?_⟩
      rw [List.getElem?_map] at hj
      have hjl : j < len := by
        by_cases h : j < len
        · exact h
        · rw [List.getElem?_eq_none (by simp; omega)] at hj; cases hj
      rw [List.getElem?_range hjl] at hj
      simp at hj; subst hj
      obtain ⟨hcl, _, b', off', hbe, hcell⟩ := hC j (by omega)
      cases hbe
      intro i v hv
      have hi8 : i < 8 := (List.getElem?_eq_some_iff.1 hv).1
      rw [hcell i hi8, hf j (by omega)]
      exact hv
end Go.Proofs.Ytcihgcdakooacaa
