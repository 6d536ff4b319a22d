/-
  LeaseNever, walked.
-/
import Derived.Test.YtcihgcdakooacaaLeaseNev
namespace Go.Proofs.Ytcihgcdakooacaa
set_option linter.unusedVariables false
set_option linter.unusedSimpArgs false
open Go.RowKit

/-- What holds at a round's head: the book, the keeps that wait, the least end. -/
def NevS (w0 w : World) (g : Nat) (s : Int) (i : Nat) (least : Int) (came : Value) : Prop :=
  ∃ (ds : List DeedS) (ac : Option Addr) (cc : Nat), came = .slice ac ds.length cc ∧ ds.length ≤ i ∧ (∀ d ∈ ds, 0 ≤ d.now ∧ d.now ≤ 1099511627776 ∧ 0 ≤ d.client ∧ d.client ≤ 7) ∧ 900 ≤ least ∧ least ≤ 1099511628676 ∧
    LeaseSt w0 w g [.row 28 8 ac ds.length cc (ds.flatMap DeedS.cells)] (some ⟨[(s, least)], ds.map (DeedS.keep s)⟩)

theorem beginE_one (s : Int) : beginE 0 [s] = [(s, 900)] := rfl

theorem conf_nevD (s c least : Int) (ds : List DeedS) : (confD c [s] [] ⟨[(s, least)], ds.map (DeedS.keep s)⟩).ends = [(s, leastOfs least c ds)] ∧ (confD c [s] [] ⟨[(s, least)], ds.map (DeedS.keep s)⟩).left = (ds.filter (fun d => decide (c < d.round))).map (DeedS.keep s) := by
  have h := conf_never s c ds least [] []
  unfold confD
  exact ⟨h.1, by rw [h.2, List.nil_append]⟩

theorem due_nevD (s now least : Int) (ks : List KeepS) : dueD now [s] [] ⟨[(s, least)], ks⟩ = ⟨[(s, least)], if least ≤ now then [s] else []⟩ := by
  unfold dueD
  rw [sortI_one, compact_one]
  simp only [List.foldl_cons, List.foldl_nil, dueStep, List.contains_nil, Bool.false_eq_true, if_false]
  have : aget [(s, least)] s = some least := by simp [aget, aidx, List.findIdx?_cons]
  rw [this]
  by_cases h : least ≤ now <;> simp [h]

theorem leastOfs_bd {ds : List DeedS} {least c : Int} (hd : ∀ d ∈ ds, 0 ≤ d.now ∧ d.now ≤ 1099511627776 ∧ 0 ≤ d.client ∧ d.client ≤ 7) (h0 : 900 ≤ least) (h1 : least ≤ 1099511628676) : 900 ≤ leastOfs least c ds ∧ leastOfs least c ds ≤ 1099511628676 := by
  unfold leastOfs
  induction ds generalizing least with
  | nil => exact ⟨h0, h1⟩
  | cons d ds ih =>
    have := hd d List.mem_cons_self
    rw [List.foldl_cons]
    apply ih (fun x hx => hd x (List.mem_cons_of_mem _ hx))
    · split <;> omega
    · split <;> omega

theorem leastOfs_take {ds : List DeedS} {least c : Int} {k : Nat} {d : DeedS} (h : ds[k]? = some d) : leastOfs least c (ds.take (k + 1)) = if c < d.round then leastOfs least c (ds.take k) else max (leastOfs least c (ds.take k)) (d.now + 900) := by
  unfold leastOfs
  rw [List.take_add_one, h, List.foldl_append]; rfl

def filtOf (c : Int) (ds : List DeedS) : List DeedS := ds.filter (fun d => decide (c < d.round))

theorem filtOf_take {ds : List DeedS} {c : Int} {k : Nat} {d : DeedS} (h : ds[k]? = some d) : filtOf c (ds.take (k + 1)) = filtOf c (ds.take k) ++ (if c < d.round then [d] else []) := by
  unfold filtOf
  rw [List.take_add_one, h, List.filter_append]
  by_cases hc : c < d.round <;> simp [hc]

theorem filtOf_le (c : Int) (ds : List DeedS) (k : Nat) : (filtOf c (ds.take k)).length ≤ ds.length := by
  unfold filtOf
  have := List.length_filter_le (fun d : DeedS => decide (c < d.round)) (ds.take k)
  have := List.length_take_le k ds
  have := List.length_take_le' k ds
  omega

theorem DeedS.cells_length (d : DeedS) : d.cells.length = 8 := rfl

/-- Keep, Confirm, Due in words of the deeds. -/
theorem nkeep_c {w0 w : World} {g : Nat} {R : List Hp} {s least : Int} {ds : List DeedS} {d : DeedS} (h : LeaseSt w0 w g R (some ⟨[(s, least)], ds.map (DeedS.keep s)⟩)) (hl : ds.length ≤ 1000) :
    Calls Try.prog 9 #[.pointer (some ⟨g, 0, none⟩), .int .i64 s, .int .i64 d.tag, .int .i64 d.client, .int .i64 d.now, .int .i64 d.round] w fun e w' => e = .returned (.tuple #[]) ∧ LeaseSt w0 w' g R (some ⟨[(s, least)], (ds ++ [d]).map (DeedS.keep s)⟩) := by
  rw [List.map_append]
  exact keep_c w0 w R g (d.keep s) _ h (by simp; omega)

theorem nconf_c {w0 w : World} {g lit : Nat} {D R : List Hp} {s c least : Int} {ds : List DeedS} (hd : ∀ d ∈ ds, 0 ≤ d.now ∧ d.now ≤ 1099511627776 ∧ 0 ≤ d.client ∧ d.client ≤ 7) (hl : ds.length ≤ 1000)
    (hb : ∀ w' R', St w0 w' (D ++ R') → LeaseSt w0 w' g R' (some ⟨[(s, least)], ds.map (DeedS.keep s)⟩)) (hS : St w0 w (.cells lit [.int .i64 s] 3 :: (D ++ R))) :
    Calls Try.prog 10 #[.pointer (some ⟨g, 0, none⟩), .int .i64 c, .slice (some ⟨lit, 0, none⟩) 1 1, .slice none 0 0] w fun e w' => ∃ aq nq capq, e = .returned (.slice aq nq capq) ∧
      LeaseSt w0 w' g R (some ⟨[(s, leastOfs least c ds)], (filtOf c ds).map (DeedS.keep s)⟩) := by
  refine (confirm_c w0 w R g ⟨[(s, least)], ds.map (DeedS.keep s)⟩ _ 1 1 [s] none 0 0 [] c (lease_lit0 hb hS) (fun x hx => ?_) (by simp; omega) (by decide) (by decide)).mono ?_
  · obtain ⟨d, h1, rfl⟩ := List.mem_map.1 hx
    have := hd d h1
    simp only [DeedS.keep]
    omega
  rintro e w' ⟨aq, capq, rfl, h⟩
  obtain ⟨h1, h2⟩ := conf_nevD s c least ds
  rw [h1, h2] at h
  exact ⟨aq, _, capq, rfl, h.sub (.cons _ (.cons _ (.cons _ (List.Sublist.refl _))))⟩

theorem ndue_c {w0 w : World} {g lit : Nat} {D R : List Hp} {s now least : Int} {ks : List KeepS} (hn : 0 ≤ now) (hn1 : now ≤ 1099511627776)
    (hb : ∀ w' R', St w0 w' (D ++ R') → LeaseSt w0 w' g R' (some ⟨[(s, least)], ks⟩)) (hS : St w0 w (.cells lit [.int .i64 s] 3 :: (D ++ R))) :
    Calls Try.prog 11 #[.pointer (some ⟨g, 0, none⟩), .int .i64 now, .slice (some ⟨lit, 0, none⟩) 1 1, .slice none 0 0] w fun e w' => ∃ aq capq, e = .returned (.slice aq (if least ≤ now then 1 else 0) capq) ∧ LeaseSt w0 w' g R (some ⟨[(s, least)], ks⟩) := by
  refine (due_c w0 w R g ⟨[(s, least)], ks⟩ _ 1 1 [s] none 0 0 [] now (lease_lit0 hb hS) (by omega) (by omega) (by decide) (by decide)).mono ?_
  rintro e w' ⟨aq, capq, h1, h2⟩
  rw [due_nevD] at h1 h2
  refine ⟨aq, capq, ?_, h2.sub (.cons _ (.cons _ (.cons _ (List.Sublist.refl _))))⟩
  rw [h1]
  by_cases h : least ≤ now <;> simp [h]
end Go.Proofs.Ytcihgcdakooacaa
