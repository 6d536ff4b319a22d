/-
  Each keep is answered at most once, and not ahead of its round.
-/
import Derived.Test.YtcihgcdakooacaaLeaseAwake
import Derived.Test.YtcihgcdakooacaaCells2
import Derived.Deep.DeepCutAuto
import Derived.Deep.CutBlock
namespace Go.Proofs.Ytcihgcdakooacaa
set_option linter.unusedVariables false
set_option linter.unusedSimpArgs false
open Go.RowKit

def mkK (rs : List Int) (k : Nat) : KeepS := ⟨1, k, 0, 5, rs.getD k 0⟩

theorem conf_fold (c : Int) : ∀ (ks : List KeepS) (acc : ConfS), (∀ k ∈ ks, k.session = 1) →
    (ks.foldl (confStep c [1] []) acc).left = acc.left ++ ks.filter (fun k => decide (c < k.round)) ∧ (ks.foldl (confStep c [1] []) acc).out = acc.out ++ (ks.filter (fun k => decide (k.round ≤ c))).map (fun k => (k, 0))
  | [], acc, _ => by simp
  | k :: ks, acc, h => by
    obtain ⟨h1, h2⟩ := conf_fold c ks (confStep c [1] [] acc k) (fun x hx => h x (List.mem_cons_of_mem _ hx))
    have hs := h k List.mem_cons_self
    have hc1 : ([1] : List Int).contains k.session = true := by rw [hs]; rfl
    rw [List.foldl_cons, h1, h2]
    by_cases hr : c < k.round
    · have hr2 : ¬ k.round ≤ c := by omega
      have e : confStep c [1] [] acc k = { acc with left := acc.left ++ [k] } := by unfold confStep; rw [if_pos hr]
      rw [e]
      simp [List.filter_cons, hr, hr2]
    · have hr2 : k.round ≤ c := by omega
      have e : confStep c [1] [] acc k = { acc with ends := aput acc.ends k.session (match aget acc.ends k.session with | none => k.at_ + 900 | some o => max (k.at_ + 900) o), out := acc.out ++ [(k, 0)] } := by
        unfold confStep; rw [if_neg hr, if_neg (by rw [hc1]; simp), if_neg (by simp)]; rfl
      rw [e]
      simp [List.filter_cons, hr, hr2]

/-- Those that were not said, as keeps; what was said, as cells. -/
def notSaid (N : Nat) (sd : Nat → Bool) : List Nat := (List.range N).filter fun k => !sd k
def saidL (sd : Nat → Bool) : List Value := (List.range 100).map fun k => .bool (sd k)
def hits (N : Nat) (rs : List Int) (sd : Nat → Bool) (c : Int) : List Nat := (List.range N).filter fun k => !sd k && decide (rs.getD k 0 ≤ c)
def sdNext (N : Nat) (rs : List Int) (sd : Nat → Bool) (c : Int) (k : Nat) : Bool := sd k || (decide (k < N) && decide (rs.getD k 0 ≤ c))

theorem conf_ans (N : Nat) (rs : List Int) (sd : Nat → Bool) (c : Int) (E : List (Int × Int)) :
    (confD c [1] [] ⟨E, (notSaid N sd).map (mkK rs)⟩).left = (notSaid N (sdNext N rs sd c)).map (mkK rs) ∧ (confD c [1] [] ⟨E, (notSaid N sd).map (mkK rs)⟩).out = (hits N rs sd c).map (fun k => (mkK rs k, 0)) := by
  obtain ⟨h1, h2⟩ := conf_fold c ((notSaid N sd).map (mkK rs)) ⟨E, [], []⟩ (fun k hk => by obtain ⟨i, _, rfl⟩ := List.mem_map.1 hk; rfl)
  unfold confD
  rw [h1, h2, List.nil_append, List.nil_append, List.filter_map, List.filter_map, List.map_map]
  constructor
  · congr 1
    unfold notSaid
    rw [List.filter_filter]
    apply List.filter_congr
    intro k hk
    have := List.mem_range.1 hk
    simp only [Function.comp, mkK, sdNext, this, decide_true, Bool.true_and]
    by_cases hq : c < rs.getD k 0
    · have hq2 : ¬ rs.getD k 0 ≤ c := by omega
      simp only [hq, hq2, decide_true, decide_false, Bool.or_false, Bool.true_and]
    · have hq2 : rs.getD k 0 ≤ c := by omega
      simp only [hq, hq2, decide_true, decide_false, Bool.or_true, Bool.false_and, Bool.not_true]
  · unfold notSaid hits
    rw [List.filter_filter]
    congr 1
    apply List.filter_congr
    intro k hk
    simp only [Function.comp, mkK]
    rw [Bool.and_comm]
    rfl

theorem saidL_get {sd : Nat → Bool} {k : Nat} (h : k < 100) : (saidL sd)[k]? = some (.bool (sd k)) := by
  unfold saidL
  rw [List.getElem?_map, List.getElem?_range h]
  rfl
theorem saidL_set {sd : Nat → Bool} {t : Nat} : (saidL sd).set t (.bool true) = saidL fun k => sd k || decide (k = t) := by
  unfold saidL
  apply List.ext_getElem?
  intro k
  by_cases hk : k < 100
  · by_cases h : t = k
    · subst h
      rw [List.getElem?_set_self (by simpa using hk), List.getElem?_map, List.getElem?_range hk]
      simp
    · rw [List.getElem?_set_ne h, List.getElem?_map, List.getElem?_map, List.getElem?_range hk]
      simp [Ne.symm h]
  · rw [List.getElem?_eq_none (by simp; omega), List.getElem?_eq_none (by simp; omega)]

theorem hits_spec {N : Nat} {rs : List Int} {sd : Nat → Bool} {c : Int} {q t : Nat} (h : (hits N rs sd c)[q]? = some t) : t < N ∧ sd t = false ∧ rs.getD t 0 ≤ c ∧ t ∉ (hits N rs sd c).take q := by
  have hm := List.mem_of_getElem? h
  unfold hits at hm
  rw [List.mem_filter] at hm
  obtain ⟨h1, h2⟩ := hm
  simp only [Bool.and_eq_true, Bool.not_eq_true', decide_eq_true_eq] at h2
  refine ⟨List.mem_range.1 h1, h2.1, h2.2, fun hc => ?_⟩
  have hn : (hits N rs sd c).Nodup := List.nodup_range.filter _
  obtain ⟨hl, he⟩ := List.getElem?_eq_some_iff.1 h
  obtain ⟨j, hj, hje⟩ := List.mem_take_iff_getElem.1 hc
  have : j = q := (List.getElem_inj hn).1 (hje.trans he.symm)
  omega

def sdMid (N : Nat) (rs : List Int) (sd : Nat → Bool) (c : Int) (q : Nat) (k : Nat) : Bool := sd k || ((hits N rs sd c).take q).contains k
theorem sdMid_zero (N : Nat) (rs : List Int) (sd : Nat → Bool) (c : Int) : sdMid N rs sd c 0 = sd := by
  funext k; simp [sdMid]
theorem sdMid_succ {N : Nat} {rs : List Int} {sd : Nat → Bool} {c : Int} {q t : Nat} (h : (hits N rs sd c)[q]? = some t) : sdMid N rs sd c (q + 1) = fun k => sdMid N rs sd c q k || decide (k = t) := by
  funext k
  unfold sdMid
  rw [List.take_add_one, h]
  simp [Bool.or_assoc]
theorem sdMid_all (N : Nat) (rs : List Int) (sd : Nat → Bool) (c : Int) : sdMid N rs sd c (hits N rs sd c).length = sdNext N rs sd c := by
  funext k
  unfold sdMid sdNext
  rw [List.take_length]
  cases hs : sd k with
  | true => rfl
  | false =>
    simp only [Bool.false_or]
    rw [Bool.eq_iff_iff]
    simp [hits, hs]
theorem keep1 {w0 w : World} {R : List Hp} {g i : Nat} {E : List (Int × Int)} {rs : List Int} {x : Int} (h : LeaseSt w0 w g R (some ⟨E, (List.range i).map (mkK rs)⟩)) (hx : rs[i]? = some x) (hi : i < 100) :
    Calls Try.prog 9 #[.pointer (some ⟨g, 0, none⟩), .int .i64 1, .int .i64 i, .int .i64 0, .int .i64 5, .int .i64 x] w fun e w' => e = .returned (.tuple #[]) ∧ LeaseSt w0 w' g R (some ⟨E, (List.range (i + 1)).map (mkK rs)⟩) := by
  have e : (List.range (i + 1)).map (mkK rs) = (List.range i).map (mkK rs) ++ [⟨1, i, 0, 5, x⟩] := by
    rw [List.range_succ, List.map_append]
    simp [mkK, List.getD, hx]
  rw [e]
  exact keep_c w0 w R g ⟨1, i, 0, 5, x⟩ _ h (by simp; omega)

theorem sdMid_false {N : Nat} {rs : List Int} {sd : Nat → Bool} {c : Int} {q t : Nat} (h : (hits N rs sd c)[q]? = some t) : sdMid N rs sd c q t = false := by
  obtain ⟨_, h1, _, h2⟩ := hits_spec h
  unfold sdMid
  rw [h1]
  simpa using h2

theorem ks_ok (rs : List Int) (l : List Nat) : ∀ x ∈ l.map (mkK rs), 0 ≤ x.client ∧ x.client ≤ 1000 ∧ 0 ≤ x.at_ ∧ x.at_ ≤ 1099511627776 := by
  intro x hx
  obtain ⟨k, _, rfl⟩ := List.mem_map.1 hx
  exact ⟨by show (0 : Int) ≤ 0; decide, by show (0 : Int) ≤ 1000; decide, by show (0 : Int) ≤ 5; decide, by show (5 : Int) ≤ 1099511627776; decide⟩

theorem conf1 {w0 w : World} {R D : List Hp} {g lit N : Nat} {E : List (Int × Int)} {rs : List Int} {sd : Nat → Bool} {c : Int} (hN : N ≤ 100)
    (hb : ∀ w' R', St w0 w' (D ++ R') → LeaseSt w0 w' g R' (some ⟨E, (notSaid N sd).map (mkK rs)⟩)) (hS : St w0 w (.cells lit [.int .i64 1] 3 :: (D ++ R))) :
    Calls Try.prog 10 #[.pointer (some ⟨g, 0, none⟩), .int .i64 c, .slice (some ⟨lit, 0, none⟩) 1 1, .slice none 0 0] w fun e w' => ∃ aq capq E', e = .returned (.slice aq (hits N rs sd c).length capq) ∧
      LeaseSt w0 w' g (.row 48 20 aq (hits N rs sd c).length capq ((hits N rs sd c).flatMap fun t => msgCells (mkK rs t, 0)) :: R) (some ⟨E', (notSaid N (sdNext N rs sd c)).map (mkK rs)⟩) := by
  have hlen : (notSaid N sd).length ≤ N := by
    have := List.length_filter_le (fun k => !sd k) (List.range N)
    simpa [notSaid] using this
  refine (confirm_c w0 w R g ⟨E, (notSaid N sd).map (mkK rs)⟩ _ 1 1 [1] none 0 0 [] c (lease_lit0 hb hS) (ks_ok rs _) (by simp only [List.length_map]; omega) (by decide) (by decide)).mono ?_
  rintro e w' ⟨aq, capq, rfl, h⟩
  obtain ⟨h1, h2⟩ := conf_ans N rs sd c E
  rw [h1, h2, List.length_map, List.flatMap_map] at h
  refine ⟨aq, capq, _, by rw [h2, List.length_map], h.sub (.cons_cons _ (.cons _ (.cons _ (List.Sublist.refl _))))⟩

set_option maxRecDepth 100000 in
set_option maxHeartbeats 4000000 in
theorem ans_v (w0 : World) (rs cs : List Int) (ao ac : Option Addr) (capo capc : Nat)
    (hr : rs = [] ∨ ∃ b off, ao = some ⟨b, off, none⟩ ∧ ∀ j n, rs[j]? = some n → w0.cell? ⟨b, off + j, none⟩ = some (.int .i64 n))
    (hc : cs = [] ∨ ∃ b off, ac = some ⟨b, off, none⟩ ∧ ∀ j n, cs[j]? = some n → w0.cell? ⟨b, off + j, none⟩ = some (.int .i64 n))
    (hrl : rs.length ≤ 1000000000000000000) (hcl : cs.length ≤ 1000000000000000000) :
    Calls Try.prog 5 #[.slice ao rs.length capo, .slice ac cs.length capc] w0 fun e w' => e = .returned (.bool true) ∧ St w0 w' [] := by
  have hS := St.init w0
  have HR := Lib.hid hr
  have HC := Lib.hid hc
  clear hr hc
  go_enter Try.func5, Try.ntmps5
  go_upto_block 0 with (first | ((with_reducible apply wpA_guard); exact rfl; skip) | (go_at_call 7; with_reducible refine (lnew_c w0 _ [] hS).mono ?_; rintro _ _ ⟨g, rfl, hL⟩; obtain ⟨D, hS, hb⟩ := hL.use) | ((with_reducible apply wpA_one hS (z := .int .i64 0) (bytes := 8)); exact Try.underlying26; kernel_rfl; exact rfl; exact rfl; exact rfl; intro _ wx hS; (try simp only [Act.put, List.setIfInBounds_toArray, List.set_cons_zero, List.set_cons_succ]); (try simp only [Act.eval, Array.getD_eq_getD_getElem?, List.getElem?_toArray, List.getElem?_cons_succ, List.getElem?_cons_zero, Option.getD_some, List.set_cons_succ, List.set_cons_zero, Value.cells, List.toList_toArray] at hS)) | (go_at_call 8; with_reducible refine ((begin_c w0 _ [] g none _ 1 1 [1] 0 (lease_lit hb hS) (by decide) (by decide) (by decide))).mono ?_; rintro _ _ ⟨rfl, hL1⟩) | ((with_reducible apply wpA_load); exact rfl; (first | exact hS.cell 0 rfl _ rfl | exact hS.cell 1 rfl _ rfl | exact hS.cell 2 rfl _ rfl | exact hS.cell 3 rfl _ rfl | exact hS.cell 4 rfl _ rfl | exact hS.cell 5 rfl _ rfl | exact hS.cell 6 rfl _ rfl | exact hS.cell 7 rfl _ rfl | assumption); kernel_rfl) | (first | ((with_reducible apply wpA_store1 hS 0); exact rfl; exact rfl; exact rfl; exact rfl; exact rfl; exact rfl; kernel_rfl; intro wx hS; (try simp only [Act.put, List.setIfInBounds_toArray, List.set_cons_zero, List.set_cons_succ]); (try simp only [Act.eval, Array.getD_eq_getD_getElem?, List.getElem?_toArray, List.getElem?_cons_succ, List.getElem?_cons_zero, Option.getD_some, List.set_cons_succ, List.set_cons_zero, Value.cells, List.toList_toArray] at hS)) | ((with_reducible apply wpA_store1 hS 1); exact rfl; exact rfl; exact rfl; exact rfl; exact rfl; exact rfl; kernel_rfl; intro wx hS; (try simp only [Act.put, List.setIfInBounds_toArray, List.set_cons_zero, List.set_cons_succ]); (try simp only [Act.eval, Array.getD_eq_getD_getElem?, List.getElem?_toArray, List.getElem?_cons_succ, List.getElem?_cons_zero, Option.getD_some, List.set_cons_succ, List.set_cons_zero, Value.cells, List.toList_toArray] at hS)) | ((with_reducible apply wpA_store1 hS 2); exact rfl; exact rfl; exact rfl; exact rfl; exact rfl; exact rfl; kernel_rfl; intro wx hS; (try simp only [Act.put, List.setIfInBounds_toArray, List.set_cons_zero, List.set_cons_succ]); (try simp only [Act.eval, Array.getD_eq_getD_getElem?, List.getElem?_toArray, List.getElem?_cons_succ, List.getElem?_cons_zero, Option.getD_some, List.set_cons_succ, List.set_cons_zero, Value.cells, List.toList_toArray] at hS)) | ((with_reducible apply wpA_store1 hS 3); exact rfl; exact rfl; exact rfl; exact rfl; exact rfl; exact rfl; kernel_rfl; intro wx hS; (try simp only [Act.put, List.setIfInBounds_toArray, List.set_cons_zero, List.set_cons_succ]); (try simp only [Act.eval, Array.getD_eq_getD_getElem?, List.getElem?_toArray, List.getElem?_cons_succ, List.getElem?_cons_zero, Option.getD_some, List.set_cons_succ, List.set_cons_zero, Value.cells, List.toList_toArray] at hS)) | ((with_reducible apply wpA_store1 hS 4); exact rfl; exact rfl; exact rfl; exact rfl; exact rfl; exact rfl; kernel_rfl; intro wx hS; (try simp only [Act.put, List.setIfInBounds_toArray, List.set_cons_zero, List.set_cons_succ]); (try simp only [Act.eval, Array.getD_eq_getD_getElem?, List.getElem?_toArray, List.getElem?_cons_succ, List.getElem?_cons_zero, Option.getD_some, List.set_cons_succ, List.set_cons_zero, Value.cells, List.toList_toArray] at hS)) | ((with_reducible apply wpA_store1 hS 5); exact rfl; exact rfl; exact rfl; exact rfl; exact rfl; exact rfl; kernel_rfl; intro wx hS; (try simp only [Act.put, List.setIfInBounds_toArray, List.set_cons_zero, List.set_cons_succ]); (try simp only [Act.eval, Array.getD_eq_getD_getElem?, List.getElem?_toArray, List.getElem?_cons_succ, List.getElem?_cons_zero, Option.getD_some, List.set_cons_succ, List.set_cons_zero, Value.cells, List.toList_toArray] at hS))) | ((with_reducible apply wpA_box hS); exact rfl; exact rfl; intro _ wx hS; (try simp only [Act.put, List.setIfInBounds_toArray, List.set_cons_zero, List.set_cons_succ]); (try simp only [Act.eval, Array.getD_eq_getD_getElem?, List.getElem?_toArray, List.getElem?_cons_succ, List.getElem?_cons_zero, Option.getD_some, List.set_cons_succ, List.set_cons_zero, Value.cells, List.toList_toArray] at hS)))
  have hL2 := hL1.sub (R' := []) (List.sublist_cons_self _ _)
  obtain ⟨E, hE⟩ : ∃ E, beginE 0 [1] = E := ⟨_, rfl⟩
  rw [hE] at hL2
  clear hE hL hL1 hb hS
  obtain ⟨N, hN⟩ : ∃ N, min rs.length 100 = N := ⟨_, rfl⟩
  have HN := Lib.hid hN
  clear hN
  go_cut [6] (fun _ wr => LeaseSt w0 wr g [] (some ⟨E, (List.range N).map (mkK rs)⟩))
  case first =>
    go_wp2_with (first | ((with_reducible apply wpA_guard); exact rfl; skip) | ((with_reducible apply wpA_load); exact rfl; (first | exact hS.cell 0 rfl _ rfl | exact hS.cell 1 rfl _ rfl | exact hS.cell 2 rfl _ rfl | exact hS.cell 3 rfl _ rfl | exact hS.cell 4 rfl _ rfl | exact hS.cell 5 rfl _ rfl | exact hS.cell 6 rfl _ rfl | exact hS.cell 7 rfl _ rfl | assumption); kernel_rfl) | (first | ((with_reducible apply wpA_store1 hS 0); exact rfl; exact rfl; exact rfl; exact rfl; exact rfl; exact rfl; kernel_rfl; intro wx hS; (try simp only [Act.put, List.setIfInBounds_toArray, List.set_cons_zero, List.set_cons_succ]); (try simp only [Act.eval, Array.getD_eq_getD_getElem?, List.getElem?_toArray, List.getElem?_cons_succ, List.getElem?_cons_zero, Option.getD_some, List.set_cons_succ, List.set_cons_zero, Value.cells, List.toList_toArray] at hS)) | ((with_reducible apply wpA_store1 hS 1); exact rfl; exact rfl; exact rfl; exact rfl; exact rfl; exact rfl; kernel_rfl; intro wx hS; (try simp only [Act.put, List.setIfInBounds_toArray, List.set_cons_zero, List.set_cons_succ]); (try simp only [Act.eval, Array.getD_eq_getD_getElem?, List.getElem?_toArray, List.getElem?_cons_succ, List.getElem?_cons_zero, Option.getD_some, List.set_cons_succ, List.set_cons_zero, Value.cells, List.toList_toArray] at hS)) | ((with_reducible apply wpA_store1 hS 2); exact rfl; exact rfl; exact rfl; exact rfl; exact rfl; exact rfl; kernel_rfl; intro wx hS; (try simp only [Act.put, List.setIfInBounds_toArray, List.set_cons_zero, List.set_cons_succ]); (try simp only [Act.eval, Array.getD_eq_getD_getElem?, List.getElem?_toArray, List.getElem?_cons_succ, List.getElem?_cons_zero, Option.getD_some, List.set_cons_succ, List.set_cons_zero, Value.cells, List.toList_toArray] at hS)) | ((with_reducible apply wpA_store1 hS 3); exact rfl; exact rfl; exact rfl; exact rfl; exact rfl; exact rfl; kernel_rfl; intro wx hS; (try simp only [Act.put, List.setIfInBounds_toArray, List.set_cons_zero, List.set_cons_succ]); (try simp only [Act.eval, Array.getD_eq_getD_getElem?, List.getElem?_toArray, List.getElem?_cons_succ, List.getElem?_cons_zero, Option.getD_some, List.set_cons_succ, List.set_cons_zero, Value.cells, List.toList_toArray] at hS)) | ((with_reducible apply wpA_store1 hS 4); exact rfl; exact rfl; exact rfl; exact rfl; exact rfl; exact rfl; kernel_rfl; intro wx hS; (try simp only [Act.put, List.setIfInBounds_toArray, List.set_cons_zero, List.set_cons_succ]); (try simp only [Act.eval, Array.getD_eq_getD_getElem?, List.getElem?_toArray, List.getElem?_cons_succ, List.getElem?_cons_zero, Option.getD_some, List.set_cons_succ, List.set_cons_zero, Value.cells, List.toList_toArray] at hS)) | ((with_reducible apply wpA_store1 hS 5); exact rfl; exact rfl; exact rfl; exact rfl; exact rfl; exact rfl; kernel_rfl; intro wx hS; (try simp only [Act.put, List.setIfInBounds_toArray, List.set_cons_zero, List.set_cons_succ]); (try simp only [Act.eval, Array.getD_eq_getD_getElem?, List.getElem?_toArray, List.getElem?_cons_succ, List.getElem?_cons_zero, Option.getD_some, List.set_cons_succ, List.set_cons_zero, Value.cells, List.toList_toArray] at hS))) | ((with_reducible apply wpA_box hS); exact rfl; exact rfl; intro _ wx hS; (try simp only [Act.put, List.setIfInBounds_toArray, List.set_cons_zero, List.set_cons_succ]); (try simp only [Act.eval, Array.getD_eq_getD_getElem?, List.getElem?_toArray, List.getElem?_cons_succ, List.getElem?_cons_zero, Option.getD_some, List.set_cons_succ, List.set_cons_zero, Value.cells, List.toList_toArray] at hS)))
    go_loopw [6] (fun c wr => ∃ i : Nat, i ≤ N ∧ c = .int .i64 i ∧ LeaseSt w0 wr g [] (some ⟨E, (List.range i).map (mkK rs)⟩)) (fun c _ => N - (intOf c).toNat)
    case atStart => exact ⟨0, Nat.zero_le _, rfl, hL2⟩
    case round =>
      clear hL2
      obtain ⟨i, hi, rfl, hL⟩ := hrel
      have hn := HN.out
      by_cases h1 : i < rs.length
      · by_cases h2 : i < 100
        · rcases HR.out with h | ⟨b, off, rfl, hcell⟩
          · rw [h] at h1; simp at h1
          obtain ⟨x, hx⟩ : ∃ x, rs[i]? = some x := ⟨_, List.getElem?_eq_getElem h1⟩
          have hld := hL.rest.oldCell (hcell i x hx)
          have hlt : i < N := by omega
          have hk := keep1 hL hx h2
          clear hcell hx hn
          go_wp2_with (first | ((with_reducible apply wpA_guard); exact rfl; skip) | (go_at_call 9; with_reducible refine (hk).mono ?_; rintro _ _ ⟨rfl, hL⟩) | ((with_reducible apply wpA_load); exact rfl; (first | exact hS.cell 0 rfl _ rfl | exact hS.cell 1 rfl _ rfl | exact hS.cell 2 rfl _ rfl | exact hS.cell 3 rfl _ rfl | exact hS.cell 4 rfl _ rfl | exact hS.cell 5 rfl _ rfl | exact hS.cell 6 rfl _ rfl | exact hS.cell 7 rfl _ rfl | assumption); kernel_rfl) | (first | ((with_reducible apply wpA_store1 hS 0); exact rfl; exact rfl; exact rfl; exact rfl; exact rfl; exact rfl; kernel_rfl; intro wx hS; (try simp only [Act.put, List.setIfInBounds_toArray, List.set_cons_zero, List.set_cons_succ]); (try simp only [Act.eval, Array.getD_eq_getD_getElem?, List.getElem?_toArray, List.getElem?_cons_succ, List.getElem?_cons_zero, Option.getD_some, List.set_cons_succ, List.set_cons_zero, Value.cells, List.toList_toArray] at hS)) | ((with_reducible apply wpA_store1 hS 1); exact rfl; exact rfl; exact rfl; exact rfl; exact rfl; exact rfl; kernel_rfl; intro wx hS; (try simp only [Act.put, List.setIfInBounds_toArray, List.set_cons_zero, List.set_cons_succ]); (try simp only [Act.eval, Array.getD_eq_getD_getElem?, List.getElem?_toArray, List.getElem?_cons_succ, List.getElem?_cons_zero, Option.getD_some, List.set_cons_succ, List.set_cons_zero, Value.cells, List.toList_toArray] at hS)) | ((with_reducible apply wpA_store1 hS 2); exact rfl; exact rfl; exact rfl; exact rfl; exact rfl; exact rfl; kernel_rfl; intro wx hS; (try simp only [Act.put, List.setIfInBounds_toArray, List.set_cons_zero, List.set_cons_succ]); (try simp only [Act.eval, Array.getD_eq_getD_getElem?, List.getElem?_toArray, List.getElem?_cons_succ, List.getElem?_cons_zero, Option.getD_some, List.set_cons_succ, List.set_cons_zero, Value.cells, List.toList_toArray] at hS)) | ((with_reducible apply wpA_store1 hS 3); exact rfl; exact rfl; exact rfl; exact rfl; exact rfl; exact rfl; kernel_rfl; intro wx hS; (try simp only [Act.put, List.setIfInBounds_toArray, List.set_cons_zero, List.set_cons_succ]); (try simp only [Act.eval, Array.getD_eq_getD_getElem?, List.getElem?_toArray, List.getElem?_cons_succ, List.getElem?_cons_zero, Option.getD_some, List.set_cons_succ, List.set_cons_zero, Value.cells, List.toList_toArray] at hS)) | ((with_reducible apply wpA_store1 hS 4); exact rfl; exact rfl; exact rfl; exact rfl; exact rfl; exact rfl; kernel_rfl; intro wx hS; (try simp only [Act.put, List.setIfInBounds_toArray, List.set_cons_zero, List.set_cons_succ]); (try simp only [Act.eval, Array.getD_eq_getD_getElem?, List.getElem?_toArray, List.getElem?_cons_succ, List.getElem?_cons_zero, Option.getD_some, List.set_cons_succ, List.set_cons_zero, Value.cells, List.toList_toArray] at hS)) | ((with_reducible apply wpA_store1 hS 5); exact rfl; exact rfl; exact rfl; exact rfl; exact rfl; exact rfl; kernel_rfl; intro wx hS; (try simp only [Act.put, List.setIfInBounds_toArray, List.set_cons_zero, List.set_cons_succ]); (try simp only [Act.eval, Array.getD_eq_getD_getElem?, List.getElem?_toArray, List.getElem?_cons_succ, List.getElem?_cons_zero, Option.getD_some, List.set_cons_succ, List.set_cons_zero, Value.cells, List.toList_toArray] at hS))) | ((with_reducible apply wpA_box hS); exact rfl; exact rfl; intro _ wx hS; (try simp only [Act.put, List.setIfInBounds_toArray, List.set_cons_zero, List.set_cons_succ]); (try simp only [Act.eval, Array.getD_eq_getD_getElem?, List.getElem?_toArray, List.getElem?_cons_succ, List.getElem?_cons_zero, Option.getD_some, List.set_cons_succ, List.set_cons_zero, Value.cells, List.toList_toArray] at hS)))
          go_roundw
          case rel => exact ⟨i + 1, by omega, by go_num, hL⟩
          case measure => simp [intOf]; omega
        · have e : i = N := by omega
          clear hn
          go_wp2_with (first | ((with_reducible apply wpA_guard); exact rfl; skip) | ((with_reducible apply wpA_load); exact rfl; (first | exact hS.cell 0 rfl _ rfl | exact hS.cell 1 rfl _ rfl | exact hS.cell 2 rfl _ rfl | exact hS.cell 3 rfl _ rfl | exact hS.cell 4 rfl _ rfl | exact hS.cell 5 rfl _ rfl | exact hS.cell 6 rfl _ rfl | exact hS.cell 7 rfl _ rfl | assumption); kernel_rfl) | (first | ((with_reducible apply wpA_store1 hS 0); exact rfl; exact rfl; exact rfl; exact rfl; exact rfl; exact rfl; kernel_rfl; intro wx hS; (try simp only [Act.put, List.setIfInBounds_toArray, List.set_cons_zero, List.set_cons_succ]); (try simp only [Act.eval, Array.getD_eq_getD_getElem?, List.getElem?_toArray, List.getElem?_cons_succ, List.getElem?_cons_zero, Option.getD_some, List.set_cons_succ, List.set_cons_zero, Value.cells, List.toList_toArray] at hS)) | ((with_reducible apply wpA_store1 hS 1); exact rfl; exact rfl; exact rfl; exact rfl; exact rfl; exact rfl; kernel_rfl; intro wx hS; (try simp only [Act.put, List.setIfInBounds_toArray, List.set_cons_zero, List.set_cons_succ]); (try simp only [Act.eval, Array.getD_eq_getD_getElem?, List.getElem?_toArray, List.getElem?_cons_succ, List.getElem?_cons_zero, Option.getD_some, List.set_cons_succ, List.set_cons_zero, Value.cells, List.toList_toArray] at hS)) | ((with_reducible apply wpA_store1 hS 2); exact rfl; exact rfl; exact rfl; exact rfl; exact rfl; exact rfl; kernel_rfl; intro wx hS; (try simp only [Act.put, List.setIfInBounds_toArray, List.set_cons_zero, List.set_cons_succ]); (try simp only [Act.eval, Array.getD_eq_getD_getElem?, List.getElem?_toArray, List.getElem?_cons_succ, List.getElem?_cons_zero, Option.getD_some, List.set_cons_succ, List.set_cons_zero, Value.cells, List.toList_toArray] at hS)) | ((with_reducible apply wpA_store1 hS 3); exact rfl; exact rfl; exact rfl; exact rfl; exact rfl; exact rfl; kernel_rfl; intro wx hS; (try simp only [Act.put, List.setIfInBounds_toArray, List.set_cons_zero, List.set_cons_succ]); (try simp only [Act.eval, Array.getD_eq_getD_getElem?, List.getElem?_toArray, List.getElem?_cons_succ, List.getElem?_cons_zero, Option.getD_some, List.set_cons_succ, List.set_cons_zero, Value.cells, List.toList_toArray] at hS)) | ((with_reducible apply wpA_store1 hS 4); exact rfl; exact rfl; exact rfl; exact rfl; exact rfl; exact rfl; kernel_rfl; intro wx hS; (try simp only [Act.put, List.setIfInBounds_toArray, List.set_cons_zero, List.set_cons_succ]); (try simp only [Act.eval, Array.getD_eq_getD_getElem?, List.getElem?_toArray, List.getElem?_cons_succ, List.getElem?_cons_zero, Option.getD_some, List.set_cons_succ, List.set_cons_zero, Value.cells, List.toList_toArray] at hS)) | ((with_reducible apply wpA_store1 hS 5); exact rfl; exact rfl; exact rfl; exact rfl; exact rfl; exact rfl; kernel_rfl; intro wx hS; (try simp only [Act.put, List.setIfInBounds_toArray, List.set_cons_zero, List.set_cons_succ]); (try simp only [Act.eval, Array.getD_eq_getD_getElem?, List.getElem?_toArray, List.getElem?_cons_succ, List.getElem?_cons_zero, Option.getD_some, List.set_cons_succ, List.set_cons_zero, Value.cells, List.toList_toArray] at hS))) | ((with_reducible apply wpA_box hS); exact rfl; exact rfl; intro _ wx hS; (try simp only [Act.put, List.setIfInBounds_toArray, List.set_cons_zero, List.set_cons_succ]); (try simp only [Act.eval, Array.getD_eq_getD_getElem?, List.getElem?_toArray, List.getElem?_cons_succ, List.getElem?_cons_zero, Option.getD_some, List.set_cons_succ, List.set_cons_zero, Value.cells, List.toList_toArray] at hS)))
          go_meet
          exact e ▸ hL
      · have e : i = N := by omega
        clear hn
        go_wp2_with (first | ((with_reducible apply wpA_guard); exact rfl; skip) | ((with_reducible apply wpA_load); exact rfl; (first | exact hS.cell 0 rfl _ rfl | exact hS.cell 1 rfl _ rfl | exact hS.cell 2 rfl _ rfl | exact hS.cell 3 rfl _ rfl | exact hS.cell 4 rfl _ rfl | exact hS.cell 5 rfl _ rfl | exact hS.cell 6 rfl _ rfl | exact hS.cell 7 rfl _ rfl | assumption); kernel_rfl) | (first | ((with_reducible apply wpA_store1 hS 0); exact rfl; exact rfl; exact rfl; exact rfl; exact rfl; exact rfl; kernel_rfl; intro wx hS; (try simp only [Act.put, List.setIfInBounds_toArray, List.set_cons_zero, List.set_cons_succ]); (try simp only [Act.eval, Array.getD_eq_getD_getElem?, List.getElem?_toArray, List.getElem?_cons_succ, List.getElem?_cons_zero, Option.getD_some, List.set_cons_succ, List.set_cons_zero, Value.cells, List.toList_toArray] at hS)) | ((with_reducible apply wpA_store1 hS 1); exact rfl; exact rfl; exact rfl; exact rfl; exact rfl; exact rfl; kernel_rfl; intro wx hS; (try simp only [Act.put, List.setIfInBounds_toArray, List.set_cons_zero, List.set_cons_succ]); (try simp only [Act.eval, Array.getD_eq_getD_getElem?, List.getElem?_toArray, List.getElem?_cons_succ, List.getElem?_cons_zero, Option.getD_some, List.set_cons_succ, List.set_cons_zero, Value.cells, List.toList_toArray] at hS)) | ((with_reducible apply wpA_store1 hS 2); exact rfl; exact rfl; exact rfl; exact rfl; exact rfl; exact rfl; kernel_rfl; intro wx hS; (try simp only [Act.put, List.setIfInBounds_toArray, List.set_cons_zero, List.set_cons_succ]); (try simp only [Act.eval, Array.getD_eq_getD_getElem?, List.getElem?_toArray, List.getElem?_cons_succ, List.getElem?_cons_zero, Option.getD_some, List.set_cons_succ, List.set_cons_zero, Value.cells, List.toList_toArray] at hS)) | ((with_reducible apply wpA_store1 hS 3); exact rfl; exact rfl; exact rfl; exact rfl; exact rfl; exact rfl; kernel_rfl; intro wx hS; (try simp only [Act.put, List.setIfInBounds_toArray, List.set_cons_zero, List.set_cons_succ]); (try simp only [Act.eval, Array.getD_eq_getD_getElem?, List.getElem?_toArray, List.getElem?_cons_succ, List.getElem?_cons_zero, Option.getD_some, List.set_cons_succ, List.set_cons_zero, Value.cells, List.toList_toArray] at hS)) | ((with_reducible apply wpA_store1 hS 4); exact rfl; exact rfl; exact rfl; exact rfl; exact rfl; exact rfl; kernel_rfl; intro wx hS; (try simp only [Act.put, List.setIfInBounds_toArray, List.set_cons_zero, List.set_cons_succ]); (try simp only [Act.eval, Array.getD_eq_getD_getElem?, List.getElem?_toArray, List.getElem?_cons_succ, List.getElem?_cons_zero, Option.getD_some, List.set_cons_succ, List.set_cons_zero, Value.cells, List.toList_toArray] at hS)) | ((with_reducible apply wpA_store1 hS 5); exact rfl; exact rfl; exact rfl; exact rfl; exact rfl; exact rfl; kernel_rfl; intro wx hS; (try simp only [Act.put, List.setIfInBounds_toArray, List.set_cons_zero, List.set_cons_succ]); (try simp only [Act.eval, Array.getD_eq_getD_getElem?, List.getElem?_toArray, List.getElem?_cons_succ, List.getElem?_cons_zero, Option.getD_some, List.set_cons_succ, List.set_cons_zero, Value.cells, List.toList_toArray] at hS))) | ((with_reducible apply wpA_box hS); exact rfl; exact rfl; intro _ wx hS; (try simp only [Act.put, List.setIfInBounds_toArray, List.set_cons_zero, List.set_cons_succ]); (try simp only [Act.eval, Array.getD_eq_getD_getElem?, List.getElem?_toArray, List.getElem?_cons_succ, List.getElem?_cons_zero, Option.getD_some, List.set_cons_succ, List.set_cons_zero, Value.cells, List.toList_toArray] at hS)))
        go_meet
        exact e ▸ hL
  case rest =>
    obtain ⟨D, hS, hb⟩ := LeaseSt.use hcut
    go_upto_block 2 with (first | ((with_reducible apply wpA_guard); exact rfl; skip) | ((with_reducible apply wpA_makeC hS (z := .bool false) (bytes := 1) (n := 100)); exact rfl; exact rfl; exact Try.underlying39; kernel_rfl; exact rfl; exact (by decide); exact (by decide); intro gs wx hS; (try simp only [Act.put, List.setIfInBounds_toArray, List.set_cons_zero, List.set_cons_succ])) | ((with_reducible apply wpA_load); exact rfl; (first | exact hS.cell 0 rfl _ rfl | exact hS.cell 1 rfl _ rfl | exact hS.cell 2 rfl _ rfl | exact hS.cell 3 rfl _ rfl | exact hS.cell 4 rfl _ rfl | exact hS.cell 5 rfl _ rfl | exact hS.cell 6 rfl _ rfl | exact hS.cell 7 rfl _ rfl | assumption); kernel_rfl) | (first | ((with_reducible apply wpA_store1 hS 0); exact rfl; exact rfl; exact rfl; exact rfl; exact rfl; exact rfl; kernel_rfl; intro wx hS; (try simp only [Act.put, List.setIfInBounds_toArray, List.set_cons_zero, List.set_cons_succ]); (try simp only [Act.eval, Array.getD_eq_getD_getElem?, List.getElem?_toArray, List.getElem?_cons_succ, List.getElem?_cons_zero, Option.getD_some, List.set_cons_succ, List.set_cons_zero, Value.cells, List.toList_toArray] at hS)) | ((with_reducible apply wpA_store1 hS 1); exact rfl; exact rfl; exact rfl; exact rfl; exact rfl; exact rfl; kernel_rfl; intro wx hS; (try simp only [Act.put, List.setIfInBounds_toArray, List.set_cons_zero, List.set_cons_succ]); (try simp only [Act.eval, Array.getD_eq_getD_getElem?, List.getElem?_toArray, List.getElem?_cons_succ, List.getElem?_cons_zero, Option.getD_some, List.set_cons_succ, List.set_cons_zero, Value.cells, List.toList_toArray] at hS)) | ((with_reducible apply wpA_store1 hS 2); exact rfl; exact rfl; exact rfl; exact rfl; exact rfl; exact rfl; kernel_rfl; intro wx hS; (try simp only [Act.put, List.setIfInBounds_toArray, List.set_cons_zero, List.set_cons_succ]); (try simp only [Act.eval, Array.getD_eq_getD_getElem?, List.getElem?_toArray, List.getElem?_cons_succ, List.getElem?_cons_zero, Option.getD_some, List.set_cons_succ, List.set_cons_zero, Value.cells, List.toList_toArray] at hS)) | ((with_reducible apply wpA_store1 hS 3); exact rfl; exact rfl; exact rfl; exact rfl; exact rfl; exact rfl; kernel_rfl; intro wx hS; (try simp only [Act.put, List.setIfInBounds_toArray, List.set_cons_zero, List.set_cons_succ]); (try simp only [Act.eval, Array.getD_eq_getD_getElem?, List.getElem?_toArray, List.getElem?_cons_succ, List.getElem?_cons_zero, Option.getD_some, List.set_cons_succ, List.set_cons_zero, Value.cells, List.toList_toArray] at hS)) | ((with_reducible apply wpA_store1 hS 4); exact rfl; exact rfl; exact rfl; exact rfl; exact rfl; exact rfl; kernel_rfl; intro wx hS; (try simp only [Act.put, List.setIfInBounds_toArray, List.set_cons_zero, List.set_cons_succ]); (try simp only [Act.eval, Array.getD_eq_getD_getElem?, List.getElem?_toArray, List.getElem?_cons_succ, List.getElem?_cons_zero, Option.getD_some, List.set_cons_succ, List.set_cons_zero, Value.cells, List.toList_toArray] at hS)) | ((with_reducible apply wpA_store1 hS 5); exact rfl; exact rfl; exact rfl; exact rfl; exact rfl; exact rfl; kernel_rfl; intro wx hS; (try simp only [Act.put, List.setIfInBounds_toArray, List.set_cons_zero, List.set_cons_succ]); (try simp only [Act.eval, Array.getD_eq_getD_getElem?, List.getElem?_toArray, List.getElem?_cons_succ, List.getElem?_cons_zero, Option.getD_some, List.set_cons_succ, List.set_cons_zero, Value.cells, List.toList_toArray] at hS))) | ((with_reducible apply wpA_box hS); exact rfl; exact rfl; intro _ wx hS; (try simp only [Act.put, List.setIfInBounds_toArray, List.set_cons_zero, List.set_cons_succ]); (try simp only [Act.eval, Array.getD_eq_getD_getElem?, List.getElem?_toArray, List.getElem?_cons_succ, List.getElem?_cons_zero, Option.getD_some, List.set_cons_succ, List.set_cons_zero, Value.cells, List.toList_toArray] at hS)))
    have hL3 : LeaseSt w0 wx g [.cells gs (saidL fun _ => false) 4] (some ⟨E, (notSaid N fun _ => false).map (mkK rs)⟩) := by
      have e : notSaid N (fun _ => false) = List.range N := by unfold notSaid; simp
      rw [e]
      exact hb _ _ (hS.perm List.perm_middle.symm)
    clear hcut hS hb
    go_cut [8] (fun _ wr => St w0 wr [])
    case first =>
      go_wp2_with (first | ((with_reducible apply wpA_guard); exact rfl; skip) | ((with_reducible apply wpA_load); exact rfl; (first | exact hS.cell 0 rfl _ rfl | exact hS.cell 1 rfl _ rfl | exact hS.cell 2 rfl _ rfl | exact hS.cell 3 rfl _ rfl | exact hS.cell 4 rfl _ rfl | exact hS.cell 5 rfl _ rfl | exact hS.cell 6 rfl _ rfl | exact hS.cell 7 rfl _ rfl | assumption); kernel_rfl) | (first | ((with_reducible apply wpA_store1 hS 0); exact rfl; exact rfl; exact rfl; exact rfl; exact rfl; exact rfl; kernel_rfl; intro wx hS; (try simp only [Act.put, List.setIfInBounds_toArray, List.set_cons_zero, List.set_cons_succ]); (try simp only [Act.eval, Array.getD_eq_getD_getElem?, List.getElem?_toArray, List.getElem?_cons_succ, List.getElem?_cons_zero, Option.getD_some, List.set_cons_succ, List.set_cons_zero, Value.cells, List.toList_toArray] at hS)) | ((with_reducible apply wpA_store1 hS 1); exact rfl; exact rfl; exact rfl; exact rfl; exact rfl; exact rfl; kernel_rfl; intro wx hS; (try simp only [Act.put, List.setIfInBounds_toArray, List.set_cons_zero, List.set_cons_succ]); (try simp only [Act.eval, Array.getD_eq_getD_getElem?, List.getElem?_toArray, List.getElem?_cons_succ, List.getElem?_cons_zero, Option.getD_some, List.set_cons_succ, List.set_cons_zero, Value.cells, List.toList_toArray] at hS)) | ((with_reducible apply wpA_store1 hS 2); exact rfl; exact rfl; exact rfl; exact rfl; exact rfl; exact rfl; kernel_rfl; intro wx hS; (try simp only [Act.put, List.setIfInBounds_toArray, List.set_cons_zero, List.set_cons_succ]); (try simp only [Act.eval, Array.getD_eq_getD_getElem?, List.getElem?_toArray, List.getElem?_cons_succ, List.getElem?_cons_zero, Option.getD_some, List.set_cons_succ, List.set_cons_zero, Value.cells, List.toList_toArray] at hS)) | ((with_reducible apply wpA_store1 hS 3); exact rfl; exact rfl; exact rfl; exact rfl; exact rfl; exact rfl; kernel_rfl; intro wx hS; (try simp only [Act.put, List.setIfInBounds_toArray, List.set_cons_zero, List.set_cons_succ]); (try simp only [Act.eval, Array.getD_eq_getD_getElem?, List.getElem?_toArray, List.getElem?_cons_succ, List.getElem?_cons_zero, Option.getD_some, List.set_cons_succ, List.set_cons_zero, Value.cells, List.toList_toArray] at hS)) | ((with_reducible apply wpA_store1 hS 4); exact rfl; exact rfl; exact rfl; exact rfl; exact rfl; exact rfl; kernel_rfl; intro wx hS; (try simp only [Act.put, List.setIfInBounds_toArray, List.set_cons_zero, List.set_cons_succ]); (try simp only [Act.eval, Array.getD_eq_getD_getElem?, List.getElem?_toArray, List.getElem?_cons_succ, List.getElem?_cons_zero, Option.getD_some, List.set_cons_succ, List.set_cons_zero, Value.cells, List.toList_toArray] at hS)) | ((with_reducible apply wpA_store1 hS 5); exact rfl; exact rfl; exact rfl; exact rfl; exact rfl; exact rfl; kernel_rfl; intro wx hS; (try simp only [Act.put, List.setIfInBounds_toArray, List.set_cons_zero, List.set_cons_succ]); (try simp only [Act.eval, Array.getD_eq_getD_getElem?, List.getElem?_toArray, List.getElem?_cons_succ, List.getElem?_cons_zero, Option.getD_some, List.set_cons_succ, List.set_cons_zero, Value.cells, List.toList_toArray] at hS))) | ((with_reducible apply wpA_box hS); exact rfl; exact rfl; intro _ wx hS; (try simp only [Act.put, List.setIfInBounds_toArray, List.set_cons_zero, List.set_cons_succ]); (try simp only [Act.eval, Array.getD_eq_getD_getElem?, List.getElem?_toArray, List.getElem?_cons_succ, List.getElem?_cons_zero, Option.getD_some, List.set_cons_succ, List.set_cons_zero, Value.cells, List.toList_toArray] at hS)))
      go_loopw [8] (fun s wr => ∃ i : Nat, i ≤ min cs.length 100 ∧ s = .int .i64 i ∧ ∃ sd E, LeaseSt w0 wr g [.cells gs (saidL sd) 4] (some ⟨E, (notSaid N sd).map (mkK rs)⟩)) (fun s _ => min cs.length 100 - (intOf s).toNat)
      case atStart => exact ⟨0, Nat.zero_le _, rfl, _, E, hL3⟩
      case round =>
        clear hL3
        obtain ⟨i, hi, rfl, sd, E, hL⟩ := hrel
        by_cases h1 : i < cs.length
        · by_cases h2 : i < 100
          · rcases HC.out with h | ⟨b2, off2, rfl, hcell⟩
            · rw [h] at h1; simp at h1
            obtain ⟨c, hx⟩ : ∃ c, cs[i]? = some c := ⟨_, List.getElem?_eq_getElem h1⟩
            have hci := hcell i c hx
            have hld := hL.rest.oldCell hci
            have hN100 : N ≤ 100 := by have := HN.out; omega
            have hlt : i + 1 ≤ min cs.length 100 := by omega
            have HLT := Lib.hid hlt
            clear hcell hx hlt hi
            obtain ⟨D, hS, hb⟩ := hL.use
            go_upto_block 4 with (first | ((with_reducible apply wpA_guard); exact rfl; skip) | ((with_reducible apply wpA_one hS (z := .int .i64 0) (bytes := 8)); exact Try.underlying26; kernel_rfl; exact rfl; exact rfl; exact rfl; intro _ wx hS; (try simp only [Act.put, List.setIfInBounds_toArray, List.set_cons_zero, List.set_cons_succ]); (try simp only [Act.eval, Array.getD_eq_getD_getElem?, List.getElem?_toArray, List.getElem?_cons_succ, List.getElem?_cons_zero, Option.getD_some, List.set_cons_succ, List.set_cons_zero, Value.cells, List.toList_toArray] at hS)) | (go_at_call 10; with_reducible refine (conf1 hN100 hb hS).mono ?_; rintro _ _ ⟨aq, capq, E2, rfl, hL2⟩) | ((with_reducible apply wpA_load); exact rfl; (first | exact hS.cell 0 rfl _ rfl | exact hS.cell 1 rfl _ rfl | exact hS.cell 2 rfl _ rfl | exact hS.cell 3 rfl _ rfl | exact hS.cell 4 rfl _ rfl | exact hS.cell 5 rfl _ rfl | exact hS.cell 6 rfl _ rfl | exact hS.cell 7 rfl _ rfl | assumption); kernel_rfl) | (first | ((with_reducible apply wpA_store1 hS 0); exact rfl; exact rfl; exact rfl; exact rfl; exact rfl; exact rfl; kernel_rfl; intro wx hS; (try simp only [Act.put, List.setIfInBounds_toArray, List.set_cons_zero, List.set_cons_succ]); (try simp only [Act.eval, Array.getD_eq_getD_getElem?, List.getElem?_toArray, List.getElem?_cons_succ, List.getElem?_cons_zero, Option.getD_some, List.set_cons_succ, List.set_cons_zero, Value.cells, List.toList_toArray] at hS)) | ((with_reducible apply wpA_store1 hS 1); exact rfl; exact rfl; exact rfl; exact rfl; exact rfl; exact rfl; kernel_rfl; intro wx hS; (try simp only [Act.put, List.setIfInBounds_toArray, List.set_cons_zero, List.set_cons_succ]); (try simp only [Act.eval, Array.getD_eq_getD_getElem?, List.getElem?_toArray, List.getElem?_cons_succ, List.getElem?_cons_zero, Option.getD_some, List.set_cons_succ, List.set_cons_zero, Value.cells, List.toList_toArray] at hS)) | ((with_reducible apply wpA_store1 hS 2); exact rfl; exact rfl; exact rfl; exact rfl; exact rfl; exact rfl; kernel_rfl; intro wx hS; (try simp only [Act.put, List.setIfInBounds_toArray, List.set_cons_zero, List.set_cons_succ]); (try simp only [Act.eval, Array.getD_eq_getD_getElem?, List.getElem?_toArray, List.getElem?_cons_succ, List.getElem?_cons_zero, Option.getD_some, List.set_cons_succ, List.set_cons_zero, Value.cells, List.toList_toArray] at hS)) | ((with_reducible apply wpA_store1 hS 3); exact rfl; exact rfl; exact rfl; exact rfl; exact rfl; exact rfl; kernel_rfl; intro wx hS; (try simp only [Act.put, List.setIfInBounds_toArray, List.set_cons_zero, List.set_cons_succ]); (try simp only [Act.eval, Array.getD_eq_getD_getElem?, List.getElem?_toArray, List.getElem?_cons_succ, List.getElem?_cons_zero, Option.getD_some, List.set_cons_succ, List.set_cons_zero, Value.cells, List.toList_toArray] at hS)) | ((with_reducible apply wpA_store1 hS 4); exact rfl; exact rfl; exact rfl; exact rfl; exact rfl; exact rfl; kernel_rfl; intro wx hS; (try simp only [Act.put, List.setIfInBounds_toArray, List.set_cons_zero, List.set_cons_succ]); (try simp only [Act.eval, Array.getD_eq_getD_getElem?, List.getElem?_toArray, List.getElem?_cons_succ, List.getElem?_cons_zero, Option.getD_some, List.set_cons_succ, List.set_cons_zero, Value.cells, List.toList_toArray] at hS)) | ((with_reducible apply wpA_store1 hS 5); exact rfl; exact rfl; exact rfl; exact rfl; exact rfl; exact rfl; kernel_rfl; intro wx hS; (try simp only [Act.put, List.setIfInBounds_toArray, List.set_cons_zero, List.set_cons_succ]); (try simp only [Act.eval, Array.getD_eq_getD_getElem?, List.getElem?_toArray, List.getElem?_cons_succ, List.getElem?_cons_zero, Option.getD_some, List.set_cons_succ, List.set_cons_zero, Value.cells, List.toList_toArray] at hS))) | ((with_reducible apply wpA_box hS); exact rfl; exact rfl; intro _ wx hS; (try simp only [Act.put, List.setIfInBounds_toArray, List.set_cons_zero, List.set_cons_succ]); (try simp only [Act.eval, Array.getD_eq_getD_getElem?, List.getElem?_toArray, List.getElem?_cons_succ, List.getElem?_cons_zero, Option.getD_some, List.set_cons_succ, List.set_cons_zero, Value.cells, List.toList_toArray] at hS)))
            clear hb hS hL hld
            go_cut [10] (fun _ wr => LeaseSt w0 wr g [.cells gs (saidL (sdNext N rs sd c)) 4] (some ⟨E2, (notSaid N (sdNext N rs sd c)).map (mkK rs)⟩))
            case first =>
              go_wp2_with (first | ((with_reducible apply wpA_guard); exact rfl; skip) | ((with_reducible apply wpA_load); exact rfl; (first | exact hS.cell 0 rfl _ rfl | exact hS.cell 1 rfl _ rfl | exact hS.cell 2 rfl _ rfl | exact hS.cell 3 rfl _ rfl | exact hS.cell 4 rfl _ rfl | exact hS.cell 5 rfl _ rfl | exact hS.cell 6 rfl _ rfl | exact hS.cell 7 rfl _ rfl | assumption); kernel_rfl) | (first | ((with_reducible apply wpA_store1 hS 0); exact rfl; exact rfl; exact rfl; exact rfl; exact rfl; exact rfl; kernel_rfl; intro wx hS; (try simp only [Act.put, List.setIfInBounds_toArray, List.set_cons_zero, List.set_cons_succ]); (try simp only [Act.eval, Array.getD_eq_getD_getElem?, List.getElem?_toArray, List.getElem?_cons_succ, List.getElem?_cons_zero, Option.getD_some, List.set_cons_succ, List.set_cons_zero, Value.cells, List.toList_toArray] at hS)) | ((with_reducible apply wpA_store1 hS 1); exact rfl; exact rfl; exact rfl; exact rfl; exact rfl; exact rfl; kernel_rfl; intro wx hS; (try simp only [Act.put, List.setIfInBounds_toArray, List.set_cons_zero, List.set_cons_succ]); (try simp only [Act.eval, Array.getD_eq_getD_getElem?, List.getElem?_toArray, List.getElem?_cons_succ, List.getElem?_cons_zero, Option.getD_some, List.set_cons_succ, List.set_cons_zero, Value.cells, List.toList_toArray] at hS)) | ((with_reducible apply wpA_store1 hS 2); exact rfl; exact rfl; exact rfl; exact rfl; exact rfl; exact rfl; kernel_rfl; intro wx hS; (try simp only [Act.put, List.setIfInBounds_toArray, List.set_cons_zero, List.set_cons_succ]); (try simp only [Act.eval, Array.getD_eq_getD_getElem?, List.getElem?_toArray, List.getElem?_cons_succ, List.getElem?_cons_zero, Option.getD_some, List.set_cons_succ, List.set_cons_zero, Value.cells, List.toList_toArray] at hS)) | ((with_reducible apply wpA_store1 hS 3); exact rfl; exact rfl; exact rfl; exact rfl; exact rfl; exact rfl; kernel_rfl; intro wx hS; (try simp only [Act.put, List.setIfInBounds_toArray, List.set_cons_zero, List.set_cons_succ]); (try simp only [Act.eval, Array.getD_eq_getD_getElem?, List.getElem?_toArray, List.getElem?_cons_succ, List.getElem?_cons_zero, Option.getD_some, List.set_cons_succ, List.set_cons_zero, Value.cells, List.toList_toArray] at hS)) | ((with_reducible apply wpA_store1 hS 4); exact rfl; exact rfl; exact rfl; exact rfl; exact rfl; exact rfl; kernel_rfl; intro wx hS; (try simp only [Act.put, List.setIfInBounds_toArray, List.set_cons_zero, List.set_cons_succ]); (try simp only [Act.eval, Array.getD_eq_getD_getElem?, List.getElem?_toArray, List.getElem?_cons_succ, List.getElem?_cons_zero, Option.getD_some, List.set_cons_succ, List.set_cons_zero, Value.cells, List.toList_toArray] at hS)) | ((with_reducible apply wpA_store1 hS 5); exact rfl; exact rfl; exact rfl; exact rfl; exact rfl; exact rfl; kernel_rfl; intro wx hS; (try simp only [Act.put, List.setIfInBounds_toArray, List.set_cons_zero, List.set_cons_succ]); (try simp only [Act.eval, Array.getD_eq_getD_getElem?, List.getElem?_toArray, List.getElem?_cons_succ, List.getElem?_cons_zero, Option.getD_some, List.set_cons_succ, List.set_cons_zero, Value.cells, List.toList_toArray] at hS))) | ((with_reducible apply wpA_box hS); exact rfl; exact rfl; intro _ wx hS; (try simp only [Act.put, List.setIfInBounds_toArray, List.set_cons_zero, List.set_cons_succ]); (try simp only [Act.eval, Array.getD_eq_getD_getElem?, List.getElem?_toArray, List.getElem?_cons_succ, List.getElem?_cons_zero, Option.getD_some, List.set_cons_succ, List.set_cons_zero, Value.cells, List.toList_toArray] at hS)))
              have hlen : (hits N rs sd c).length ≤ 100 := by
                have := List.length_filter_le (fun k => !sd k && decide (rs.getD k 0 ≤ c)) (List.range N)
                simp only [List.length_range] at this
                unfold hits; omega
              go_loopw [10] (fun s wr => ∃ q : Nat, q ≤ (hits N rs sd c).length ∧ s = .int .i64 q ∧ LeaseSt w0 wr g [.row 48 20 aq (hits N rs sd c).length capq ((hits N rs sd c).flatMap fun t => msgCells (mkK rs t, 0)), .cells gs (saidL (sdMid N rs sd c q)) 4] (some ⟨E2, (notSaid N (sdNext N rs sd c)).map (mkK rs)⟩)) (fun s _ => (hits N rs sd c).length - (intOf s).toNat)
              case atStart => exact ⟨0, Nat.zero_le _, rfl, by rw [sdMid_zero]; exact hL2⟩
              case round =>
                clear hL2
                obtain ⟨q, hq, rfl, hL⟩ := hrel
                by_cases hlt : q < (hits N rs sd c).length
                · obtain ⟨t, ht⟩ : ∃ t, (hits N rs sd c)[q]? = some t := ⟨_, List.getElem?_eq_getElem hlt⟩
                  obtain ⟨t1, t2, t3, t4⟩ := hits_spec ht
                  have t5 := sdMid_false ht
                  have t6 := sdMid_succ ht
                  obtain ⟨D, hS0, hb⟩ := hL.use
                  have hS : St w0 wr (.row 48 20 aq (hits N rs sd c).length capq ((hits N rs sd c).flatMap fun t => msgCells (mkK rs t, 0)) :: .cells gs (saidL (sdMid N rs sd c q)) 4 :: D) := hS0.perm List.perm_append_comm
                  rcases row_head (hS.at_ 0 rfl) with ⟨_, hh, _⟩ | ⟨⟨gq, rfl⟩, _⟩
                  · omega
                  have hn := HN.out
                  have t7 : t < rs.length := by omega
                  have t8 : t < 100 := by omega
                  rcases HR.out with h | ⟨b, off, rfl, hcell⟩
                  · rw [h] at t7; simp at t7
                  obtain ⟨x, hx⟩ : ∃ x, rs[t]? = some x := ⟨_, List.getElem?_eq_getElem t7⟩
                  have t9 : x ≤ c := by rw [List.getD_eq_getElem?_getD, hx] at t3; exact t3
                  have hrt := hcell t x hx
                  have hmsg : ∀ w, St w0 w (.row 48 20 (some ⟨gq, 0, none⟩) (hits N rs sd c).length capq ((hits N rs sd c).flatMap fun t => msgCells (mkK rs t, 0)) :: .cells gs (saidL (sdMid N rs sd c q)) 4 :: D) →
                      w.cell? ⟨gq, q * 20 + 5, none⟩ = some (.int .i64 t) ∧ w.cell? ⟨gq, q * 20 + 6, none⟩ = some (.int .i64 1) ∧ w.cell? ⟨gq, q * 20 + 7, none⟩ = some (.int .i64 0) ∧ w.cell? ⟨gs, t, none⟩ = some (.bool false) := fun w h => by
                    have hrg := row_elem (f := fun t => msgCells (mkK rs t, 0)) (fun t => rfl) (h.at_ 0 rfl) ht
                    refine ⟨hrg 5 _ rfl, hrg 6 _ rfl, hrg 7 _ rfl, h.cell 1 rfl t ?_⟩
                    rw [saidL_get t8, t5]
                  have hm5 := (hmsg wr hS).1
                  have q1 : ¬ rs.length ≤ t := by omega
                  have q2 : ¬ 100 ≤ t := by omega
                  have q3 : ¬ c < x := by omega
                  have q4 : ¬ (100 : Int) ≤ (t : Int) := by omega
                  have q5 : (t : Int) < 100 := by omega
                  have HX := Lib.hid (And.intro hx (And.intro t3 (And.intro t5 t6)))
                  have HT := Lib.hid ht
                  have HQ := Lib.hid hlt
                  clear ht hx t3 t2 t5 t6 t4 hn hcell t9 hS0 hL hq
                  go_wp2_with (first | ((with_reducible apply wpA_guard); exact rfl; skip) | ((with_reducible apply wpA_load); exact rfl; (first | exact hS.cell 0 rfl _ rfl | exact hS.cell 1 rfl _ rfl | exact hS.cell 2 rfl _ rfl | exact hS.cell 3 rfl _ rfl | exact hS.cell 4 rfl _ rfl | exact hS.cell 5 rfl _ rfl | exact hS.cell 6 rfl _ rfl | exact hS.cell 7 rfl _ rfl | assumption); kernel_rfl) | (first | ((with_reducible apply wpA_store1 hS 0); exact rfl; exact rfl; exact rfl; exact rfl; exact rfl; exact rfl; kernel_rfl; intro wx hS; (try simp only [Act.put, List.setIfInBounds_toArray, List.set_cons_zero, List.set_cons_succ]); (try simp only [Act.eval, Array.getD_eq_getD_getElem?, List.getElem?_toArray, List.getElem?_cons_succ, List.getElem?_cons_zero, Option.getD_some, List.set_cons_succ, List.set_cons_zero, Value.cells, List.toList_toArray] at hS)) | ((with_reducible apply wpA_store1 hS 1); exact rfl; exact rfl; exact rfl; exact rfl; exact rfl; exact rfl; kernel_rfl; intro wx hS; (try simp only [Act.put, List.setIfInBounds_toArray, List.set_cons_zero, List.set_cons_succ]); (try simp only [Act.eval, Array.getD_eq_getD_getElem?, List.getElem?_toArray, List.getElem?_cons_succ, List.getElem?_cons_zero, Option.getD_some, List.set_cons_succ, List.set_cons_zero, Value.cells, List.toList_toArray] at hS)) | ((with_reducible apply wpA_store1 hS 2); exact rfl; exact rfl; exact rfl; exact rfl; exact rfl; exact rfl; kernel_rfl; intro wx hS; (try simp only [Act.put, List.setIfInBounds_toArray, List.set_cons_zero, List.set_cons_succ]); (try simp only [Act.eval, Array.getD_eq_getD_getElem?, List.getElem?_toArray, List.getElem?_cons_succ, List.getElem?_cons_zero, Option.getD_some, List.set_cons_succ, List.set_cons_zero, Value.cells, List.toList_toArray] at hS)) | ((with_reducible apply wpA_store1 hS 3); exact rfl; exact rfl; exact rfl; exact rfl; exact rfl; exact rfl; kernel_rfl; intro wx hS; (try simp only [Act.put, List.setIfInBounds_toArray, List.set_cons_zero, List.set_cons_succ]); (try simp only [Act.eval, Array.getD_eq_getD_getElem?, List.getElem?_toArray, List.getElem?_cons_succ, List.getElem?_cons_zero, Option.getD_some, List.set_cons_succ, List.set_cons_zero, Value.cells, List.toList_toArray] at hS)) | ((with_reducible apply wpA_store1 hS 4); exact rfl; exact rfl; exact rfl; exact rfl; exact rfl; exact rfl; kernel_rfl; intro wx hS; (try simp only [Act.put, List.setIfInBounds_toArray, List.set_cons_zero, List.set_cons_succ]); (try simp only [Act.eval, Array.getD_eq_getD_getElem?, List.getElem?_toArray, List.getElem?_cons_succ, List.getElem?_cons_zero, Option.getD_some, List.set_cons_succ, List.set_cons_zero, Value.cells, List.toList_toArray] at hS)) | ((with_reducible apply wpA_store1 hS 5); exact rfl; exact rfl; exact rfl; exact rfl; exact rfl; exact rfl; kernel_rfl; intro wx hS; (try simp only [Act.put, List.setIfInBounds_toArray, List.set_cons_zero, List.set_cons_succ]); (try simp only [Act.eval, Array.getD_eq_getD_getElem?, List.getElem?_toArray, List.getElem?_cons_succ, List.getElem?_cons_zero, Option.getD_some, List.set_cons_succ, List.set_cons_zero, Value.cells, List.toList_toArray] at hS))) | ((with_reducible apply wpA_box hS); exact rfl; exact rfl; intro _ wx hS; (try simp only [Act.put, List.setIfInBounds_toArray, List.set_cons_zero, List.set_cons_succ]); (try simp only [Act.eval, Array.getD_eq_getD_getElem?, List.getElem?_toArray, List.getElem?_cons_succ, List.getElem?_cons_zero, Option.getD_some, List.set_cons_succ, List.set_cons_zero, Value.cells, List.toList_toArray] at hS)))
                  refine wp_region_St hS (by kernel_rfl) (by kernel_rfl) ?_
                  refine wpQ_val ?_ rfl ?_ ?_
                  rotate_left
                  · intro w hS; go_simp; try with_reducible rfl
                  (simp only [Act.put, List.setIfInBounds_toArray, List.set_cons_zero, List.set_cons_succ])
                  refine wpQ_val ?_ rfl ?_ ?_
                  rotate_left
                  · intro w hS; go_simp; try with_reducible rfl
                  (simp only [Act.put, List.setIfInBounds_toArray, List.set_cons_zero, List.set_cons_succ])
                  refine wpQ_val ?_ rfl ?_ ?_
                  rotate_left
                  · intro w hS; go_simp; try with_reducible rfl
                  (simp only [Act.put, List.setIfInBounds_toArray, List.set_cons_zero, List.set_cons_succ])
                  refine wpQ_guard (by exact rfl) ?_
                  refine wpQ_val ?_ rfl ?_ ?_
                  rotate_left
                  · intro w hS; go_simp; try with_reducible rfl
                  (simp only [Act.put, List.setIfInBounds_toArray, List.set_cons_zero, List.set_cons_succ])
                  refine wpQ_guard (by exact rfl) ?_
                  refine wpQ_val ?_ rfl ?_ ?_
                  rotate_left
                  · intro w hS; go_simp; try with_reducible rfl
                  (simp only [Act.put, List.setIfInBounds_toArray, List.set_cons_zero, List.set_cons_succ])
                  refine wpQ_guard (by exact rfl) ?_
                  refine wpQ_val ?_ rfl ?_ ?_
                  rotate_left
                  · intro w hS; go_simp; try with_reducible rfl
                  (simp only [Act.put, List.setIfInBounds_toArray, List.set_cons_zero, List.set_cons_succ])
                  refine wpQ_guard (by exact rfl) ?_
                  refine wpQ_val (.bool false) rfl (fun w hS => by first | (go_simp; done) | (go_simp; omega)) ?_
                  (simp only [Act.put, List.setIfInBounds_toArray, List.set_cons_zero, List.set_cons_succ])
                  refine wpQ_val (.bool false) rfl (fun w hS => by first | (go_simp; done) | (go_simp; omega)) ?_
                  (simp only [Act.put, List.setIfInBounds_toArray, List.set_cons_zero, List.set_cons_succ])
                  refine wpQ_val ?_ rfl ?_ ?_
                  rotate_left
                  · intro w hS; go_simp; try with_reducible rfl
                  (simp only [Act.put, List.setIfInBounds_toArray, List.set_cons_zero, List.set_cons_succ])
                  refine wpQ_guard (by exact rfl) ?_
                  refine wpQ_val ?_ rfl ?_ ?_
                  rotate_left
                  · intro w hS; go_simp; try with_reducible rfl
                  (simp only [Act.put, List.setIfInBounds_toArray, List.set_cons_zero, List.set_cons_succ])
                  refine wpQ_guard (by exact rfl) ?_
                  refine wpQ_val (.bool false) rfl (fun w hS => by first | (go_simp; done) | (go_simp; omega)) ?_
                  (simp only [Act.put, List.setIfInBounds_toArray, List.set_cons_zero, List.set_cons_succ])
                  refine wpQ_val (.bool false) rfl (fun w hS => by first | (go_simp; done) | (go_simp; omega)) ?_
                  (simp only [Act.put, List.setIfInBounds_toArray, List.set_cons_zero, List.set_cons_succ])
                  refine wpQ_val ?_ rfl ?_ ?_
                  rotate_left
                  · intro w hS; go_simp; try with_reducible rfl
                  (simp only [Act.put, List.setIfInBounds_toArray, List.set_cons_zero, List.set_cons_succ])
                  refine wpQ_guard (by exact rfl) ?_
                  refine wpQ_val ?_ rfl ?_ ?_
                  rotate_left
                  · intro w hS; go_simp; try with_reducible rfl
                  (simp only [Act.put, List.setIfInBounds_toArray, List.set_cons_zero, List.set_cons_succ])
                  refine wpQ_guard (by exact rfl) ?_
                  refine wpQ_val ?_ rfl ?_ ?_
                  rotate_left
                  · intro w hS; go_simp; try with_reducible rfl
                  (simp only [Act.put, List.setIfInBounds_toArray, List.set_cons_zero, List.set_cons_succ])
                  refine wpQ_guard (by exact rfl) ?_
                  refine wpQ_val ?_ rfl ?_ ?_
                  rotate_left
                  · intro w hS; go_simp; try with_reducible rfl
                  (simp only [Act.put, List.setIfInBounds_toArray, List.set_cons_zero, List.set_cons_succ])
                  refine wpQ_guard (by exact rfl) ?_
                  refine wpQ_load rfl (fun w hS => by exact (hmsg w hS).2.2.2) (by kernel_rfl) ?_
                  (simp only [Act.put, List.setIfInBounds_toArray, List.set_cons_zero, List.set_cons_succ])
                  refine wpQ_val ?_ rfl ?_ ?_
                  rotate_left
                  · intro w hS; go_simp; try with_reducible rfl
                  (simp only [Act.put, List.setIfInBounds_toArray, List.set_cons_zero, List.set_cons_succ])
                  refine wpQ_val ?_ rfl ?_ ?_
                  rotate_left
                  · intro w hS; go_simp; try with_reducible rfl
                  (simp only [Act.put, List.setIfInBounds_toArray, List.set_cons_zero, List.set_cons_succ])
                  refine wpQ_guard (by exact rfl) ?_
                  refine wpQ_val ?_ rfl ?_ ?_
                  rotate_left
                  · intro w hS; go_simp; try with_reducible rfl
                  (simp only [Act.put, List.setIfInBounds_toArray, List.set_cons_zero, List.set_cons_succ])
                  refine wpQ_guard (by exact rfl) ?_
                  refine wpQ_val ?_ rfl ?_ ?_
                  rotate_left
                  · intro w hS; go_simp; try with_reducible rfl
                  (simp only [Act.put, List.setIfInBounds_toArray, List.set_cons_zero, List.set_cons_succ])
                  refine wpQ_guard (by exact rfl) ?_
                  refine wpQ_val ?_ rfl ?_ ?_
                  rotate_left
                  · intro w hS; go_simp; try with_reducible rfl
                  (simp only [Act.put, List.setIfInBounds_toArray, List.set_cons_zero, List.set_cons_succ])
                  refine wpQ_guard (by exact rfl) ?_
                  refine wpQ_load rfl (fun w hS => by exact hS.oldCell hrt) (by kernel_rfl) ?_
                  (simp only [Act.put, List.setIfInBounds_toArray, List.set_cons_zero, List.set_cons_succ])
                  refine wpQ_guard (by exact rfl) ?_
                  refine wpQ_val ?_ rfl ?_ ?_
                  rotate_left
                  · intro w hS; go_simp; try with_reducible rfl
                  (simp only [Act.put, List.setIfInBounds_toArray, List.set_cons_zero, List.set_cons_succ])
                  refine wpQ_guard (by exact rfl) ?_
                  refine wpQ_val ?_ rfl ?_ ?_
                  rotate_left
                  · intro w hS; go_simp; try with_reducible rfl
                  (simp only [Act.put, List.setIfInBounds_toArray, List.set_cons_zero, List.set_cons_succ])
                  refine wpQ_guard (by exact rfl) ?_
                  refine wpQ_val ?_ rfl ?_ ?_
                  rotate_left
                  · intro w hS; go_simp; try with_reducible rfl
                  (simp only [Act.put, List.setIfInBounds_toArray, List.set_cons_zero, List.set_cons_succ])
                  refine wpQ_guard (by exact rfl) ?_
                  refine wpQ_load rfl (fun w hS => by exact hS.oldCell hci) (by kernel_rfl) ?_
                  (simp only [Act.put, List.setIfInBounds_toArray, List.set_cons_zero, List.set_cons_succ])
                  refine wpQ_guard (by exact rfl) ?_
                  refine wpQ_val (.bool false) rfl (fun w hS => by first | (go_simp; done) | (go_simp; omega)) ?_
                  (simp only [Act.put, List.setIfInBounds_toArray, List.set_cons_zero, List.set_cons_succ])
                  refine wpQ_val (.bool false) rfl (fun w hS => by first | (go_simp; done) | (go_simp; omega)) ?_
                  (simp only [Act.put, List.setIfInBounds_toArray, List.set_cons_zero, List.set_cons_succ])
                  refine wpQ_val ?_ rfl ?_ ?_
                  rotate_left
                  · intro w hS; go_simp; try with_reducible rfl
                  (simp only [Act.put, List.setIfInBounds_toArray, List.set_cons_zero, List.set_cons_succ])
                  refine wpQ_guard (by exact rfl) ?_
                  refine wpQ_val ?_ rfl ?_ ?_
                  rotate_left
                  · intro w hS; go_simp; try with_reducible rfl
                  (simp only [Act.put, List.setIfInBounds_toArray, List.set_cons_zero, List.set_cons_succ])
                  refine wpQ_guard (by exact rfl) ?_
                  refine wpQ_val ?_ rfl ?_ ?_
                  rotate_left
                  · intro w hS; go_simp; try with_reducible rfl
                  (simp only [Act.put, List.setIfInBounds_toArray, List.set_cons_zero, List.set_cons_succ])
                  refine wpQ_guard (by exact rfl) ?_
                  refine wpQ_val ?_ rfl ?_ ?_
                  rotate_left
                  · intro w hS; go_simp; try with_reducible rfl
                  (simp only [Act.put, List.setIfInBounds_toArray, List.set_cons_zero, List.set_cons_succ])
                  refine wpQ_guard (by exact rfl) ?_
                  refine wpQ_val ?_ rfl ?_ ?_
                  rotate_left
                  · intro w hS; go_simp; try with_reducible rfl
                  (simp only [Act.put, List.setIfInBounds_toArray, List.set_cons_zero, List.set_cons_succ])
                  refine wpQ_guard (by exact rfl) ?_
                  refine wpQ_load rfl (fun w hS => by exact (hmsg w hS).2.1) (by kernel_rfl) ?_
                  (simp only [Act.put, List.setIfInBounds_toArray, List.set_cons_zero, List.set_cons_succ])
                  refine wpQ_guard (by exact rfl) ?_
                  refine wpQ_val ?_ rfl ?_ ?_
                  rotate_left
                  · intro w hS; go_simp; try with_reducible rfl
                  (simp only [Act.put, List.setIfInBounds_toArray, List.set_cons_zero, List.set_cons_succ])
                  refine wpQ_val ?_ rfl ?_ ?_
                  rotate_left
                  · intro w hS; go_simp; try with_reducible rfl
                  (simp only [Act.put, List.setIfInBounds_toArray, List.set_cons_zero, List.set_cons_succ])
                  refine wpQ_val ?_ rfl ?_ ?_
                  rotate_left
                  · intro w hS; go_simp; try with_reducible rfl
                  (simp only [Act.put, List.setIfInBounds_toArray, List.set_cons_zero, List.set_cons_succ])
                  refine wpQ_guard (by exact rfl) ?_
                  refine wpQ_val ?_ rfl ?_ ?_
                  rotate_left
                  · intro w hS; go_simp; try with_reducible rfl
                  (simp only [Act.put, List.setIfInBounds_toArray, List.set_cons_zero, List.set_cons_succ])
                  refine wpQ_guard (by exact rfl) ?_
                  refine wpQ_val ?_ rfl ?_ ?_
                  rotate_left
                  · intro w hS; go_simp; try with_reducible rfl
                  (simp only [Act.put, List.setIfInBounds_toArray, List.set_cons_zero, List.set_cons_succ])
                  refine wpQ_guard (by exact rfl) ?_
                  refine wpQ_val ?_ rfl ?_ ?_
                  rotate_left
                  · intro w hS; go_simp; try with_reducible rfl
                  (simp only [Act.put, List.setIfInBounds_toArray, List.set_cons_zero, List.set_cons_succ])
                  refine wpQ_guard (by exact rfl) ?_
                  refine wpQ_val ?_ rfl ?_ ?_
                  rotate_left
                  · intro w hS; go_simp; try with_reducible rfl
                  (simp only [Act.put, List.setIfInBounds_toArray, List.set_cons_zero, List.set_cons_succ])
                  refine wpQ_guard (by exact rfl) ?_
                  refine wpQ_load rfl (fun w hS => by exact (hmsg w hS).2.2.1) (by kernel_rfl) ?_
                  (simp only [Act.put, List.setIfInBounds_toArray, List.set_cons_zero, List.set_cons_succ])
                  refine wpQ_guard (by exact rfl) ?_
                  refine wpQ_val ?_ rfl ?_ ?_
                  rotate_left
                  · intro w hS; go_simp; try with_reducible rfl
                  (simp only [Act.put, List.setIfInBounds_toArray, List.set_cons_zero, List.set_cons_succ])
                  refine wpQ_val ?_ rfl ?_ ?_
                  rotate_left
                  · intro w hS; go_simp; try with_reducible rfl
                  (simp only [Act.put, List.setIfInBounds_toArray, List.set_cons_zero, List.set_cons_succ])
                  refine wpQuiet_nil ?_
                  intro wx hS
                  have hfit : (([Value.bool false] : List Value)[0]?).isSome = true := rfl
                  have hgs : ((saidL (sdMid N rs sd c q))[t]?).isSome = true := by rw [saidL_get t8]; rfl
                  go_wp2_with (first | ((with_reducible apply wpA_guard); exact rfl; skip) | ((with_reducible apply wpA_store1 hS 1); exact rfl; exact rfl; exact rfl; exact rfl; exact rfl; exact hgs; kernel_rfl; intro wx hS; (try simp only [Act.put, List.setIfInBounds_toArray, List.set_cons_zero, List.set_cons_succ])) | ((with_reducible apply wpA_load); exact rfl; (first | exact hS.cell 0 rfl _ rfl | exact hS.cell 1 rfl _ rfl | exact hS.cell 2 rfl _ rfl | exact hS.cell 3 rfl _ rfl | exact hS.cell 4 rfl _ rfl | exact hS.cell 5 rfl _ rfl | exact hS.cell 6 rfl _ rfl | exact hS.cell 7 rfl _ rfl | assumption); kernel_rfl) | (first | ((with_reducible apply wpA_store1 hS 0); exact rfl; exact rfl; exact rfl; exact rfl; exact rfl; exact rfl; kernel_rfl; intro wx hS; (try simp only [Act.put, List.setIfInBounds_toArray, List.set_cons_zero, List.set_cons_succ]); (try simp only [Act.eval, Array.getD_eq_getD_getElem?, List.getElem?_toArray, List.getElem?_cons_succ, List.getElem?_cons_zero, Option.getD_some, List.set_cons_succ, List.set_cons_zero, Value.cells, List.toList_toArray] at hS)) | ((with_reducible apply wpA_store1 hS 1); exact rfl; exact rfl; exact rfl; exact rfl; exact rfl; exact rfl; kernel_rfl; intro wx hS; (try simp only [Act.put, List.setIfInBounds_toArray, List.set_cons_zero, List.set_cons_succ]); (try simp only [Act.eval, Array.getD_eq_getD_getElem?, List.getElem?_toArray, List.getElem?_cons_succ, List.getElem?_cons_zero, Option.getD_some, List.set_cons_succ, List.set_cons_zero, Value.cells, List.toList_toArray] at hS)) | ((with_reducible apply wpA_store1 hS 2); exact rfl; exact rfl; exact rfl; exact rfl; exact rfl; exact rfl; kernel_rfl; intro wx hS; (try simp only [Act.put, List.setIfInBounds_toArray, List.set_cons_zero, List.set_cons_succ]); (try simp only [Act.eval, Array.getD_eq_getD_getElem?, List.getElem?_toArray, List.getElem?_cons_succ, List.getElem?_cons_zero, Option.getD_some, List.set_cons_succ, List.set_cons_zero, Value.cells, List.toList_toArray] at hS)) | ((with_reducible apply wpA_store1 hS 3); exact rfl; exact rfl; exact rfl; exact rfl; exact rfl; exact rfl; kernel_rfl; intro wx hS; (try simp only [Act.put, List.setIfInBounds_toArray, List.set_cons_zero, List.set_cons_succ]); (try simp only [Act.eval, Array.getD_eq_getD_getElem?, List.getElem?_toArray, List.getElem?_cons_succ, List.getElem?_cons_zero, Option.getD_some, List.set_cons_succ, List.set_cons_zero, Value.cells, List.toList_toArray] at hS)) | ((with_reducible apply wpA_store1 hS 4); exact rfl; exact rfl; exact rfl; exact rfl; exact rfl; exact rfl; kernel_rfl; intro wx hS; (try simp only [Act.put, List.setIfInBounds_toArray, List.set_cons_zero, List.set_cons_succ]); (try simp only [Act.eval, Array.getD_eq_getD_getElem?, List.getElem?_toArray, List.getElem?_cons_succ, List.getElem?_cons_zero, Option.getD_some, List.set_cons_succ, List.set_cons_zero, Value.cells, List.toList_toArray] at hS)) | ((with_reducible apply wpA_store1 hS 5); exact rfl; exact rfl; exact rfl; exact rfl; exact rfl; exact rfl; kernel_rfl; intro wx hS; (try simp only [Act.put, List.setIfInBounds_toArray, List.set_cons_zero, List.set_cons_succ]); (try simp only [Act.eval, Array.getD_eq_getD_getElem?, List.getElem?_toArray, List.getElem?_cons_succ, List.getElem?_cons_zero, Option.getD_some, List.set_cons_succ, List.set_cons_zero, Value.cells, List.toList_toArray] at hS))) | ((with_reducible apply wpA_box hS); exact rfl; exact rfl; intro _ wx hS; (try simp only [Act.put, List.setIfInBounds_toArray, List.set_cons_zero, List.set_cons_succ]); (try simp only [Act.eval, Array.getD_eq_getD_getElem?, List.getElem?_toArray, List.getElem?_cons_succ, List.getElem?_cons_zero, Option.getD_some, List.set_cons_succ, List.set_cons_zero, Value.cells, List.toList_toArray] at hS)))
                  go_roundw
                  case rel =>
                    refine ⟨q + 1, HQ.out, by go_num, ?_⟩
                    obtain ⟨_, _, _, t6⟩ := HX.out
                    rw [t6, ← saidL_set]
                    have hS3 : St w0 wx ([.row 48 20 (some ⟨gq, 0, none⟩) (hits N rs sd c).length capq ((hits N rs sd c).flatMap fun t => msgCells (mkK rs t, 0)), .cells gs ((saidL (sdMid N rs sd c q)).set t (.bool true)) 4] ++ D) := hS
                    exact hb _ _ (hS3.perm List.perm_append_comm)
                  case measure => have := HQ.out; simp [intOf]; omega
                · go_wp2_with (first | ((with_reducible apply wpA_guard); exact rfl; skip) | ((with_reducible apply wpA_load); exact rfl; (first | exact hS.cell 0 rfl _ rfl | exact hS.cell 1 rfl _ rfl | exact hS.cell 2 rfl _ rfl | exact hS.cell 3 rfl _ rfl | exact hS.cell 4 rfl _ rfl | exact hS.cell 5 rfl _ rfl | exact hS.cell 6 rfl _ rfl | exact hS.cell 7 rfl _ rfl | assumption); kernel_rfl) | (first | ((with_reducible apply wpA_store1 hS 0); exact rfl; exact rfl; exact rfl; exact rfl; exact rfl; exact rfl; kernel_rfl; intro wx hS; (try simp only [Act.put, List.setIfInBounds_toArray, List.set_cons_zero, List.set_cons_succ]); (try simp only [Act.eval, Array.getD_eq_getD_getElem?, List.getElem?_toArray, List.getElem?_cons_succ, List.getElem?_cons_zero, Option.getD_some, List.set_cons_succ, List.set_cons_zero, Value.cells, List.toList_toArray] at hS)) | ((with_reducible apply wpA_store1 hS 1); exact rfl; exact rfl; exact rfl; exact rfl; exact rfl; exact rfl; kernel_rfl; intro wx hS; (try simp only [Act.put, List.setIfInBounds_toArray, List.set_cons_zero, List.set_cons_succ]); (try simp only [Act.eval, Array.getD_eq_getD_getElem?, List.getElem?_toArray, List.getElem?_cons_succ, List.getElem?_cons_zero, Option.getD_some, List.set_cons_succ, List.set_cons_zero, Value.cells, List.toList_toArray] at hS)) | ((with_reducible apply wpA_store1 hS 2); exact rfl; exact rfl; exact rfl; exact rfl; exact rfl; exact rfl; kernel_rfl; intro wx hS; (try simp only [Act.put, List.setIfInBounds_toArray, List.set_cons_zero, List.set_cons_succ]); (try simp only [Act.eval, Array.getD_eq_getD_getElem?, List.getElem?_toArray, List.getElem?_cons_succ, List.getElem?_cons_zero, Option.getD_some, List.set_cons_succ, List.set_cons_zero, Value.cells, List.toList_toArray] at hS)) | ((with_reducible apply wpA_store1 hS 3); exact rfl; exact rfl; exact rfl; exact rfl; exact rfl; exact rfl; kernel_rfl; intro wx hS; (try simp only [Act.put, List.setIfInBounds_toArray, List.set_cons_zero, List.set_cons_succ]); (try simp only [Act.eval, Array.getD_eq_getD_getElem?, List.getElem?_toArray, List.getElem?_cons_succ, List.getElem?_cons_zero, Option.getD_some, List.set_cons_succ, List.set_cons_zero, Value.cells, List.toList_toArray] at hS)) | ((with_reducible apply wpA_store1 hS 4); exact rfl; exact rfl; exact rfl; exact rfl; exact rfl; exact rfl; kernel_rfl; intro wx hS; (try simp only [Act.put, List.setIfInBounds_toArray, List.set_cons_zero, List.set_cons_succ]); (try simp only [Act.eval, Array.getD_eq_getD_getElem?, List.getElem?_toArray, List.getElem?_cons_succ, List.getElem?_cons_zero, Option.getD_some, List.set_cons_succ, List.set_cons_zero, Value.cells, List.toList_toArray] at hS)) | ((with_reducible apply wpA_store1 hS 5); exact rfl; exact rfl; exact rfl; exact rfl; exact rfl; exact rfl; kernel_rfl; intro wx hS; (try simp only [Act.put, List.setIfInBounds_toArray, List.set_cons_zero, List.set_cons_succ]); (try simp only [Act.eval, Array.getD_eq_getD_getElem?, List.getElem?_toArray, List.getElem?_cons_succ, List.getElem?_cons_zero, Option.getD_some, List.set_cons_succ, List.set_cons_zero, Value.cells, List.toList_toArray] at hS))) | ((with_reducible apply wpA_box hS); exact rfl; exact rfl; intro _ wx hS; (try simp only [Act.put, List.setIfInBounds_toArray, List.set_cons_zero, List.set_cons_succ]); (try simp only [Act.eval, Array.getD_eq_getD_getElem?, List.getElem?_toArray, List.getElem?_cons_succ, List.getElem?_cons_zero, Option.getD_some, List.set_cons_succ, List.set_cons_zero, Value.cells, List.toList_toArray] at hS)))
                  go_meet
                  have e : q = (hits N rs sd c).length := by omega
                  subst e
                  rw [sdMid_all] at hL
                  exact hL.sub (List.sublist_cons_self _ _)
            case rest =>
              have hL4 := hcut
              clear hcut hL2
              go_wp2_with (first | ((with_reducible apply wpA_guard); exact rfl; skip) | ((with_reducible apply wpA_load); exact rfl; (first | exact hS.cell 0 rfl _ rfl | exact hS.cell 1 rfl _ rfl | exact hS.cell 2 rfl _ rfl | exact hS.cell 3 rfl _ rfl | exact hS.cell 4 rfl _ rfl | exact hS.cell 5 rfl _ rfl | exact hS.cell 6 rfl _ rfl | exact hS.cell 7 rfl _ rfl | assumption); kernel_rfl) | (first | ((with_reducible apply wpA_store1 hS 0); exact rfl; exact rfl; exact rfl; exact rfl; exact rfl; exact rfl; kernel_rfl; intro wx hS; (try simp only [Act.put, List.setIfInBounds_toArray, List.set_cons_zero, List.set_cons_succ]); (try simp only [Act.eval, Array.getD_eq_getD_getElem?, List.getElem?_toArray, List.getElem?_cons_succ, List.getElem?_cons_zero, Option.getD_some, List.set_cons_succ, List.set_cons_zero, Value.cells, List.toList_toArray] at hS)) | ((with_reducible apply wpA_store1 hS 1); exact rfl; exact rfl; exact rfl; exact rfl; exact rfl; exact rfl; kernel_rfl; intro wx hS; (try simp only [Act.put, List.setIfInBounds_toArray, List.set_cons_zero, List.set_cons_succ]); (try simp only [Act.eval, Array.getD_eq_getD_getElem?, List.getElem?_toArray, List.getElem?_cons_succ, List.getElem?_cons_zero, Option.getD_some, List.set_cons_succ, List.set_cons_zero, Value.cells, List.toList_toArray] at hS)) | ((with_reducible apply wpA_store1 hS 2); exact rfl; exact rfl; exact rfl; exact rfl; exact rfl; exact rfl; kernel_rfl; intro wx hS; (try simp only [Act.put, List.setIfInBounds_toArray, List.set_cons_zero, List.set_cons_succ]); (try simp only [Act.eval, Array.getD_eq_getD_getElem?, List.getElem?_toArray, List.getElem?_cons_succ, List.getElem?_cons_zero, Option.getD_some, List.set_cons_succ, List.set_cons_zero, Value.cells, List.toList_toArray] at hS)) | ((with_reducible apply wpA_store1 hS 3); exact rfl; exact rfl; exact rfl; exact rfl; exact rfl; exact rfl; kernel_rfl; intro wx hS; (try simp only [Act.put, List.setIfInBounds_toArray, List.set_cons_zero, List.set_cons_succ]); (try simp only [Act.eval, Array.getD_eq_getD_getElem?, List.getElem?_toArray, List.getElem?_cons_succ, List.getElem?_cons_zero, Option.getD_some, List.set_cons_succ, List.set_cons_zero, Value.cells, List.toList_toArray] at hS)) | ((with_reducible apply wpA_store1 hS 4); exact rfl; exact rfl; exact rfl; exact rfl; exact rfl; exact rfl; kernel_rfl; intro wx hS; (try simp only [Act.put, List.setIfInBounds_toArray, List.set_cons_zero, List.set_cons_succ]); (try simp only [Act.eval, Array.getD_eq_getD_getElem?, List.getElem?_toArray, List.getElem?_cons_succ, List.getElem?_cons_zero, Option.getD_some, List.set_cons_succ, List.set_cons_zero, Value.cells, List.toList_toArray] at hS)) | ((with_reducible apply wpA_store1 hS 5); exact rfl; exact rfl; exact rfl; exact rfl; exact rfl; exact rfl; kernel_rfl; intro wx hS; (try simp only [Act.put, List.setIfInBounds_toArray, List.set_cons_zero, List.set_cons_succ]); (try simp only [Act.eval, Array.getD_eq_getD_getElem?, List.getElem?_toArray, List.getElem?_cons_succ, List.getElem?_cons_zero, Option.getD_some, List.set_cons_succ, List.set_cons_zero, Value.cells, List.toList_toArray] at hS))) | ((with_reducible apply wpA_box hS); exact rfl; exact rfl; intro _ wx hS; (try simp only [Act.put, List.setIfInBounds_toArray, List.set_cons_zero, List.set_cons_succ]); (try simp only [Act.eval, Array.getD_eq_getD_getElem?, List.getElem?_toArray, List.getElem?_cons_succ, List.getElem?_cons_zero, Option.getD_some, List.set_cons_succ, List.set_cons_zero, Value.cells, List.toList_toArray] at hS)))
              go_loopw [12] (fun s wr => ∃ k : Nat, k ≤ N ∧ s = .int .i64 k ∧ LeaseSt w0 wr g [.cells gs (saidL (sdNext N rs sd c)) 4] (some ⟨E2, (notSaid N (sdNext N rs sd c)).map (mkK rs)⟩)) (fun s _ => N - (intOf s).toNat)
              case atStart => exact ⟨0, Nat.zero_le _, rfl, hL4⟩
              case round =>
                clear hL4
                obtain ⟨k, hk, rfl, hL⟩ := hrel
                have hn := HN.out
                by_cases h3 : k < rs.length
                · by_cases h4 : k < 100
                  · have hkN : k < N := by omega
                    rcases HR.out with h | ⟨b, off, rfl, hcell⟩
                    · rw [h] at h3; simp at h3
                    obtain ⟨x, hx⟩ : ∃ x, rs[k]? = some x := ⟨_, List.getElem?_eq_getElem h3⟩
                    have hrt := hcell k x hx
                    obtain ⟨D, hS0, hb⟩ := hL.use
                    have hS : St w0 wr (.cells gs (saidL (sdNext N rs sd c)) 4 :: D) := hS0.perm List.perm_append_comm
                    have hsd : x ≤ c → sdNext N rs sd c k = true := fun h => by
                      unfold sdNext
                      have : rs.getD k 0 ≤ c := by rw [List.getD_eq_getElem?_getD, hx]; exact h
                      rw [decide_eq_true this, decide_eq_true hkN]; simp
                    have HS := Lib.hid hsd
                    have HKN := Lib.hid hkN
                    clear hsd hx hcell hn hS0 hL hk hkN
                    have h5 : (k : Int) < 100 := by omega
                    by_cases hxc : x ≤ c
                    · have hsaid : ∀ w, St w0 w (.cells gs (saidL (sdNext N rs sd c)) 4 :: D) → w.cell? ⟨gs, k, none⟩ = some (.bool true) := fun w h => h.cell 0 rfl k (by rw [saidL_get h4, HS.out hxc])
                      go_wp2_with (first | ((with_reducible apply wpA_guard); exact rfl; skip) | ((with_reducible apply wpA_load); exact rfl; (first | exact hS.cell 0 rfl _ rfl | exact hS.cell 1 rfl _ rfl | exact hS.cell 2 rfl _ rfl | exact hS.cell 3 rfl _ rfl | exact hS.cell 4 rfl _ rfl | exact hS.cell 5 rfl _ rfl | exact hS.cell 6 rfl _ rfl | exact hS.cell 7 rfl _ rfl | assumption); kernel_rfl) | (first | ((with_reducible apply wpA_store1 hS 0); exact rfl; exact rfl; exact rfl; exact rfl; exact rfl; exact rfl; kernel_rfl; intro wx hS; (try simp only [Act.put, List.setIfInBounds_toArray, List.set_cons_zero, List.set_cons_succ]); (try simp only [Act.eval, Array.getD_eq_getD_getElem?, List.getElem?_toArray, List.getElem?_cons_succ, List.getElem?_cons_zero, Option.getD_some, List.set_cons_succ, List.set_cons_zero, Value.cells, List.toList_toArray] at hS)) | ((with_reducible apply wpA_store1 hS 1); exact rfl; exact rfl; exact rfl; exact rfl; exact rfl; exact rfl; kernel_rfl; intro wx hS; (try simp only [Act.put, List.setIfInBounds_toArray, List.set_cons_zero, List.set_cons_succ]); (try simp only [Act.eval, Array.getD_eq_getD_getElem?, List.getElem?_toArray, List.getElem?_cons_succ, List.getElem?_cons_zero, Option.getD_some, List.set_cons_succ, List.set_cons_zero, Value.cells, List.toList_toArray] at hS)) | ((with_reducible apply wpA_store1 hS 2); exact rfl; exact rfl; exact rfl; exact rfl; exact rfl; exact rfl; kernel_rfl; intro wx hS; (try simp only [Act.put, List.setIfInBounds_toArray, List.set_cons_zero, List.set_cons_succ]); (try simp only [Act.eval, Array.getD_eq_getD_getElem?, List.getElem?_toArray, List.getElem?_cons_succ, List.getElem?_cons_zero, Option.getD_some, List.set_cons_succ, List.set_cons_zero, Value.cells, List.toList_toArray] at hS)) | ((with_reducible apply wpA_store1 hS 3); exact rfl; exact rfl; exact rfl; exact rfl; exact rfl; exact rfl; kernel_rfl; intro wx hS; (try simp only [Act.put, List.setIfInBounds_toArray, List.set_cons_zero, List.set_cons_succ]); (try simp only [Act.eval, Array.getD_eq_getD_getElem?, List.getElem?_toArray, List.getElem?_cons_succ, List.getElem?_cons_zero, Option.getD_some, List.set_cons_succ, List.set_cons_zero, Value.cells, List.toList_toArray] at hS)) | ((with_reducible apply wpA_store1 hS 4); exact rfl; exact rfl; exact rfl; exact rfl; exact rfl; exact rfl; kernel_rfl; intro wx hS; (try simp only [Act.put, List.setIfInBounds_toArray, List.set_cons_zero, List.set_cons_succ]); (try simp only [Act.eval, Array.getD_eq_getD_getElem?, List.getElem?_toArray, List.getElem?_cons_succ, List.getElem?_cons_zero, Option.getD_some, List.set_cons_succ, List.set_cons_zero, Value.cells, List.toList_toArray] at hS)) | ((with_reducible apply wpA_store1 hS 5); exact rfl; exact rfl; exact rfl; exact rfl; exact rfl; exact rfl; kernel_rfl; intro wx hS; (try simp only [Act.put, List.setIfInBounds_toArray, List.set_cons_zero, List.set_cons_succ]); (try simp only [Act.eval, Array.getD_eq_getD_getElem?, List.getElem?_toArray, List.getElem?_cons_succ, List.getElem?_cons_zero, Option.getD_some, List.set_cons_succ, List.set_cons_zero, Value.cells, List.toList_toArray] at hS))) | ((with_reducible apply wpA_box hS); exact rfl; exact rfl; intro _ wx hS; (try simp only [Act.put, List.setIfInBounds_toArray, List.set_cons_zero, List.set_cons_succ]); (try simp only [Act.eval, Array.getD_eq_getD_getElem?, List.getElem?_toArray, List.getElem?_cons_succ, List.getElem?_cons_zero, Option.getD_some, List.set_cons_succ, List.set_cons_zero, Value.cells, List.toList_toArray] at hS)))
                      refine wp_region_St hS (by kernel_rfl) (by kernel_rfl) ?_
                      refine wpQ_val ?_ rfl ?_ ?_
                      rotate_left
                      · intro w hS; go_simp; try with_reducible rfl
                      (simp only [Act.put, List.setIfInBounds_toArray, List.set_cons_zero, List.set_cons_succ])
                      refine wpQ_val ?_ rfl ?_ ?_
                      rotate_left
                      · intro w hS; go_simp; try with_reducible rfl
                      (simp only [Act.put, List.setIfInBounds_toArray, List.set_cons_zero, List.set_cons_succ])
                      refine wpQ_val ?_ rfl ?_ ?_
                      rotate_left
                      · intro w hS; go_simp; try with_reducible rfl
                      (simp only [Act.put, List.setIfInBounds_toArray, List.set_cons_zero, List.set_cons_succ])
                      refine wpQ_load rfl (fun w hS => by exact hS.oldCell hrt) (by kernel_rfl) ?_
                      (simp only [Act.put, List.setIfInBounds_toArray, List.set_cons_zero, List.set_cons_succ])
                      refine wpQ_val ?_ rfl ?_ ?_
                      rotate_left
                      · intro w hS; go_simp; try with_reducible rfl
                      (simp only [Act.put, List.setIfInBounds_toArray, List.set_cons_zero, List.set_cons_succ])
                      refine wpQ_val ?_ rfl ?_ ?_
                      rotate_left
                      · intro w hS; go_simp; try with_reducible rfl
                      (simp only [Act.put, List.setIfInBounds_toArray, List.set_cons_zero, List.set_cons_succ])
                      refine wpQ_val ?_ rfl ?_ ?_
                      rotate_left
                      · intro w hS; go_simp; try with_reducible rfl
                      (simp only [Act.put, List.setIfInBounds_toArray, List.set_cons_zero, List.set_cons_succ])
                      refine wpQ_load rfl (fun w hS => by exact hS.oldCell hci) (by kernel_rfl) ?_
                      (simp only [Act.put, List.setIfInBounds_toArray, List.set_cons_zero, List.set_cons_succ])
                      refine wpQ_val (.bool true) rfl (fun w hS => by first | (go_simp; done) | (go_simp; omega)) ?_
                      (simp only [Act.put, List.setIfInBounds_toArray, List.set_cons_zero, List.set_cons_succ])
                      refine wpQ_val ?_ rfl ?_ ?_
                      rotate_left
                      · intro w hS; go_simp; try with_reducible rfl
                      (simp only [Act.put, List.setIfInBounds_toArray, List.set_cons_zero, List.set_cons_succ])
                      refine wpQ_guard (by exact rfl) ?_
                      refine wpQ_val ?_ rfl ?_ ?_
                      rotate_left
                      · intro w hS; go_simp; try with_reducible rfl
                      (simp only [Act.put, List.setIfInBounds_toArray, List.set_cons_zero, List.set_cons_succ])
                      refine wpQ_guard (by exact rfl) ?_
                      refine wpQ_val ?_ rfl ?_ ?_
                      rotate_left
                      · intro w hS; go_simp; try with_reducible rfl
                      (simp only [Act.put, List.setIfInBounds_toArray, List.set_cons_zero, List.set_cons_succ])
                      refine wpQ_guard (by exact rfl) ?_
                      refine wpQ_val ?_ rfl ?_ ?_
                      rotate_left
                      · intro w hS; go_simp; try with_reducible rfl
                      (simp only [Act.put, List.setIfInBounds_toArray, List.set_cons_zero, List.set_cons_succ])
                      refine wpQ_guard (by exact rfl) ?_
                      refine wpQ_load rfl (fun w hS => by exact hsaid w hS) (by kernel_rfl) ?_
                      (simp only [Act.put, List.setIfInBounds_toArray, List.set_cons_zero, List.set_cons_succ])
                      refine wpQ_guard (by exact rfl) ?_
                      refine wpQ_val ?_ rfl ?_ ?_
                      rotate_left
                      · intro w hS; go_simp; try with_reducible rfl
                      (simp only [Act.put, List.setIfInBounds_toArray, List.set_cons_zero, List.set_cons_succ])
                      refine wpQ_val ?_ rfl ?_ ?_
                      rotate_left
                      · intro w hS; go_simp; try with_reducible rfl
                      (simp only [Act.put, List.setIfInBounds_toArray, List.set_cons_zero, List.set_cons_succ])
                      refine wpQuiet_nil ?_
                      intro wx hS
                      go_wp2_with (first | ((with_reducible apply wpA_guard); exact rfl; skip) | ((with_reducible apply wpA_load); exact rfl; (first | exact hS.cell 0 rfl _ rfl | exact hS.cell 1 rfl _ rfl | exact hS.cell 2 rfl _ rfl | exact hS.cell 3 rfl _ rfl | exact hS.cell 4 rfl _ rfl | exact hS.cell 5 rfl _ rfl | exact hS.cell 6 rfl _ rfl | exact hS.cell 7 rfl _ rfl | assumption); kernel_rfl) | (first | ((with_reducible apply wpA_store1 hS 0); exact rfl; exact rfl; exact rfl; exact rfl; exact rfl; exact rfl; kernel_rfl; intro wx hS; (try simp only [Act.put, List.setIfInBounds_toArray, List.set_cons_zero, List.set_cons_succ]); (try simp only [Act.eval, Array.getD_eq_getD_getElem?, List.getElem?_toArray, List.getElem?_cons_succ, List.getElem?_cons_zero, Option.getD_some, List.set_cons_succ, List.set_cons_zero, Value.cells, List.toList_toArray] at hS)) | ((with_reducible apply wpA_store1 hS 1); exact rfl; exact rfl; exact rfl; exact rfl; exact rfl; exact rfl; kernel_rfl; intro wx hS; (try simp only [Act.put, List.setIfInBounds_toArray, List.set_cons_zero, List.set_cons_succ]); (try simp only [Act.eval, Array.getD_eq_getD_getElem?, List.getElem?_toArray, List.getElem?_cons_succ, List.getElem?_cons_zero, Option.getD_some, List.set_cons_succ, List.set_cons_zero, Value.cells, List.toList_toArray] at hS)) | ((with_reducible apply wpA_store1 hS 2); exact rfl; exact rfl; exact rfl; exact rfl; exact rfl; exact rfl; kernel_rfl; intro wx hS; (try simp only [Act.put, List.setIfInBounds_toArray, List.set_cons_zero, List.set_cons_succ]); (try simp only [Act.eval, Array.getD_eq_getD_getElem?, List.getElem?_toArray, List.getElem?_cons_succ, List.getElem?_cons_zero, Option.getD_some, List.set_cons_succ, List.set_cons_zero, Value.cells, List.toList_toArray] at hS)) | ((with_reducible apply wpA_store1 hS 3); exact rfl; exact rfl; exact rfl; exact rfl; exact rfl; exact rfl; kernel_rfl; intro wx hS; (try simp only [Act.put, List.setIfInBounds_toArray, List.set_cons_zero, List.set_cons_succ]); (try simp only [Act.eval, Array.getD_eq_getD_getElem?, List.getElem?_toArray, List.getElem?_cons_succ, List.getElem?_cons_zero, Option.getD_some, List.set_cons_succ, List.set_cons_zero, Value.cells, List.toList_toArray] at hS)) | ((with_reducible apply wpA_store1 hS 4); exact rfl; exact rfl; exact rfl; exact rfl; exact rfl; exact rfl; kernel_rfl; intro wx hS; (try simp only [Act.put, List.setIfInBounds_toArray, List.set_cons_zero, List.set_cons_succ]); (try simp only [Act.eval, Array.getD_eq_getD_getElem?, List.getElem?_toArray, List.getElem?_cons_succ, List.getElem?_cons_zero, Option.getD_some, List.set_cons_succ, List.set_cons_zero, Value.cells, List.toList_toArray] at hS)) | ((with_reducible apply wpA_store1 hS 5); exact rfl; exact rfl; exact rfl; exact rfl; exact rfl; exact rfl; kernel_rfl; intro wx hS; (try simp only [Act.put, List.setIfInBounds_toArray, List.set_cons_zero, List.set_cons_succ]); (try simp only [Act.eval, Array.getD_eq_getD_getElem?, List.getElem?_toArray, List.getElem?_cons_succ, List.getElem?_cons_zero, Option.getD_some, List.set_cons_succ, List.set_cons_zero, Value.cells, List.toList_toArray] at hS))) | ((with_reducible apply wpA_box hS); exact rfl; exact rfl; intro _ wx hS; (try simp only [Act.put, List.setIfInBounds_toArray, List.set_cons_zero, List.set_cons_succ]); (try simp only [Act.eval, Array.getD_eq_getD_getElem?, List.getElem?_toArray, List.getElem?_cons_succ, List.getElem?_cons_zero, Option.getD_some, List.set_cons_succ, List.set_cons_zero, Value.cells, List.toList_toArray] at hS)))
                      go_roundw
                      case rel => exact ⟨k + 1, HKN.out, by go_num, hb _ _ (St.perm (H := [_] ++ D) hS List.perm_append_comm)⟩
                      case measure => have := HKN.out; simp [intOf]; omega
                    · go_wp2_with (first | ((with_reducible apply wpA_guard); exact rfl; skip) | ((with_reducible apply wpA_load); exact rfl; (first | exact hS.cell 0 rfl _ rfl | exact hS.cell 1 rfl _ rfl | exact hS.cell 2 rfl _ rfl | exact hS.cell 3 rfl _ rfl | exact hS.cell 4 rfl _ rfl | exact hS.cell 5 rfl _ rfl | exact hS.cell 6 rfl _ rfl | exact hS.cell 7 rfl _ rfl | assumption); kernel_rfl) | (first | ((with_reducible apply wpA_store1 hS 0); exact rfl; exact rfl; exact rfl; exact rfl; exact rfl; exact rfl; kernel_rfl; intro wx hS; (try simp only [Act.put, List.setIfInBounds_toArray, List.set_cons_zero, List.set_cons_succ]); (try simp only [Act.eval, Array.getD_eq_getD_getElem?, List.getElem?_toArray, List.getElem?_cons_succ, List.getElem?_cons_zero, Option.getD_some, List.set_cons_succ, List.set_cons_zero, Value.cells, List.toList_toArray] at hS)) | ((with_reducible apply wpA_store1 hS 1); exact rfl; exact rfl; exact rfl; exact rfl; exact rfl; exact rfl; kernel_rfl; intro wx hS; (try simp only [Act.put, List.setIfInBounds_toArray, List.set_cons_zero, List.set_cons_succ]); (try simp only [Act.eval, Array.getD_eq_getD_getElem?, List.getElem?_toArray, List.getElem?_cons_succ, List.getElem?_cons_zero, Option.getD_some, List.set_cons_succ, List.set_cons_zero, Value.cells, List.toList_toArray] at hS)) | ((with_reducible apply wpA_store1 hS 2); exact rfl; exact rfl; exact rfl; exact rfl; exact rfl; exact rfl; kernel_rfl; intro wx hS; (try simp only [Act.put, List.setIfInBounds_toArray, List.set_cons_zero, List.set_cons_succ]); (try simp only [Act.eval, Array.getD_eq_getD_getElem?, List.getElem?_toArray, List.getElem?_cons_succ, List.getElem?_cons_zero, Option.getD_some, List.set_cons_succ, List.set_cons_zero, Value.cells, List.toList_toArray] at hS)) | ((with_reducible apply wpA_store1 hS 3); exact rfl; exact rfl; exact rfl; exact rfl; exact rfl; exact rfl; kernel_rfl; intro wx hS; (try simp only [Act.put, List.setIfInBounds_toArray, List.set_cons_zero, List.set_cons_succ]); (try simp only [Act.eval, Array.getD_eq_getD_getElem?, List.getElem?_toArray, List.getElem?_cons_succ, List.getElem?_cons_zero, Option.getD_some, List.set_cons_succ, List.set_cons_zero, Value.cells, List.toList_toArray] at hS)) | ((with_reducible apply wpA_store1 hS 4); exact rfl; exact rfl; exact rfl; exact rfl; exact rfl; exact rfl; kernel_rfl; intro wx hS; (try simp only [Act.put, List.setIfInBounds_toArray, List.set_cons_zero, List.set_cons_succ]); (try simp only [Act.eval, Array.getD_eq_getD_getElem?, List.getElem?_toArray, List.getElem?_cons_succ, List.getElem?_cons_zero, Option.getD_some, List.set_cons_succ, List.set_cons_zero, Value.cells, List.toList_toArray] at hS)) | ((with_reducible apply wpA_store1 hS 5); exact rfl; exact rfl; exact rfl; exact rfl; exact rfl; exact rfl; kernel_rfl; intro wx hS; (try simp only [Act.put, List.setIfInBounds_toArray, List.set_cons_zero, List.set_cons_succ]); (try simp only [Act.eval, Array.getD_eq_getD_getElem?, List.getElem?_toArray, List.getElem?_cons_succ, List.getElem?_cons_zero, Option.getD_some, List.set_cons_succ, List.set_cons_zero, Value.cells, List.toList_toArray] at hS))) | ((with_reducible apply wpA_box hS); exact rfl; exact rfl; intro _ wx hS; (try simp only [Act.put, List.setIfInBounds_toArray, List.set_cons_zero, List.set_cons_succ]); (try simp only [Act.eval, Array.getD_eq_getD_getElem?, List.getElem?_toArray, List.getElem?_cons_succ, List.getElem?_cons_zero, Option.getD_some, List.set_cons_succ, List.set_cons_zero, Value.cells, List.toList_toArray] at hS)))
                      refine wp_region_St hS (by kernel_rfl) (by kernel_rfl) ?_
                      refine wpQ_val ?_ rfl ?_ ?_
                      rotate_left
                      · intro w hS; go_simp; try with_reducible rfl
                      (simp only [Act.put, List.setIfInBounds_toArray, List.set_cons_zero, List.set_cons_succ])
                      refine wpQ_val ?_ rfl ?_ ?_
                      rotate_left
                      · intro w hS; go_simp; try with_reducible rfl
                      (simp only [Act.put, List.setIfInBounds_toArray, List.set_cons_zero, List.set_cons_succ])
                      refine wpQ_val ?_ rfl ?_ ?_
                      rotate_left
                      · intro w hS; go_simp; try with_reducible rfl
                      (simp only [Act.put, List.setIfInBounds_toArray, List.set_cons_zero, List.set_cons_succ])
                      refine wpQ_load rfl (fun w hS => by exact hS.oldCell hrt) (by kernel_rfl) ?_
                      (simp only [Act.put, List.setIfInBounds_toArray, List.set_cons_zero, List.set_cons_succ])
                      refine wpQ_val ?_ rfl ?_ ?_
                      rotate_left
                      · intro w hS; go_simp; try with_reducible rfl
                      (simp only [Act.put, List.setIfInBounds_toArray, List.set_cons_zero, List.set_cons_succ])
                      refine wpQ_val ?_ rfl ?_ ?_
                      rotate_left
                      · intro w hS; go_simp; try with_reducible rfl
                      (simp only [Act.put, List.setIfInBounds_toArray, List.set_cons_zero, List.set_cons_succ])
                      refine wpQ_val ?_ rfl ?_ ?_
                      rotate_left
                      · intro w hS; go_simp; try with_reducible rfl
                      (simp only [Act.put, List.setIfInBounds_toArray, List.set_cons_zero, List.set_cons_succ])
                      refine wpQ_load rfl (fun w hS => by exact hS.oldCell hci) (by kernel_rfl) ?_
                      (simp only [Act.put, List.setIfInBounds_toArray, List.set_cons_zero, List.set_cons_succ])
                      refine wpQ_val (.bool false) rfl (fun w hS => by first | (go_simp; done) | (go_simp; omega)) ?_
                      (simp only [Act.put, List.setIfInBounds_toArray, List.set_cons_zero, List.set_cons_succ])
                      refine wpQ_val ?_ rfl ?_ ?_
                      rotate_left
                      · intro w hS; go_simp; try with_reducible rfl
                      (simp only [Act.put, List.setIfInBounds_toArray, List.set_cons_zero, List.set_cons_succ])
                      refine wpQ_skip (by exact rfl) ?_
                      (simp only [Act.put, List.setIfInBounds_toArray, List.set_cons_zero, List.set_cons_succ])
                      refine wpQ_skip (by exact rfl) ?_
                      (simp only [Act.put, List.setIfInBounds_toArray, List.set_cons_zero, List.set_cons_succ])
                      refine wpQ_skip (by exact rfl) ?_
                      (simp only [Act.put, List.setIfInBounds_toArray, List.set_cons_zero, List.set_cons_succ])
                      refine wpQ_skip (by exact rfl) ?_
                      (simp only [Act.put, List.setIfInBounds_toArray, List.set_cons_zero, List.set_cons_succ])
                      refine wpQ_skip (by exact rfl) ?_
                      (simp only [Act.put, List.setIfInBounds_toArray, List.set_cons_zero, List.set_cons_succ])
                      refine wpQ_val ?_ rfl ?_ ?_
                      rotate_left
                      · intro w hS; go_simp; try with_reducible rfl
                      (simp only [Act.put, List.setIfInBounds_toArray, List.set_cons_zero, List.set_cons_succ])
                      refine wpQuiet_nil ?_
                      intro wx hS
                      go_wp2_with (first | ((with_reducible apply wpA_guard); exact rfl; skip) | ((with_reducible apply wpA_load); exact rfl; (first | exact hS.cell 0 rfl _ rfl | exact hS.cell 1 rfl _ rfl | exact hS.cell 2 rfl _ rfl | exact hS.cell 3 rfl _ rfl | exact hS.cell 4 rfl _ rfl | exact hS.cell 5 rfl _ rfl | exact hS.cell 6 rfl _ rfl | exact hS.cell 7 rfl _ rfl | assumption); kernel_rfl) | (first | ((with_reducible apply wpA_store1 hS 0); exact rfl; exact rfl; exact rfl; exact rfl; exact rfl; exact rfl; kernel_rfl; intro wx hS; (try simp only [Act.put, List.setIfInBounds_toArray, List.set_cons_zero, List.set_cons_succ]); (try simp only [Act.eval, Array.getD_eq_getD_getElem?, List.getElem?_toArray, List.getElem?_cons_succ, List.getElem?_cons_zero, Option.getD_some, List.set_cons_succ, List.set_cons_zero, Value.cells, List.toList_toArray] at hS)) | ((with_reducible apply wpA_store1 hS 1); exact rfl; exact rfl; exact rfl; exact rfl; exact rfl; exact rfl; kernel_rfl; intro wx hS; (try simp only [Act.put, List.setIfInBounds_toArray, List.set_cons_zero, List.set_cons_succ]); (try simp only [Act.eval, Array.getD_eq_getD_getElem?, List.getElem?_toArray, List.getElem?_cons_succ, List.getElem?_cons_zero, Option.getD_some, List.set_cons_succ, List.set_cons_zero, Value.cells, List.toList_toArray] at hS)) | ((with_reducible apply wpA_store1 hS 2); exact rfl; exact rfl; exact rfl; exact rfl; exact rfl; exact rfl; kernel_rfl; intro wx hS; (try simp only [Act.put, List.setIfInBounds_toArray, List.set_cons_zero, List.set_cons_succ]); (try simp only [Act.eval, Array.getD_eq_getD_getElem?, List.getElem?_toArray, List.getElem?_cons_succ, List.getElem?_cons_zero, Option.getD_some, List.set_cons_succ, List.set_cons_zero, Value.cells, List.toList_toArray] at hS)) | ((with_reducible apply wpA_store1 hS 3); exact rfl; exact rfl; exact rfl; exact rfl; exact rfl; exact rfl; kernel_rfl; intro wx hS; (try simp only [Act.put, List.setIfInBounds_toArray, List.set_cons_zero, List.set_cons_succ]); (try simp only [Act.eval, Array.getD_eq_getD_getElem?, List.getElem?_toArray, List.getElem?_cons_succ, List.getElem?_cons_zero, Option.getD_some, List.set_cons_succ, List.set_cons_zero, Value.cells, List.toList_toArray] at hS)) | ((with_reducible apply wpA_store1 hS 4); exact rfl; exact rfl; exact rfl; exact rfl; exact rfl; exact rfl; kernel_rfl; intro wx hS; (try simp only [Act.put, List.setIfInBounds_toArray, List.set_cons_zero, List.set_cons_succ]); (try simp only [Act.eval, Array.getD_eq_getD_getElem?, List.getElem?_toArray, List.getElem?_cons_succ, List.getElem?_cons_zero, Option.getD_some, List.set_cons_succ, List.set_cons_zero, Value.cells, List.toList_toArray] at hS)) | ((with_reducible apply wpA_store1 hS 5); exact rfl; exact rfl; exact rfl; exact rfl; exact rfl; exact rfl; kernel_rfl; intro wx hS; (try simp only [Act.put, List.setIfInBounds_toArray, List.set_cons_zero, List.set_cons_succ]); (try simp only [Act.eval, Array.getD_eq_getD_getElem?, List.getElem?_toArray, List.getElem?_cons_succ, List.getElem?_cons_zero, Option.getD_some, List.set_cons_succ, List.set_cons_zero, Value.cells, List.toList_toArray] at hS))) | ((with_reducible apply wpA_box hS); exact rfl; exact rfl; intro _ wx hS; (try simp only [Act.put, List.setIfInBounds_toArray, List.set_cons_zero, List.set_cons_succ]); (try simp only [Act.eval, Array.getD_eq_getD_getElem?, List.getElem?_toArray, List.getElem?_cons_succ, List.getElem?_cons_zero, Option.getD_some, List.set_cons_succ, List.set_cons_zero, Value.cells, List.toList_toArray] at hS)))
                      go_roundw
                      case rel => exact ⟨k + 1, HKN.out, by go_num, hb _ _ (St.perm (H := [_] ++ D) hS List.perm_append_comm)⟩
                      case measure => have := HKN.out; simp [intOf]; omega
                  · clear hn
                    go_wp2_with (first | ((with_reducible apply wpA_guard); exact rfl; skip) | ((with_reducible apply wpA_load); exact rfl; (first | exact hS.cell 0 rfl _ rfl | exact hS.cell 1 rfl _ rfl | exact hS.cell 2 rfl _ rfl | exact hS.cell 3 rfl _ rfl | exact hS.cell 4 rfl _ rfl | exact hS.cell 5 rfl _ rfl | exact hS.cell 6 rfl _ rfl | exact hS.cell 7 rfl _ rfl | assumption); kernel_rfl) | (first | ((with_reducible apply wpA_store1 hS 0); exact rfl; exact rfl; exact rfl; exact rfl; exact rfl; exact rfl; kernel_rfl; intro wx hS; (try simp only [Act.put, List.setIfInBounds_toArray, List.set_cons_zero, List.set_cons_succ]); (try simp only [Act.eval, Array.getD_eq_getD_getElem?, List.getElem?_toArray, List.getElem?_cons_succ, List.getElem?_cons_zero, Option.getD_some, List.set_cons_succ, List.set_cons_zero, Value.cells, List.toList_toArray] at hS)) | ((with_reducible apply wpA_store1 hS 1); exact rfl; exact rfl; exact rfl; exact rfl; exact rfl; exact rfl; kernel_rfl; intro wx hS; (try simp only [Act.put, List.setIfInBounds_toArray, List.set_cons_zero, List.set_cons_succ]); (try simp only [Act.eval, Array.getD_eq_getD_getElem?, List.getElem?_toArray, List.getElem?_cons_succ, List.getElem?_cons_zero, Option.getD_some, List.set_cons_succ, List.set_cons_zero, Value.cells, List.toList_toArray] at hS)) | ((with_reducible apply wpA_store1 hS 2); exact rfl; exact rfl; exact rfl; exact rfl; exact rfl; exact rfl; kernel_rfl; intro wx hS; (try simp only [Act.put, List.setIfInBounds_toArray, List.set_cons_zero, List.set_cons_succ]); (try simp only [Act.eval, Array.getD_eq_getD_getElem?, List.getElem?_toArray, List.getElem?_cons_succ, List.getElem?_cons_zero, Option.getD_some, List.set_cons_succ, List.set_cons_zero, Value.cells, List.toList_toArray] at hS)) | ((with_reducible apply wpA_store1 hS 3); exact rfl; exact rfl; exact rfl; exact rfl; exact rfl; exact rfl; kernel_rfl; intro wx hS; (try simp only [Act.put, List.setIfInBounds_toArray, List.set_cons_zero, List.set_cons_succ]); (try simp only [Act.eval, Array.getD_eq_getD_getElem?, List.getElem?_toArray, List.getElem?_cons_succ, List.getElem?_cons_zero, Option.getD_some, List.set_cons_succ, List.set_cons_zero, Value.cells, List.toList_toArray] at hS)) | ((with_reducible apply wpA_store1 hS 4); exact rfl; exact rfl; exact rfl; exact rfl; exact rfl; exact rfl; kernel_rfl; intro wx hS; (try simp only [Act.put, List.setIfInBounds_toArray, List.set_cons_zero, List.set_cons_succ]); (try simp only [Act.eval, Array.getD_eq_getD_getElem?, List.getElem?_toArray, List.getElem?_cons_succ, List.getElem?_cons_zero, Option.getD_some, List.set_cons_succ, List.set_cons_zero, Value.cells, List.toList_toArray] at hS)) | ((with_reducible apply wpA_store1 hS 5); exact rfl; exact rfl; exact rfl; exact rfl; exact rfl; exact rfl; kernel_rfl; intro wx hS; (try simp only [Act.put, List.setIfInBounds_toArray, List.set_cons_zero, List.set_cons_succ]); (try simp only [Act.eval, Array.getD_eq_getD_getElem?, List.getElem?_toArray, List.getElem?_cons_succ, List.getElem?_cons_zero, Option.getD_some, List.set_cons_succ, List.set_cons_zero, Value.cells, List.toList_toArray] at hS))) | ((with_reducible apply wpA_box hS); exact rfl; exact rfl; intro _ wx hS; (try simp only [Act.put, List.setIfInBounds_toArray, List.set_cons_zero, List.set_cons_succ]); (try simp only [Act.eval, Array.getD_eq_getD_getElem?, List.getElem?_toArray, List.getElem?_cons_succ, List.getElem?_cons_zero, Option.getD_some, List.set_cons_succ, List.set_cons_zero, Value.cells, List.toList_toArray] at hS)))
                    go_roundw
                    case rel => exact ⟨i + 1, HLT.out, by go_num, _, _, hL⟩
                    case measure => have := HLT.out; simp [intOf]; omega
                · clear hn
                  go_wp2_with (first | ((with_reducible apply wpA_guard); exact rfl; skip) | ((with_reducible apply wpA_load); exact rfl; (first | exact hS.cell 0 rfl _ rfl | exact hS.cell 1 rfl _ rfl | exact hS.cell 2 rfl _ rfl | exact hS.cell 3 rfl _ rfl | exact hS.cell 4 rfl _ rfl | exact hS.cell 5 rfl _ rfl | exact hS.cell 6 rfl _ rfl | exact hS.cell 7 rfl _ rfl | assumption); kernel_rfl) | (first | ((with_reducible apply wpA_store1 hS 0); exact rfl; exact rfl; exact rfl; exact rfl; exact rfl; exact rfl; kernel_rfl; intro wx hS; (try simp only [Act.put, List.setIfInBounds_toArray, List.set_cons_zero, List.set_cons_succ]); (try simp only [Act.eval, Array.getD_eq_getD_getElem?, List.getElem?_toArray, List.getElem?_cons_succ, List.getElem?_cons_zero, Option.getD_some, List.set_cons_succ, List.set_cons_zero, Value.cells, List.toList_toArray] at hS)) | ((with_reducible apply wpA_store1 hS 1); exact rfl; exact rfl; exact rfl; exact rfl; exact rfl; exact rfl; kernel_rfl; intro wx hS; (try simp only [Act.put, List.setIfInBounds_toArray, List.set_cons_zero, List.set_cons_succ]); (try simp only [Act.eval, Array.getD_eq_getD_getElem?, List.getElem?_toArray, List.getElem?_cons_succ, List.getElem?_cons_zero, Option.getD_some, List.set_cons_succ, List.set_cons_zero, Value.cells, List.toList_toArray] at hS)) | ((with_reducible apply wpA_store1 hS 2); exact rfl; exact rfl; exact rfl; exact rfl; exact rfl; exact rfl; kernel_rfl; intro wx hS; (try simp only [Act.put, List.setIfInBounds_toArray, List.set_cons_zero, List.set_cons_succ]); (try simp only [Act.eval, Array.getD_eq_getD_getElem?, List.getElem?_toArray, List.getElem?_cons_succ, List.getElem?_cons_zero, Option.getD_some, List.set_cons_succ, List.set_cons_zero, Value.cells, List.toList_toArray] at hS)) | ((with_reducible apply wpA_store1 hS 3); exact rfl; exact rfl; exact rfl; exact rfl; exact rfl; exact rfl; kernel_rfl; intro wx hS; (try simp only [Act.put, List.setIfInBounds_toArray, List.set_cons_zero, List.set_cons_succ]); (try simp only [Act.eval, Array.getD_eq_getD_getElem?, List.getElem?_toArray, List.getElem?_cons_succ, List.getElem?_cons_zero, Option.getD_some, List.set_cons_succ, List.set_cons_zero, Value.cells, List.toList_toArray] at hS)) | ((with_reducible apply wpA_store1 hS 4); exact rfl; exact rfl; exact rfl; exact rfl; exact rfl; exact rfl; kernel_rfl; intro wx hS; (try simp only [Act.put, List.setIfInBounds_toArray, List.set_cons_zero, List.set_cons_succ]); (try simp only [Act.eval, Array.getD_eq_getD_getElem?, List.getElem?_toArray, List.getElem?_cons_succ, List.getElem?_cons_zero, Option.getD_some, List.set_cons_succ, List.set_cons_zero, Value.cells, List.toList_toArray] at hS)) | ((with_reducible apply wpA_store1 hS 5); exact rfl; exact rfl; exact rfl; exact rfl; exact rfl; exact rfl; kernel_rfl; intro wx hS; (try simp only [Act.put, List.setIfInBounds_toArray, List.set_cons_zero, List.set_cons_succ]); (try simp only [Act.eval, Array.getD_eq_getD_getElem?, List.getElem?_toArray, List.getElem?_cons_succ, List.getElem?_cons_zero, Option.getD_some, List.set_cons_succ, List.set_cons_zero, Value.cells, List.toList_toArray] at hS))) | ((with_reducible apply wpA_box hS); exact rfl; exact rfl; intro _ wx hS; (try simp only [Act.put, List.setIfInBounds_toArray, List.set_cons_zero, List.set_cons_succ]); (try simp only [Act.eval, Array.getD_eq_getD_getElem?, List.getElem?_toArray, List.getElem?_cons_succ, List.getElem?_cons_zero, Option.getD_some, List.set_cons_succ, List.set_cons_zero, Value.cells, List.toList_toArray] at hS)))
                  go_roundw
                  case rel => exact ⟨i + 1, HLT.out, by go_num, _, _, hL⟩
                  case measure => have := HLT.out; simp [intOf]; omega
          · go_wp2_with (first | ((with_reducible apply wpA_guard); exact rfl; skip) | ((with_reducible apply wpA_load); exact rfl; (first | exact hS.cell 0 rfl _ rfl | exact hS.cell 1 rfl _ rfl | exact hS.cell 2 rfl _ rfl | exact hS.cell 3 rfl _ rfl | exact hS.cell 4 rfl _ rfl | exact hS.cell 5 rfl _ rfl | exact hS.cell 6 rfl _ rfl | exact hS.cell 7 rfl _ rfl | assumption); kernel_rfl) | (first | ((with_reducible apply wpA_store1 hS 0); exact rfl; exact rfl; exact rfl; exact rfl; exact rfl; exact rfl; kernel_rfl; intro wx hS; (try simp only [Act.put, List.setIfInBounds_toArray, List.set_cons_zero, List.set_cons_succ]); (try simp only [Act.eval, Array.getD_eq_getD_getElem?, List.getElem?_toArray, List.getElem?_cons_succ, List.getElem?_cons_zero, Option.getD_some, List.set_cons_succ, List.set_cons_zero, Value.cells, List.toList_toArray] at hS)) | ((with_reducible apply wpA_store1 hS 1); exact rfl; exact rfl; exact rfl; exact rfl; exact rfl; exact rfl; kernel_rfl; intro wx hS; (try simp only [Act.put, List.setIfInBounds_toArray, List.set_cons_zero, List.set_cons_succ]); (try simp only [Act.eval, Array.getD_eq_getD_getElem?, List.getElem?_toArray, List.getElem?_cons_succ, List.getElem?_cons_zero, Option.getD_some, List.set_cons_succ, List.set_cons_zero, Value.cells, List.toList_toArray] at hS)) | ((with_reducible apply wpA_store1 hS 2); exact rfl; exact rfl; exact rfl; exact rfl; exact rfl; exact rfl; kernel_rfl; intro wx hS; (try simp only [Act.put, List.setIfInBounds_toArray, List.set_cons_zero, List.set_cons_succ]); (try simp only [Act.eval, Array.getD_eq_getD_getElem?, List.getElem?_toArray, List.getElem?_cons_succ, List.getElem?_cons_zero, Option.getD_some, List.set_cons_succ, List.set_cons_zero, Value.cells, List.toList_toArray] at hS)) | ((with_reducible apply wpA_store1 hS 3); exact rfl; exact rfl; exact rfl; exact rfl; exact rfl; exact rfl; kernel_rfl; intro wx hS; (try simp only [Act.put, List.setIfInBounds_toArray, List.set_cons_zero, List.set_cons_succ]); (try simp only [Act.eval, Array.getD_eq_getD_getElem?, List.getElem?_toArray, List.getElem?_cons_succ, List.getElem?_cons_zero, Option.getD_some, List.set_cons_succ, List.set_cons_zero, Value.cells, List.toList_toArray] at hS)) | ((with_reducible apply wpA_store1 hS 4); exact rfl; exact rfl; exact rfl; exact rfl; exact rfl; exact rfl; kernel_rfl; intro wx hS; (try simp only [Act.put, List.setIfInBounds_toArray, List.set_cons_zero, List.set_cons_succ]); (try simp only [Act.eval, Array.getD_eq_getD_getElem?, List.getElem?_toArray, List.getElem?_cons_succ, List.getElem?_cons_zero, Option.getD_some, List.set_cons_succ, List.set_cons_zero, Value.cells, List.toList_toArray] at hS)) | ((with_reducible apply wpA_store1 hS 5); exact rfl; exact rfl; exact rfl; exact rfl; exact rfl; exact rfl; kernel_rfl; intro wx hS; (try simp only [Act.put, List.setIfInBounds_toArray, List.set_cons_zero, List.set_cons_succ]); (try simp only [Act.eval, Array.getD_eq_getD_getElem?, List.getElem?_toArray, List.getElem?_cons_succ, List.getElem?_cons_zero, Option.getD_some, List.set_cons_succ, List.set_cons_zero, Value.cells, List.toList_toArray] at hS))) | ((with_reducible apply wpA_box hS); exact rfl; exact rfl; intro _ wx hS; (try simp only [Act.put, List.setIfInBounds_toArray, List.set_cons_zero, List.set_cons_succ]); (try simp only [Act.eval, Array.getD_eq_getD_getElem?, List.getElem?_toArray, List.getElem?_cons_succ, List.getElem?_cons_zero, Option.getD_some, List.set_cons_succ, List.set_cons_zero, Value.cells, List.toList_toArray] at hS)))
            go_meet
            exact hL.rest.tail
        · go_wp2_with (first | ((with_reducible apply wpA_guard); exact rfl; skip) | ((with_reducible apply wpA_load); exact rfl; (first | exact hS.cell 0 rfl _ rfl | exact hS.cell 1 rfl _ rfl | exact hS.cell 2 rfl _ rfl | exact hS.cell 3 rfl _ rfl | exact hS.cell 4 rfl _ rfl | exact hS.cell 5 rfl _ rfl | exact hS.cell 6 rfl _ rfl | exact hS.cell 7 rfl _ rfl | assumption); kernel_rfl) | (first | ((with_reducible apply wpA_store1 hS 0); exact rfl; exact rfl; exact rfl; exact rfl; exact rfl; exact rfl; kernel_rfl; intro wx hS; (try simp only [Act.put, List.setIfInBounds_toArray, List.set_cons_zero, List.set_cons_succ]); (try simp only [Act.eval, Array.getD_eq_getD_getElem?, List.getElem?_toArray, List.getElem?_cons_succ, List.getElem?_cons_zero, Option.getD_some, List.set_cons_succ, List.set_cons_zero, Value.cells, List.toList_toArray] at hS)) | ((with_reducible apply wpA_store1 hS 1); exact rfl; exact rfl; exact rfl; exact rfl; exact rfl; exact rfl; kernel_rfl; intro wx hS; (try simp only [Act.put, List.setIfInBounds_toArray, List.set_cons_zero, List.set_cons_succ]); (try simp only [Act.eval, Array.getD_eq_getD_getElem?, List.getElem?_toArray, List.getElem?_cons_succ, List.getElem?_cons_zero, Option.getD_some, List.set_cons_succ, List.set_cons_zero, Value.cells, List.toList_toArray] at hS)) | ((with_reducible apply wpA_store1 hS 2); exact rfl; exact rfl; exact rfl; exact rfl; exact rfl; exact rfl; kernel_rfl; intro wx hS; (try simp only [Act.put, List.setIfInBounds_toArray, List.set_cons_zero, List.set_cons_succ]); (try simp only [Act.eval, Array.getD_eq_getD_getElem?, List.getElem?_toArray, List.getElem?_cons_succ, List.getElem?_cons_zero, Option.getD_some, List.set_cons_succ, List.set_cons_zero, Value.cells, List.toList_toArray] at hS)) | ((with_reducible apply wpA_store1 hS 3); exact rfl; exact rfl; exact rfl; exact rfl; exact rfl; exact rfl; kernel_rfl; intro wx hS; (try simp only [Act.put, List.setIfInBounds_toArray, List.set_cons_zero, List.set_cons_succ]); (try simp only [Act.eval, Array.getD_eq_getD_getElem?, List.getElem?_toArray, List.getElem?_cons_succ, List.getElem?_cons_zero, Option.getD_some, List.set_cons_succ, List.set_cons_zero, Value.cells, List.toList_toArray] at hS)) | ((with_reducible apply wpA_store1 hS 4); exact rfl; exact rfl; exact rfl; exact rfl; exact rfl; exact rfl; kernel_rfl; intro wx hS; (try simp only [Act.put, List.setIfInBounds_toArray, List.set_cons_zero, List.set_cons_succ]); (try simp only [Act.eval, Array.getD_eq_getD_getElem?, List.getElem?_toArray, List.getElem?_cons_succ, List.getElem?_cons_zero, Option.getD_some, List.set_cons_succ, List.set_cons_zero, Value.cells, List.toList_toArray] at hS)) | ((with_reducible apply wpA_store1 hS 5); exact rfl; exact rfl; exact rfl; exact rfl; exact rfl; exact rfl; kernel_rfl; intro wx hS; (try simp only [Act.put, List.setIfInBounds_toArray, List.set_cons_zero, List.set_cons_succ]); (try simp only [Act.eval, Array.getD_eq_getD_getElem?, List.getElem?_toArray, List.getElem?_cons_succ, List.getElem?_cons_zero, Option.getD_some, List.set_cons_succ, List.set_cons_zero, Value.cells, List.toList_toArray] at hS))) | ((with_reducible apply wpA_box hS); exact rfl; exact rfl; intro _ wx hS; (try simp only [Act.put, List.setIfInBounds_toArray, List.set_cons_zero, List.set_cons_succ]); (try simp only [Act.eval, Array.getD_eq_getD_getElem?, List.getElem?_toArray, List.getElem?_cons_succ, List.getElem?_cons_zero, Option.getD_some, List.set_cons_succ, List.set_cons_zero, Value.cells, List.toList_toArray] at hS)))
          go_meet
          exact hL.rest.tail
    case rest =>
      go_wp2_with (first | ((with_reducible apply wpA_guard); exact rfl; skip) | (go_at_call 12; with_reducible refine (awake_c w0 _ [] hcut).mono ?_; rintro _ _ ⟨rfl, hS⟩) | ((with_reducible apply wpA_load); exact rfl; (first | exact hS.cell 0 rfl _ rfl | exact hS.cell 1 rfl _ rfl | exact hS.cell 2 rfl _ rfl | exact hS.cell 3 rfl _ rfl | exact hS.cell 4 rfl _ rfl | exact hS.cell 5 rfl _ rfl | exact hS.cell 6 rfl _ rfl | exact hS.cell 7 rfl _ rfl | assumption); kernel_rfl) | (first | ((with_reducible apply wpA_store1 hS 0); exact rfl; exact rfl; exact rfl; exact rfl; exact rfl; exact rfl; kernel_rfl; intro wx hS; (try simp only [Act.put, List.setIfInBounds_toArray, List.set_cons_zero, List.set_cons_succ]); (try simp only [Act.eval, Array.getD_eq_getD_getElem?, List.getElem?_toArray, List.getElem?_cons_succ, List.getElem?_cons_zero, Option.getD_some, List.set_cons_succ, List.set_cons_zero, Value.cells, List.toList_toArray] at hS)) | ((with_reducible apply wpA_store1 hS 1); exact rfl; exact rfl; exact rfl; exact rfl; exact rfl; exact rfl; kernel_rfl; intro wx hS; (try simp only [Act.put, List.setIfInBounds_toArray, List.set_cons_zero, List.set_cons_succ]); (try simp only [Act.eval, Array.getD_eq_getD_getElem?, List.getElem?_toArray, List.getElem?_cons_succ, List.getElem?_cons_zero, Option.getD_some, List.set_cons_succ, List.set_cons_zero, Value.cells, List.toList_toArray] at hS)) | ((with_reducible apply wpA_store1 hS 2); exact rfl; exact rfl; exact rfl; exact rfl; exact rfl; exact rfl; kernel_rfl; intro wx hS; (try simp only [Act.put, List.setIfInBounds_toArray, List.set_cons_zero, List.set_cons_succ]); (try simp only [Act.eval, Array.getD_eq_getD_getElem?, List.getElem?_toArray, List.getElem?_cons_succ, List.getElem?_cons_zero, Option.getD_some, List.set_cons_succ, List.set_cons_zero, Value.cells, List.toList_toArray] at hS)) | ((with_reducible apply wpA_store1 hS 3); exact rfl; exact rfl; exact rfl; exact rfl; exact rfl; exact rfl; kernel_rfl; intro wx hS; (try simp only [Act.put, List.setIfInBounds_toArray, List.set_cons_zero, List.set_cons_succ]); (try simp only [Act.eval, Array.getD_eq_getD_getElem?, List.getElem?_toArray, List.getElem?_cons_succ, List.getElem?_cons_zero, Option.getD_some, List.set_cons_succ, List.set_cons_zero, Value.cells, List.toList_toArray] at hS)) | ((with_reducible apply wpA_store1 hS 4); exact rfl; exact rfl; exact rfl; exact rfl; exact rfl; exact rfl; kernel_rfl; intro wx hS; (try simp only [Act.put, List.setIfInBounds_toArray, List.set_cons_zero, List.set_cons_succ]); (try simp only [Act.eval, Array.getD_eq_getD_getElem?, List.getElem?_toArray, List.getElem?_cons_succ, List.getElem?_cons_zero, Option.getD_some, List.set_cons_succ, List.set_cons_zero, Value.cells, List.toList_toArray] at hS)) | ((with_reducible apply wpA_store1 hS 5); exact rfl; exact rfl; exact rfl; exact rfl; exact rfl; exact rfl; kernel_rfl; intro wx hS; (try simp only [Act.put, List.setIfInBounds_toArray, List.set_cons_zero, List.set_cons_succ]); (try simp only [Act.eval, Array.getD_eq_getD_getElem?, List.getElem?_toArray, List.getElem?_cons_succ, List.getElem?_cons_zero, Option.getD_some, List.set_cons_succ, List.set_cons_zero, Value.cells, List.toList_toArray] at hS))) | ((with_reducible apply wpA_box hS); exact rfl; exact rfl; intro _ wx hS; (try simp only [Act.put, List.setIfInBounds_toArray, List.set_cons_zero, List.set_cons_succ]); (try simp only [Act.eval, Array.getD_eq_getD_getElem?, List.getElem?_toArray, List.getElem?_cons_succ, List.getElem?_cons_zero, Option.getD_some, List.set_cons_succ, List.set_cons_zero, Value.cells, List.toList_toArray] at hS)))
      go_ret
      exact ⟨rfl, hS⟩

theorem ans_c (w : World) (v0 v1 : Value) (h0 : RdV Try.prog w 26 v0) (h1 : RdV Try.prog w 26 v1) : Calls Try.prog 5 #[v0, v1] w fun e w' => e = .returned (.bool true) ∧ St w w' [] := by
  obtain ⟨rs, ⟨ao, co, rfl, ho, bo, hr⟩, _⟩ := IntsIn.of h0 Try.underlying26 Try.underlying3 (by kernel_rfl) (by kernel_rfl)
  obtain ⟨cs, ⟨ac, cc, rfl, hc, bc, hd⟩, _⟩ := IntsIn.of h1 Try.underlying26 Try.underlying3 (by kernel_rfl) (by kernel_rfl)
  have e : reachBytes = 140737488351232 := rfl
  exact ans_v w rs cs ao ac co cc hr hd (by omega) (by omega)
end Go.Proofs.Ytcihgcdakooacaa
