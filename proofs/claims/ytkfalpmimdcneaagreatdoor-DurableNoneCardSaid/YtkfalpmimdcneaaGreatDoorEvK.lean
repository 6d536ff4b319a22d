/-
  What the evaluator is told: slices.Sorted of maps.Keys.
-/
import Derived.Test.YtkfalpmimdcneaaGreatDoorEv12
import Derived.Test.YtkfalpmimdcneaaGreatDoorOwnRow
import Derived.Lib.SlKeysI
namespace Go.Proofs.YtkfalpmimdcneaaGreatDoor
set_option linter.unusedVariables false
set_option linter.unusedSimpArgs false
open Go.Maps Go.Sort Go.RowKit Go.ChangeMaps
open Go.WideElems (rd rg Fit rg_of)

theorem evins_perm {H : Type} (x : Lit × DataW H) : ∀ l : List (Lit × DataW H), (DataW.insert x l).Perm (x :: l)
  | [] => .refl _
  | y :: r => by
    unfold DataW.insert
    split
    · exact .refl _
    · exact ((evins_perm x r).cons y).trans (.swap x y r)

theorem evinsAll_perm {H : Type} : ∀ l : List (Lit × DataW H), (l.foldr DataW.insert []).Perm l
  | [] => .refl _
  | x :: r => (evins_perm x _).trans ((evinsAll_perm r).cons x)

theorem evowns_I {P : Program} {k : TypeId} {w : World} {b : Nat} {kvs : List (Value × Value)} {names : List Int} (hk : P.underlying k = some (.int .i64)) (hb : Hp.on w (.mp b (.int .i64) kvs)) (hn : kvs.map (·.1) = names.map (Value.int .i64))
    (hl : names.length ≤ maxLen) (hs : ∀ s ∈ names, (Lit.int .i64 s).wf = true) :
    ∃ D : DataW Unit, w.ownsMap P k (fun _ => some (.nil, [])) b names.length D ∧ (intKeys D).Perm names ∧ Maps.size D = names.length := by
  obtain ⟨es, clock, hh, hst, hkv, hkey⟩ := hb
  have hlen : es.size = names.length := by
    have h1 := congrArg List.length hn
    have h2 := congrArg List.length hkv
    simp at h1 h2; omega
  have hkeys : es.toList.map (·.key) = names.map (Value.int .i64) := by
    rw [← hn, ← hkv, List.map_map]; rfl
  have hrd : ∀ x ∈ es.toList, ∃ s : Int, s ∈ names ∧ x.key = .int .i64 s ∧ rd (H := Unit) P k (fun _ => some (.nil, [])) x = some (.int .i64 s, .nil) := by
    intro x hx
    have h1 : x.key ∈ es.toList.map (·.key) := List.mem_map.2 ⟨x, hx, rfl⟩
    rw [hkeys] at h1
    obtain ⟨s, h2, h3⟩ := List.mem_map.1 h1
    refine ⟨s, h2, h3.symm, ?_⟩
    unfold Go.WideElems.rd
    rw [← h3, Go.Maps.keyOf_int_mk hk (hs s h2)]
    rfl
  refine ⟨_, ⟨es, clock, hh, ⟨by omega, hst, fun x hx => ?_⟩, by omega, rfl⟩, ?_, ?_⟩
  · obtain ⟨s, _, _, h⟩ := hrd x hx
    exact ⟨_, h⟩
  · have h1 := (evinsAll_perm (es.toList.map (rg (H := Unit) P k (fun _ => some (.nil, []))))).map (fun p => Go.intOf p.1)
    refine h1.trans (List.Perm.of_eq ?_)
    rw [List.map_map]
    have h2 : es.toList.map ((fun p : Lit × DataW Unit => Go.intOf p.1) ∘ rg (H := Unit) P k (fun _ => some (.nil, []))) = (es.toList.map (·.key)).map (fun v => match v with | .int _ s => s | _ => 0) := by
      rw [List.map_map]
      apply List.map_congr_left
      intro x hx
      obtain ⟨s, _, h3, h4⟩ := hrd x hx
      simp [rg_of h4, h3, Go.intOf]
    rw [h2, hkeys, List.map_map]
    have h3 : ((fun v : Value => match v with | .int _ s => s | _ => 0) ∘ Value.int .i64) = id := by funext x; rfl
    rw [h3, List.map_id]
  · show List.length _ = _
    rw [(evinsAll_perm _).length_eq, List.length_map, Array.length_toList, hlen]

theorem evowns_S {P : Program} {k : TypeId} {w : World} {b : Nat} {kvs : List (Value × Value)} {names : List ByteArray} (hk : P.underlying k = some .string) (hb : Hp.on w (.mp b .string kvs)) (hn : kvs.map (·.1) = names.map Value.string)
    (hl : names.length ≤ maxLen) (hs : ∀ s ∈ names, s.size ≤ maxLen) :
    ∃ D : DataW Unit, w.ownsMap P k (fun _ => some (.nil, [])) b names.length D ∧ (strKeys D).Perm (names.map (·.data.toList)) ∧ Maps.size D = names.length := by
  obtain ⟨es, clock, hh, hst, hkv, hkey⟩ := hb
  have hlen : es.size = names.length := by
    have h1 := congrArg List.length hn
    have h2 := congrArg List.length hkv
    simp at h1 h2; omega
  have hkeys : es.toList.map (·.key) = names.map Value.string := by
    rw [← hn, ← hkv, List.map_map]; rfl
  have hrd : ∀ x ∈ es.toList, ∃ s : ByteArray, s ∈ names ∧ x.key = .string s ∧ rd (H := Unit) P k (fun _ => some (.nil, [])) x = some (.string s.data.toList, .nil) := by
    intro x hx
    have h1 : x.key ∈ es.toList.map (·.key) := List.mem_map.2 ⟨x, hx, rfl⟩
    rw [hkeys] at h1
    obtain ⟨s, h2, h3⟩ := List.mem_map.1 h1
    refine ⟨s, h2, h3.symm, ?_⟩
    unfold Go.WideElems.rd
    rw [← h3, Go.WideMaps.keyOf_string_mk hk (hs s h2)]
    rfl
  refine ⟨_, ⟨es, clock, hh, ⟨by omega, hst, fun x hx => ?_⟩, by omega, rfl⟩, ?_, ?_⟩
  · obtain ⟨s, _, _, h⟩ := hrd x hx
    exact ⟨_, h⟩
  · have h1 := (evinsAll_perm (es.toList.map (rg (H := Unit) P k (fun _ => some (.nil, []))))).map (fun p => strOf p.1)
    refine h1.trans (List.Perm.of_eq ?_)
    rw [List.map_map]
    have h2 : es.toList.map ((fun p : Lit × DataW Unit => strOf p.1) ∘ rg (H := Unit) P k (fun _ => some (.nil, []))) = (es.toList.map (·.key)).map (fun v => match v with | .string s => s.data.toList | _ => []) := by
      rw [List.map_map]
      apply List.map_congr_left
      intro x hx
      obtain ⟨s, _, h3, h4⟩ := hrd x hx
      simp [rg_of h4, h3, strOf]
    rw [h2, hkeys, List.map_map]
    rfl
  · show List.length _ = _
    rw [(evinsAll_perm _).length_eq, List.length_map, Array.length_toList, hlen]

/-! sorted, so that the kernel can count -/
def insBy {α : Type} (le : α → α → Bool) (x : α) : List α → List α
  | [] => [x]
  | y :: r => bif le x y then x :: y :: r else y :: insBy le x r
def sortBy {α : Type} (le : α → α → Bool) : List α → List α
  | [] => []
  | x :: r => insBy le x (sortBy le r)

section
variable {α : Type} {le : α → α → Bool}
theorem insBy_perm (x : α) : ∀ l : List α, (insBy le x l).Perm (x :: l)
  | [] => .refl _
  | y :: r => by
    simp only [insBy, cond_eq_ite]
    split
    · exact .refl _
    · exact ((insBy_perm x r).cons y).trans (.swap x y r)
theorem sortBy_perm : ∀ l : List α, (sortBy le l).Perm l
  | [] => .refl _
  | x :: r => (insBy_perm x _).trans ((sortBy_perm r).cons x)
theorem insBy_sorted (tr : ∀ a b c, le a b = true → le b c = true → le a c = true) (tot : ∀ a b, le a b = true ∨ le b a = true) (x : α) : ∀ {l : List α}, l.Pairwise (fun a b => le a b = true) → (insBy le x l).Pairwise (fun a b => le a b = true)
  | [], _ => by simp [insBy]
  | y :: r, h => by
    rw [List.pairwise_cons] at h
    simp only [insBy, cond_eq_ite]
    split
    · rename_i hxy
      rw [List.pairwise_cons, List.pairwise_cons]
      refine ⟨fun z hz => ?_, h⟩
      rcases List.mem_cons.1 hz with rfl | hz
      · exact hxy
      · exact tr _ _ _ hxy (h.1 z hz)
    · rename_i hxy
      rw [List.pairwise_cons]
      refine ⟨fun z hz => ?_, insBy_sorted tr tot x h.2⟩
      rcases List.mem_cons.1 ((insBy_perm x r).mem_iff.1 hz) with rfl | hz
      · exact (tot y z).resolve_right hxy
      · exact h.1 z hz
theorem sortBy_sorted (tr : ∀ a b c, le a b = true → le b c = true → le a c = true) (tot : ∀ a b, le a b = true ∨ le b a = true) : ∀ l : List α, (sortBy le l).Pairwise (fun a b => le a b = true)
  | [] => List.Pairwise.nil
  | x :: r => insBy_sorted tr tot x (sortBy_sorted tr tot r)
theorem sortBy_eq (tr : ∀ a b c, le a b = true → le b c = true → le a c = true) (tot : ∀ a b, le a b = true ∨ le b a = true) (anti : ∀ a b, le a b = true → le b a = true → a = b) {l m : List α} (hp : m.Perm l) : m.mergeSort le = sortBy le l := by
  refine List.Perm.eq_of_pairwise (le := fun a b => le a b = true) (fun a b _ _ => anti a b) (List.pairwise_mergeSort (le := le) tr (fun a b => by have := tot a b; simpa using this) m) (sortBy_sorted tr tot l) ?_
  exact (List.mergeSort_perm _ _).trans (hp.trans (sortBy_perm l).symm)
end

def leZ : Int → Int → Bool
  | .ofNat m, .ofNat n => Nat.ble m n
  | .negSucc m, .negSucc n => Nat.ble n m
  | .negSucc _, .ofNat _ => true
  | .ofNat _, .negSucc _ => false
theorem leZ_iff (m n : Int) : leZ m n = decide (m ≤ n) := by
  cases m <;> cases n <;> simp only [leZ] <;> rw [Bool.eq_iff_iff, decide_eq_true_eq] <;> (try rw [Nat.ble_eq]) <;> (try simp) <;> omega

def leU : List UInt8 → List UInt8 → Bool
  | [], _ => true
  | _ :: _, [] => false
  | x :: r, y :: s => bif Nat.blt x.toNat y.toNat then true else bif Nat.beq x.toNat y.toNat then leU r s else false
theorem leU_iff : ∀ (a b : List UInt8), leU a b = decide (a ≤ b)
  | [], b => by simp [leU]
  | x :: r, [] => by simp [leU]
  | x :: r, y :: s => by
    have h1 : Nat.blt x.toNat y.toNat = decide (x < y) := by
      rw [Bool.eq_iff_iff]
      simp only [decide_eq_true_eq]
      constructor
      · intro h; exact UInt8.lt_iff_toNat_lt.2 (Nat.lt_of_succ_le (Nat.le_of_ble_eq_true h))
      · intro h; exact Nat.ble_eq_true_of_le (UInt8.lt_iff_toNat_lt.1 h)
    have h2 : Nat.beq x.toNat y.toNat = decide (x = y) := by
      rw [Bool.eq_iff_iff]
      simp only [decide_eq_true_eq, Nat.beq_eq]
      exact UInt8.toNat_inj
    simp only [leU, cond_eq_ite, h1, h2, leU_iff r s, decide_eq_true_eq]
    rw [Bool.eq_iff_iff]
    simp only [decide_eq_true_eq, List.cons_le_cons_iff]
    by_cases hlt : x < y
    · simp [hlt]
    · by_cases he : x = y
      · simp [hlt, he]
      · simp [hlt, he]

/-- slices.Sorted of what maps.Keys handed back, the map's keys ints. -/
structure BoxI (P : Program) (f g : FuncId) (K E : TypeId) : Prop where
  key : P.underlying K = some (.int .i64)
  calls : ∀ (bx b nn : Nat) (D0 : DataW Unit) (rdr : Value → Option (DataW Unit × List MemPlace)) (w : World), bx < w.heap.size → w.cell? ⟨bx, 0, none⟩ = some (.map (some b)) → w.ownsMap P K rdr b nn D0 → Maps.size D0 ≤ maxLen → Maps.size D0 * 8 ≤ 140737488355328 →
    CallsIn Fence.wide 5 P f #[.func (.func g) #[] #[.pointer (some ⟨bx, 0, none⟩)]] w fun e w' => ∃ (v : Value) (ss : List Int), e = .returned v ∧ ss.Perm (intKeys D0) ∧
      w'.ownsRow w.heap.size E 1 v ss.length ((ss.mergeSort (fun x y => decide (x ≤ y))).map (Value.int .i64)) ∧ (v = .slice none 0 0 ↔ ss = []) ∧ Below w.heap.size w w'

/-- .. strings. -/
structure BoxS (P : Program) (f g : FuncId) (K E : TypeId) : Prop where
  key : P.underlying K = some .string
  calls : ∀ (bx b nn : Nat) (D0 : DataW Unit) (rdr : Value → Option (DataW Unit × List MemPlace)) (w : World), bx < w.heap.size → w.cell? ⟨bx, 0, none⟩ = some (.map (some b)) → w.ownsMap P K rdr b nn D0 → Maps.size D0 ≤ maxLen → Maps.size D0 * 16 ≤ 140737488355328 →
    CallsIn Fence.wide 5 P f #[.func (.func g) #[] #[.pointer (some ⟨bx, 0, none⟩)]] w fun e w' => ∃ (v : Value) (ss : List (List UInt8)), e = .returned v ∧ ss.Perm (strKeys D0) ∧
      w'.ownsRow w.heap.size E 1 v ss.length ((ss.mergeSort (fun x y => decide (x ≤ y))).map (fun l => Value.string ⟨l.toArray⟩)) ∧ (v = .slice none 0 0 ↔ ss = []) ∧ Below w.heap.size w w'

def keysI : KV → Option (List Int)
  | [] => some []
  | (.int .i64 n, _) :: r => bif Lit.wf (.int .i64 n) then (keysI r).map (n :: ·) else none
  | _ => none
def keysS : KV → Option (List ByteArray)
  | [] => some []
  | (.string s, _) :: r => bif Nat.ble s.size 1000000 then (keysS r).map (s :: ·) else none
  | _ => none

theorem keysI_out : ∀ {kvs : KV} {l : List Int}, keysI kvs = some l → kvs.map (·.1) = l.map (Value.int .i64) ∧ ∀ s ∈ l, (Lit.int .i64 s).wf = true
  | [], l, h => by simp only [keysI, Option.some.injEq] at h; subst h; simp
  | (k, v) :: r, l, h => by
    unfold keysI at h
    split at h
    · rename_i e; cases e
    · rename_i n v' r' e
      cases e
      rw [cond_eq_ite] at h
      split at h
      · rename_i hw
        rw [Option.map_eq_some_iff] at h
        obtain ⟨l', h1, rfl⟩ := h
        obtain ⟨h2, h3⟩ := keysI_out h1
        refine ⟨by simp [h2], fun s hs => ?_⟩
        rcases List.mem_cons.1 hs with rfl | hs
        · exact hw
        · exact h3 s hs
      · cases h
    · cases h

theorem keysS_out : ∀ {kvs : KV} {l : List ByteArray}, keysS kvs = some l → kvs.map (·.1) = l.map Value.string ∧ ∀ s ∈ l, s.size ≤ maxLen
  | [], l, h => by simp only [keysS, Option.some.injEq] at h; subst h; simp
  | (k, v) :: r, l, h => by
    unfold keysS at h
    split at h
    · rename_i e; cases e
    · rename_i n v' r' e
      cases e
      rw [cond_eq_ite] at h
      split at h
      · rename_i hw
        rw [Option.map_eq_some_iff] at h
        obtain ⟨l', h1, rfl⟩ := h
        obtain ⟨h2, h3⟩ := keysS_out h1
        refine ⟨by simp [h2], fun s hs => ?_⟩
        rcases List.mem_cons.1 hs with rfl | hs
        · have := Nat.le_of_ble_eq_true hw; unfold maxLen; omega
        · exact h3 s hs
      · cases h
    · cases h

def tabAt : List (FuncId × FuncId × TypeId) → FuncId → FuncId → Option TypeId
  | [], _, _ => none
  | (f, g, e) :: r, f', g' => bif Nat.beq f f' && Nat.beq g g' then some e else tabAt r f' g'
theorem tabAt_mem {f g e : Nat} : ∀ {l : List (FuncId × FuncId × TypeId)}, tabAt l f g = some e → (f, g, e) ∈ l
  | [], h => by cases h
  | (f', g', e') :: r, h => by
    simp only [tabAt, cond_eq_ite] at h
    split at h
    · rename_i hb
      simp only [Bool.and_eq_true] at hb
      rw [Nat.eq_of_beq_eq_true hb.1, Nat.eq_of_beq_eq_true hb.2]
      cases h
      exact List.mem_cons_self
    · exact List.mem_cons_of_mem _ (tabAt_mem h)

/-- A new row of cells of one word each. -/
def rowOut (e : TypeId) (xs : List AV) (A : AH) : List (AV × AH) := match xs with
  | [] => [(.lit (.slice none 0 0), A)]
  | _ => [(.rs A.n 0 0 xs.length, A.push (.blk e xs (some 1)))]

def primSK (tI tS : List (FuncId × FuncId × TypeId)) : CallF := fun f args A => match args with
  | [.fn (.func g) [] [.ptr bx 0]] => match A.get bx with
    | .blk _ [.mp b] _ => match A.get b with
      | .mp d kvs => bif Nat.blt 1000000 kvs.length then none else match d, tabAt tI f g, tabAt tS f g with
        | .int .i64, some e, _ => (keysI kvs).map fun l => rowOut e ((sortBy leZ l).map fun n => .lit (.int .i64 n)) A
        | .string, _, some e => (keysS kvs).map fun l => rowOut e ((sortBy leU (l.map (·.data.toList))).map fun s => .lit (.string ⟨s.toArray⟩)) A
        | _, _, _ => none
      | _ => none
    | _ => none
  | _ => none

theorem rowOut_sound {w0 w w' : World} {Fr : List Hp} {ρ : List Loc} {A : AH} (hA : Rel w0 Fr ρ A w) {e : TypeId} {v : Value} {xs : List AV} {vs : List Value} (hx : RL [] xs vs) (hrow : w'.ownsRow w.heap.size e 1 v vs.length vs) (hnil : v = .slice none 0 0 ↔ vs = []) (hb : Below w.heap.size w w')
    {Post : Ending → World → Prop} (hP : ∀ v A' ρ' V w', (v, A') ∈ rowOut e xs A → ρ <+: ρ' → Rel w0 Fr ρ' A' w' → R ρ' v V → Post (.returned V) w') : Post (.returned v) w' := by
  obtain ⟨H, h1, hS, h3⟩ := hA.ex
  obtain ⟨ao, cap, rfl, hS'⟩ := hS.newRow hrow hb
  have hl := hx.length
  cases xs with
  | nil =>
    rw [RL_nil] at hx
    subst hx
    have hv := hnil.2 rfl
    rw [hv]
    exact hP (.lit (.slice none 0 0)) A ρ _ w' (List.mem_singleton.2 rfl) (List.prefix_refl _) ⟨hA.len, hA.gl, H, h1, hS'.tail, h3⟩ (by simp)
  | cons x r =>
    have hpos : 0 < vs.length := by rw [hl]; simp
    rcases row_head (hS'.at_ 0 rfl) with ⟨_, h0, _⟩ | ⟨⟨g, rfl⟩, _⟩
    · omega
    · obtain ⟨cur, k1, k2, k3, k4, hS2⟩ := hS'.rowCells 0 rfl
      rw [Nat.mul_one] at k1 k2
      have hsplit : cur = vs ++ cur.drop vs.length := by rw [← k2, List.length_take, k1, Nat.min_eq_left k3, List.take_append_drop]
      refine hP (.rs A.n 0 0 (x :: r).length) _ (ρ ++ [⟨g, cap, undef⟩]) _ w' (List.mem_singleton.2 rfl) (List.prefix_append _ _) (hA.push h1 h3 hS2 ⟨vs, cur.drop vs.length, RL_mono (List.nil_prefix) _ hx, by rw [← hsplit], by rw [← hsplit, Nat.mul_one]; exact k1, k4⟩) ?_
      rw [R_rs]
      exact ⟨_, 0, hA.last _, fun _ => rfl, by rw [← hl]; simp⟩

theorem primSK_sound {P : Program} {w0 : World} {tI tS : List (FuncId × FuncId × TypeId)} (hI : ∀ x ∈ tI, ∃ K, BoxI P x.1 x.2.1 K x.2.2) (hS : ∀ x ∈ tS, ∃ K, BoxS P x.1 x.2.1 K x.2.2) : SF P w0 (primSK tI tS) := by
  intro f args A outs h Fr ρ w vs hA hv Post hP
  unfold primSK at h
  split at h
  · rename_i g bx
    rw [RL_cons] at hv
    obtain ⟨F, t, rfl, hF, ht⟩ := hv
    rw [RL_nil] at ht; subst ht
    rw [R_fn] at hF
    obtain ⟨va, vc, hva, hvc, rfl⟩ := hF
    rw [RL_nil] at hva; subst hva
    rw [RL_cons] at hvc
    obtain ⟨X, t, rfl, hX, ht⟩ := hvc
    rw [RL_nil] at ht; subst ht
    rw [R_ptr] at hX
    obtain ⟨lx, hlx, rfl⟩ := hX
    split at h
    · rename_i tt b sz hgx
      obtain ⟨H, ws, tail, h1, hSt, h3, h4, h5, _⟩ := blk_out hA hlx hgx
      rw [RL_cons] at h5
      obtain ⟨M, t, rfl, hM, ht⟩ := h5
      rw [RL_nil] at ht; subst ht
      rw [R_mp] at hM
      obtain ⟨lb, hlb, rfl⟩ := hM
      have hcell : w.cell? ⟨lx.blk, 0, none⟩ = some (.map (some lb.blk)) := hSt.cell bx h4 0 rfl
      have hblt : lx.blk < w.heap.size := hSt.lt _ (List.mem_flatMap.2 ⟨_, List.mem_of_getElem? h4, by simp [Hp.fp]⟩)
      split at h
      · rename_i d kvs hgb
        have hmap : mapAt A b = some (d, kvs) := by unfold mapAt; rw [hgb]
        obtain ⟨H2, kws, k1, k3, hS2, k4, hk⟩ := mapAt_out hA hlb hmap
        have hon := hS2.at_ b k4
        rw [cond_eq_ite] at h
        split at h
        · cases h
        rename_i hbig
        have hsz : kvs.length ≤ 1000000 := Nat.le_of_not_lt fun hlt => hbig (Nat.ble_eq_true_of_le hlt)
        split at h
        · rename_i e he
          rw [Option.map_eq_some_iff] at h
          obtain ⟨l, hl, rfl⟩ := h
          obtain ⟨q1, q2⟩ := keysI_out hl
          obtain ⟨K, B⟩ := hI _ (tabAt_mem he)
          have hlen : l.length = kvs.length := by have := congrArg List.length q1; simpa using this.symm
          have hsmall : l.length ≤ 1000000 := by omega
          obtain ⟨D, hD, hDp, hDs⟩ := evowns_I (P := P) B.key hon (by rw [hk.1]; exact q1) (by unfold maxLen; omega) q2
          refine (callsIn_wide.1 (B.calls lx.blk lb.blk _ D _ w hblt hcell hD (by rw [hDs]; unfold maxLen; omega) (by rw [hDs]; omega))).mono ?_
          rintro e' w' ⟨v, ss, rfl, hp2, hrow, hnil, hb⟩
          have hms : ss.mergeSort (fun x y => decide (x ≤ y)) = sortBy leZ l := by
            have : (fun x y : Int => decide (x ≤ y)) = leZ := by funext x y; exact (leZ_iff x y).symm
            rw [this]
            exact sortBy_eq (fun a b c h1 h2 => by rw [leZ_iff, decide_eq_true_eq] at *; omega) (fun a b => by rw [leZ_iff, leZ_iff, decide_eq_true_eq, decide_eq_true_eq]; omega) (fun a b h1 h2 => by rw [leZ_iff, decide_eq_true_eq] at *; omega) (hp2.trans hDp)
          have hsl : ss.length = ((sortBy leZ l).map (Value.int .i64)).length := by rw [List.length_map, (sortBy_perm l).length_eq, (hp2.trans hDp).length_eq]
          rw [hms, hsl] at hrow
          refine rowOut_sound hA (xs := (sortBy leZ l).map fun n => .lit (.int .i64 n)) (by have := RL.lits (ρ := []) ((sortBy leZ l).map (Value.int .i64)); rw [List.map_map] at this; exact this) hrow ?_ hb hP
          rw [hnil, List.map_eq_nil_iff]
          constructor
          · intro h0; subst h0; simp at hsl; exact List.eq_nil_of_length_eq_zero (by omega)
          · intro h0; rw [h0] at hsl; exact List.eq_nil_of_length_eq_zero (by simpa using hsl)
        · rename_i e he
          rw [Option.map_eq_some_iff] at h
          obtain ⟨l, hl, rfl⟩ := h
          obtain ⟨q1, q2⟩ := keysS_out hl
          obtain ⟨K, B⟩ := hS _ (tabAt_mem he)
          have hlen : l.length = kvs.length := by have := congrArg List.length q1; simpa using this.symm
          have hsmall : l.length ≤ 1000000 := by omega
          obtain ⟨D, hD, hDp, hDs⟩ := evowns_S (P := P) B.key hon (by rw [hk.1]; exact q1) (by unfold maxLen; omega) q2
          refine (callsIn_wide.1 (B.calls lx.blk lb.blk _ D _ w hblt hcell hD (by rw [hDs]; unfold maxLen; omega) (by rw [hDs]; omega))).mono ?_
          rintro e' w' ⟨v, ss, rfl, hp2, hrow, hnil, hb⟩
          have hperm := hp2.trans hDp
          have hms : ss.mergeSort (fun x y => decide (x ≤ y)) = sortBy leU (l.map (·.data.toList)) := by
            have : (fun x y : List UInt8 => decide (x ≤ y)) = leU := by funext x y; exact (leU_iff x y).symm
            rw [this]
            exact sortBy_eq (fun a b c h1 h2 => by rw [leU_iff, decide_eq_true_eq] at *; exact List.le_trans h1 h2) (fun a b => by rw [leU_iff, leU_iff, decide_eq_true_eq, decide_eq_true_eq]; exact List.le_total a b) (fun a b h1 h2 => by rw [leU_iff, decide_eq_true_eq] at *; exact List.le_antisymm h1 h2) hperm
          have hsl : ss.length = ((sortBy leU (l.map (·.data.toList))).map (fun l => Value.string ⟨l.toArray⟩)).length := by rw [List.length_map, (sortBy_perm _).length_eq, hperm.length_eq]
          rw [hms, hsl] at hrow
          refine rowOut_sound hA (xs := (sortBy leU (l.map (·.data.toList))).map fun s => .lit (.string ⟨s.toArray⟩)) (by have := RL.lits (ρ := []) ((sortBy leU (l.map (·.data.toList))).map (fun l => Value.string ⟨l.toArray⟩)); rw [List.map_map] at this; exact this) hrow ?_ hb hP
          rw [hnil, List.map_eq_nil_iff]
          constructor
          · intro h0; subst h0; simp at hsl; exact List.eq_nil_of_length_eq_zero (by omega)
          · intro h0; rw [h0] at hsl; exact List.eq_nil_of_length_eq_zero (by simpa using hsl)
        · cases h
      · cases h
    · cases h
  · cases h
end Go.Proofs.YtkfalpmimdcneaaGreatDoor
