/-
  The evaluator's maps: reads, writes, ranges; copy; bytes as a string.
-/
import Derived.Lib.ConvBytes
import Derived.Test.YtkfalpmimdcneaaGreatDoorEv5
namespace Go.Proofs.YtkfalpmimdcneaaGreatDoor
set_option linter.unusedVariables false
set_option linter.unusedSimpArgs false

def beqU : List UInt8 → List UInt8 → Bool
  | [], [] => true
  | x :: r, y :: s => bif Nat.beq x.toNat y.toNat then beqU r s else false
  | _, _ => false
theorem beqU_iff : ∀ {a b : List UInt8}, beqU a b = true ↔ a = b
  | [], [] => by simp [beqU]
  | [], _ :: _ => by simp [beqU]
  | _ :: _, [] => by simp [beqU]
  | x :: r, y :: s => by
    simp only [beqU, cond_eq_ite, Nat.beq_eq, List.cons.injEq]
    by_cases h : x.toNat = y.toNat
    · have : x = y := UInt8.toNat_inj.1 h
      simp [this, beqU_iff]
    · have : x ≠ y := fun e => h (by rw [e])
      simp [h, this]

/-- Keys, compared. -/
def keyEq : Value → Value → Bool
  | .int k (.ofNat m), .int k' (.ofNat n) => decide (k = k') && Nat.beq m n
  | .int k (.negSucc m), .int k' (.negSucc n) => decide (k = k') && Nat.beq m n
  | .string a, .string b => beqU a.data.toList b.data.toList
  | .bool a, .bool b => a == b
  | _, _ => false

theorem keyEq_int (k : IntKind) (m n : Int) : keyEq (.int k m) (.int k n) = true ↔ m = n := by
  cases m <;> cases n <;> simp [keyEq] <;> omega

theorem keyEq_iff {d : TypeDesc} {a b : Value} (ha : MapKept.IsKey d a) (hb : MapKept.IsKey d b) : keyEq a b = true ↔ a = b := by
  cases d <;> cases a <;> simp only [MapKept.IsKey] at ha <;> cases b <;> simp only [MapKept.IsKey] at hb
  · rename_i x y; simp [keyEq]
  · subst ha; subst hb
    rw [keyEq_int]; simp
  · rename_i x y
    simp only [keyEq, beqU_iff]
    constructor
    · intro h
      cases x; cases y
      simp only [Value.string.injEq, ByteArray.mk.injEq]
      exact Array.ext' h
    · intro h; cases h; rfl

def isKeyB : TypeDesc → Value → Bool
  | .bool, .bool _ => true
  | .int k, .int k' _ => decide (k' = k)
  | .string, .string _ => true
  | _, _ => false
theorem isKeyB_out {d : TypeDesc} {v : Value} (h : isKeyB d v = true) : MapKept.IsKey d v := by
  unfold isKeyB at h
  split at h <;> first | trivial | (simpa [MapKept.IsKey] using h) | cases h

/-- The same kind of key. -/
def sameKey : TypeDesc → TypeDesc → Bool
  | .bool, .bool => true
  | .int k, .int k' => decide (k = k')
  | .string, .string => true
  | _, _ => false
theorem sameKey_out {d e : TypeDesc} (h : sameKey d e = true) : d = e := by
  unfold sameKey at h
  split at h <;> first | rfl | (simp at h; rw [h]) | cases h

/-- The value at a key and its place. -/
def kfind (key : Value) : KV → Nat → Option (Nat × AV)
  | [], _ => none
  | (k, v) :: r, i => bif keyEq k key then some (i, v) else kfind key r (i + 1)

def keysOk (d : TypeDesc) : KV → Bool
  | [] => true
  | (k, _) :: r => isKeyB d k && keysOk d r

theorem kfind_none {d : TypeDesc} {key : Value} (hk : MapKept.IsKey d key) : ∀ {kvs : KV} {i : Nat}, keysOk d kvs = true → kfind key kvs i = none → ∀ p ∈ kvs, p.1 ≠ key
  | [], _, _, _, p, hp => by cases hp
  | (k, v) :: r, i, ho, h, p, hp => by
    simp only [keysOk, Bool.and_eq_true] at ho
    simp only [kfind, cond_eq_ite] at h
    split at h
    · cases h
    · rename_i hne
      rcases List.mem_cons.1 hp with rfl | hp
      · exact fun e => hne ((keyEq_iff (isKeyB_out ho.1) hk).2 e)
      · exact kfind_none hk ho.2 h p hp

theorem kfind_some {d : TypeDesc} {key : Value} (hk : MapKept.IsKey d key) : ∀ {kvs : KV} {i j : Nat} {v : AV}, keysOk d kvs = true → kfind key kvs i = some (j, v) → ∃ q, j = i + q ∧ kvs[q]? = some (key, v)
  | [], _, _, _, _, h => by simp [kfind] at h
  | (k, u) :: r, i, j, v, ho, h => by
    simp only [keysOk, Bool.and_eq_true] at ho
    simp only [kfind, cond_eq_ite] at h
    split at h
    · rename_i he
      cases h
      have := (keyEq_iff (isKeyB_out ho.1) hk).1 he
      subst this
      exact ⟨0, rfl, rfl⟩
    · obtain ⟨q, h1, h2⟩ := kfind_some hk ho.2 h
      exact ⟨q + 1, by omega, by simpa using h2⟩

section
variable {P : Program} {w0 w : World} {Fr : List Hp} {ρ : List Loc} {A : AH} {a : Act} {ev : Operand → AV} {outs : List (AV × AH)}
  {dst : Option Tmp} {ty : TypeId} {pos : String} {after : Array Edge} {gd : Option (Nat × Bool)}

theorem RK.get {kvs : KV} {ws : List (Value × Value)} (h : RK ρ kvs ws) {i : Nat} {k : Value} {v : AV} (hi : kvs[i]? = some (k, v)) : ∃ V, ws[i]? = some (k, V) ∧ R ρ v V := by
  have h1 : (ws.map (·.1))[i]? = some k := by rw [h.1, List.getElem?_map, hi]; rfl
  obtain ⟨V, h2, h3⟩ := h.2.get (i := i) (x := v) (by rw [List.getElem?_map, hi]; rfl)
  rw [List.getElem?_map, Option.map_eq_some_iff] at h1 h2
  obtain ⟨p, hp, rfl⟩ := h1
  obtain ⟨q, hq, rfl⟩ := h2
  rw [hp] at hq; cases hq
  exact ⟨_, hp, h3⟩

theorem RK.keys {kvs : KV} {ws : List (Value × Value)} (h : RK ρ kvs ws) {key : Value} (hn : ∀ p ∈ kvs, p.1 ≠ key) : ∀ p ∈ ws, p.1 ≠ key := by
  intro p hp e
  have : key ∈ ws.map (·.1) := List.mem_map.2 ⟨p, hp, e⟩
  rw [h.1] at this
  obtain ⟨q, hq, e2⟩ := List.mem_map.1 this
  exact hn q hq e2

theorem RK.snoc {kvs : KV} {ws : List (Value × Value)} (h : RK ρ kvs ws) {k : Value} {v : AV} {V : Value} (hv : R ρ v V) : RK ρ (kvs ++ [(k, v)]) (ws ++ [(k, V)]) := by
  refine ⟨by simp [h.1], ?_⟩
  rw [List.map_append, List.map_append]
  exact RL.append h.2 (by simp [hv])

theorem RL.set {l : List AV} {vs : List Value} (h : RL ρ l vs) (i : Nat) {v : AV} {V : Value} (hv : R ρ v V) : RL ρ (l.set i v) (vs.set i V) := by
  by_cases hi : i < l.length
  · have hl := h.length
    rw [List.set_eq_take_append_cons_drop, if_pos hi, List.set_eq_take_append_cons_drop, if_pos (by omega)]
    exact RL.append (RL.take i h) (by rw [RL_cons]; exact ⟨_, _, rfl, hv, RL.drop _ h⟩)
  · have hl := h.length
    rw [List.set_eq_of_length_le (by omega), List.set_eq_of_length_le (by omega)]
    exact h

theorem RK.set {kvs : KV} {ws : List (Value × Value)} (h : RK ρ kvs ws) (i : Nat) {k : Value} {v : AV} {V : Value} (hv : R ρ v V) : RK ρ (kvs.set i (k, v)) (ws.set i (k, V)) := by
  refine ⟨by rw [List.map_set, List.map_set, h.1], ?_⟩
  rw [List.map_set, List.map_set]
  exact h.2.set i hv

theorem RL.erase {l : List AV} {vs : List Value} (h : RL ρ l vs) (i : Nat) : RL ρ (l.eraseIdx i) (vs.eraseIdx i) := by
  rw [List.eraseIdx_eq_take_drop_succ, List.eraseIdx_eq_take_drop_succ]
  exact RL.append (RL.take _ h) (RL.drop _ h)

theorem RK.erase {kvs : KV} {ws : List (Value × Value)} (h : RK ρ kvs ws) (i : Nat) : RK ρ (kvs.eraseIdx i) (ws.eraseIdx i) := by
  refine ⟨by rw [ChangeMaps.map_eraseIdx, ChangeMaps.map_eraseIdx, h.1], ?_⟩
  rw [ChangeMaps.map_eraseIdx, ChangeMaps.map_eraseIdx]
  exact h.2.erase i

/-- A map, whether it is ranged over or not. -/
def mapAt (A : AH) (b : Nat) : Option (TypeDesc × KV) := match A.get b with
  | .mp d kvs => some (d, kvs)
  | .mpi d kvs _ _ _ => some (d, kvs)
  | _ => none

theorem mapAt_out (hA : Rel w0 Fr ρ A w) {b : Nat} {l : Loc} (hb : ρ[b]? = some l) {d : TypeDesc} {kvs : KV} (hm : mapAt A b = some (d, kvs)) :
    ∃ (H : List Hp) (ws : List (Value × Value)), HL A.n Fr H ∧ (∀ c m h, ρ[c]? = some m → H[c]? = some h → c ≠ b → RO ρ m (A.get c) h) ∧ St w0 w H ∧ H[b]? = some (.mp l.blk d ws) ∧ RK ρ kvs ws := by
  obtain ⟨H, x, h1, hS, h3, h4, h5⟩ := hA.out hb
  unfold mapAt at hm
  split at hm
  · rename_i d' kvs' hg
    cases hm
    rw [hg] at h5
    obtain ⟨ws, hk, rfl⟩ := h5
    exact ⟨H, ws, h1, fun c m h hc hh _ => h3 c m h hc hh, hS, h4, hk⟩
  · rename_i d' kvs' r left cur hg
    cases hm
    rw [hg] at h5
    obtain ⟨lr, ws, wl, wc, _, hk, _, _, rfl⟩ := h5
    have hlt : b < H.length := (List.getElem?_eq_some_iff.1 h4).1
    refine ⟨H.set b (.mp l.blk d ws), ws, h1.set (hA.lt hb) _, fun c m h hc hh hne => ?_, hS.unrange b h4, List.getElem?_set_self hlt, hk⟩
    rw [List.getElem?_set_ne (Ne.symm hne)] at hh
    exact h3 c m h hc hh
  · cases hm

theorem Rel.putM (hA : Rel w0 Fr ρ A w) {H : List Hp} {b : Nat} (h1 : HL A.n Fr H) (h3 : ∀ c m h, ρ[c]? = some m → H[c]? = some h → c ≠ b → RO ρ m (A.get c) h) {l : Loc} (hb : ρ[b]? = some l) {w' : World} {x : Hp} {o : AO} (hS : St w0 w' (H.set b x)) (ho : RO ρ l o x) : Rel w0 Fr ρ (A.set b o) w' := by
  refine ⟨hA.len, hA.gl, H.set b x, h1.set (hA.lt hb) x, hS, fun c m y hc hy => ?_⟩
  rw [AH.get_set]
  by_cases e : c = b
  · subst e
    rw [if_pos rfl]
    rw [hb] at hc; cases hc
    have hlt : c < H.length := Nat.lt_of_lt_of_le (hA.lt hb) h1.le
    rw [List.getElem?_set_self hlt] at hy; cases hy
    exact ho
  · rw [if_neg e]
    rw [List.getElem?_set_ne (Ne.symm e)] at hy
    exact h3 c m y hc hy e

/-- The kind of a map's keys, and the value that is none. -/
def aLookup (P : Program) (t : TypeId) (m i : AV) (ok : Bool) (A : AH) : Option (List (AV × AH)) := match m, pureV i, P.underlying t with
  | .mp b, some key, some (.map k e) => match P.underlying k, mapAt A b, (P.info? e).bind (·.zero) with
    | some d, some (d', kvs), some z => bif sameKey d d' && (isKeyB d key && keysOk d kvs) then
        (let v := match kfind key kvs 0 with | some (_, v) => (v, true) | none => (AV.lit z, false)
        some [(bif ok then .tup [v.1, .lit (.bool v.2)] else v.1, A)]) else none
    | _, _, _ => none
  | _, _, _ => none

theorem good_lookup {t : TypeId} {m i : Operand} {ok : Bool} (h : aLookup P t (ev m) (ev i) ok A = some outs) (hA : Rel w0 Fr ρ A w) (hm : R ρ (ev m) (a.eval m)) (hi : R ρ (ev i) (a.eval i)) : Good P w0 Fr ⟨dst, .lookup t m i ok, ty, pos, after, gd⟩ a w ρ outs := by
  unfold aLookup at h
  split at h
  · rename_i b key k e hmv hkv ht
    rw [hmv, R_mp] at hm
    obtain ⟨l, hb, hV⟩ := hm
    have hiv := pureV_R _ hkv hi
    split at h
    · rename_i d d' kvs z hd hmap hz
      rw [cond_eq_ite] at h
      split at h
      · rename_i hc
        simp only [Bool.and_eq_true] at hc
        obtain ⟨c1, c2, c3⟩ := hc
        obtain rfl := sameKey_out c1
        have hkey := isKeyB_out c2
        obtain ⟨H, ws, h1, h3, hS, h4, hk⟩ := mapAt_out hA hb hmap
        cases h
        intro K Q hK
        cases hf : kfind key kvs 0 with
        | none =>
          rw [hf] at hK
          refine opA_lookup hS b hV h4 hiv ht hd hkey none hz (hk.keys (kfind_none hkey c3 hf)) ?_
          refine hK _ _ ρ _ w (List.mem_singleton.2 rfl) (List.prefix_refl _) hA ?_
          cases ok
          · simp
          · simp only [cond_true, if_true, R_tup]; exact ⟨[z, .bool false], by simp, rfl⟩
        | some q =>
          obtain ⟨j, v⟩ := q
          rw [hf] at hK
          obtain ⟨j', rfl, hj⟩ := kfind_some hkey c3 hf
          obtain ⟨V, hV1, hR⟩ := hk.get hj
          refine opA_lookup hS b hV h4 hiv ht hd hkey (some V) hz ⟨j', hV1⟩ ?_
          refine hK _ _ ρ _ w (List.mem_singleton.2 rfl) (List.prefix_refl _) hA ?_
          cases ok
          · exact hR
          · simp only [cond_true, if_true, R_tup]; exact ⟨[V, .bool true], by simp [hR], rfl⟩
      · cases h
    · cases h
  · cases h

def aUpdate (P : Program) (t : TypeId) (m i x : AV) (A : AH) : Option (List (AV × AH)) := match m, pureV i, P.underlying t with
  | .mp b, some key, some (.map k _) => match P.underlying k, mapAt A b with
    | some d, some (d', kvs) => bif sameKey d d' && (isKeyB d key && keysOk d kvs) then
        some [(.lit undef, A.set b (.mp d (match kfind key kvs 0 with | some (j, _) => kvs.set j (key, x) | none => kvs ++ [(key, x)])))] else none
    | _, _ => none
  | _, _, _ => none

theorem good_update {t : TypeId} {m i x : Operand} (h : aUpdate P t (ev m) (ev i) (ev x) A = some outs) (hA : Rel w0 Fr ρ A w) (hm : R ρ (ev m) (a.eval m)) (hi : R ρ (ev i) (a.eval i)) (hx : R ρ (ev x) (a.eval x)) : Good P w0 Fr ⟨dst, .mapUpdate t m i x, ty, pos, after, gd⟩ a w ρ outs := by
  unfold aUpdate at h
  split at h
  · rename_i b key k e hmv hkv ht
    rw [hmv, R_mp] at hm
    obtain ⟨l, hb, hV⟩ := hm
    have hiv := pureV_R _ hkv hi
    split at h
    · rename_i d d' kvs hd hmap
      rw [cond_eq_ite] at h
      split at h
      · rename_i hc
        simp only [Bool.and_eq_true] at hc
        obtain ⟨c1, c2, c3⟩ := hc
        obtain rfl := sameKey_out c1
        have hkey := isKeyB_out c2
        obtain ⟨H, ws, h1, h3, hS, h4, hk⟩ := mapAt_out hA hb hmap
        cases h
        intro K Q hK
        cases hf : kfind key kvs 0 with
        | none =>
          rw [hf] at hK
          refine opA_update_new hS b hV h4 hiv rfl ht hd hkey (hk.keys (kfind_none hkey c3 hf)) (fun w' hS' => ?_)
          exact hK _ _ ρ _ w' (List.mem_singleton.2 rfl) (List.prefix_refl _) (hA.putM h1 h3 hb hS' ⟨_, hk.snoc hx, rfl⟩) (by simp)
        | some q =>
          obtain ⟨j, v⟩ := q
          rw [hf] at hK
          obtain ⟨j', rfl, hj⟩ := kfind_some hkey c3 hf
          obtain ⟨V, hV1, hR⟩ := hk.get hj
          refine opA_update_old hS b hV h4 hiv rfl ht hd hkey hV1 (fun w' hS' => ?_)
          exact hK _ _ ρ _ w' (List.mem_singleton.2 rfl) (List.prefix_refl _) (hA.putM h1 h3 hb hS' ⟨_, by rw [Nat.zero_add]; exact hk.set j' hx, rfl⟩) (by simp)
      · cases h
    · cases h
  · cases h

def aDelete (P : Program) (t k' : TypeId) (m i : AV) (A : AH) : Option (List (AV × AH)) := match m, pureV i, P.underlying t with
  | .mp b, some key, some (.map k _) => match P.underlying k, mapAt A b with
    | some d, some (d', kvs) => bif Nat.beq k k' && (sameKey d d' && (isKeyB d key && keysOk d kvs)) then
        some [(.tup [], A.set b (.mp d (match kfind key kvs 0 with | some (j, _) => kvs.eraseIdx j | none => kvs)))] else none
    | _, _ => none
  | _, _, _ => none

theorem good_delete {t k' : TypeId} {m i : Operand} (h : aDelete P t k' (ev m) (ev i) A = some outs) (hA : Rel w0 Fr ρ A w) (hm : R ρ (ev m) (a.eval m)) (hi : R ρ (ev i) (a.eval i)) : Good P w0 Fr ⟨dst, .call { callee := .builtin .delete, args := #[m, i], argTypes := #[t, k'] }, ty, pos, after, gd⟩ a w ρ outs := by
  unfold aDelete at h
  split at h
  · rename_i b key k e hmv hkv ht
    rw [hmv, R_mp] at hm
    obtain ⟨l, hb, hV⟩ := hm
    have hiv := pureV_R _ hkv hi
    split at h
    · rename_i d d' kvs hd hmap
      rw [cond_eq_ite] at h
      split at h
      · rename_i hc
        simp only [Bool.and_eq_true] at hc
        obtain ⟨c0, c1, c2, c3⟩ := hc
        obtain rfl := Nat.eq_of_beq_eq_true c0
        obtain rfl := sameKey_out c1
        have hkey := isKeyB_out c2
        obtain ⟨H, ws, h1, h3, hS, h4, hk⟩ := mapAt_out hA hb hmap
        cases h
        intro K Q hK
        cases hf : kfind key kvs 0 with
        | none =>
          rw [hf] at hK
          refine opA_delete hS b hV h4 hiv ht hd hkey (.inl ⟨hk.keys (kfind_none hkey c3 hf), rfl⟩) (fun w' hS' => ?_)
          exact hK _ _ ρ _ w' (List.mem_singleton.2 rfl) (List.prefix_refl _) (hA.putM h1 h3 hb hS' ⟨_, hk, rfl⟩) (by rw [R_tup]; exact ⟨[], by simp, rfl⟩)
        | some q =>
          obtain ⟨j, v⟩ := q
          rw [hf] at hK
          obtain ⟨j', rfl, hj⟩ := kfind_some hkey c3 hf
          obtain ⟨V, hV1, hR⟩ := hk.get hj
          refine opA_delete hS b hV h4 hiv ht hd hkey (.inr ⟨j', V, hV1, rfl⟩) (fun w' hS' => ?_)
          exact hK _ _ ρ _ w' (List.mem_singleton.2 rfl) (List.prefix_refl _) (hA.putM h1 h3 hb hS' ⟨_, by rw [Nat.zero_add]; exact hk.erase j', rfl⟩) (by rw [R_tup]; exact ⟨[], by simp, rfl⟩)
      · cases h
    · cases h
  · cases h

/-! ranges -/
def aRange (P : Program) (t : TypeId) (x : AV) (A : AH) : Option (List (AV × AH)) := match x, P.underlying t with
  | .mp b, some (.map _ _) => match A.get b with
    | .mp d kvs => bif Nat.blt b A.n then some [(.ptr A.n 0, (A.push (.itr b)).set b (.mpi d kvs A.n kvs none))] else none
    | _ => none
  | _, _ => none

theorem pushNil (hA : Rel w0 Fr ρ A w) {H : List Hp} (h1 : HL A.n Fr H) (hS : St w0 w H) (h3 : ∀ b l h, ρ[b]? = some l → H[b]? = some h → RO ρ l (A.get b) h) (l : Loc) (b : Nat) :
    Rel w0 Fr (ρ ++ [l]) (A.push (.itr b)) w ∧ ∀ c m y, (ρ ++ [l])[c]? = some m → (ins A.n (Hp.row 0 0 none 0 0 []) H)[c]? = some y → RO (ρ ++ [l]) m ((A.push (.itr b)).get c) y := by
  have key : ∀ c m y, (ρ ++ [l])[c]? = some m → (ins A.n (Hp.row 0 0 none 0 0 []) H)[c]? = some y → RO (ρ ++ [l]) m ((A.push (.itr b)).get c) y := fun c m y hc hy => by
    rw [AH.get_push]
    by_cases e : c = A.n
    · rw [if_pos e]; trivial
    · rw [if_neg e]
      have hlt : c < A.n := by have := (List.getElem?_eq_some_iff.1 hc).1; simp [hA.len] at this; omega
      rw [List.getElem?_append_left (by rw [hA.len]; exact hlt)] at hc
      rw [ins_lt h1.le hlt] at hy
      exact (h3 c m y hc hy).mono (List.prefix_append _ _)
  exact ⟨hA.push h1 h3 (hS.nilRow 0 0) trivial, key⟩

theorem good_range {t : TypeId} {x : Operand} (h : aRange P t (ev x) A = some outs) (hA : Rel w0 Fr ρ A w) (hx : R ρ (ev x) (a.eval x)) : Good P w0 Fr ⟨dst, .range t x, ty, pos, after, gd⟩ a w ρ outs := by
  unfold aRange at h
  split at h
  · rename_i b k e hxv ht
    rw [hxv, R_mp] at hx
    obtain ⟨l, hb, hV⟩ := hx
    split at h
    · rename_i d kvs hg
      rw [cond_eq_ite] at h
      split at h
      · rename_i hlt
        have hlt' := blt_lt hlt
        cases h
        obtain ⟨H, hp, h1, hS, h3, h4, h5⟩ := hA.out hb
        rw [hg] at h5
        obtain ⟨ws, hk, rfl⟩ := h5
        have hS2 : St w0 w (ins A.n (Hp.row 0 0 none 0 0 []) H) := (hS.nilRow 0 0).perm (ins_perm _ _ _)
        have h4' : (ins A.n (Hp.row 0 0 none 0 0 []) H)[b]? = some (.mp l.blk d ws) := by rw [ins_lt h1.le hlt']; exact h4
        intro K Q hK
        refine opA_range hS2 b hV h4' ht (fun r w' hS' => ?_)
        obtain ⟨hA2, key⟩ := pushNil hA h1 hS h3 ⟨r, 0, undef⟩ b
        have hm := hk.mono (List.prefix_append ρ [⟨r, 0, undef⟩])
        refine hK _ _ (ρ ++ [⟨r, 0, undef⟩]) _ w' (List.mem_singleton.2 rfl) (List.prefix_append _ _) (hA2.put (h1.ins _) key (get_pre (List.prefix_append _ _) hb) (o := .mpi d kvs A.n kvs none) hS' ⟨⟨r, 0, undef⟩, ws, ws, none, hA.last _, hm, hm, rfl, rfl⟩) ?_
        rw [R_ptr]
        exact ⟨_, hA.last _, rfl⟩
      · cases h
    · cases h
  · cases h

def nexts (A : AH) (b r : Nat) (d : TypeDesc) (kvs : KV) (left : KV) : Nat → KV → List (AV × AH)
  | _, [] => []
  | j, p :: rest => (.tup [.lit (.bool true), .lit p.1, p.2], A.set b (.mpi d kvs r (left.eraseIdx j) (some p))) :: nexts A b r d kvs left (j + 1) rest

theorem nexts_mem {b r : Nat} {d : TypeDesc} {kvs left : KV} : ∀ {l : KV} {i j : Nat} {p : Value × AV}, l[j]? = some p → (AV.tup [.lit (.bool true), .lit p.1, p.2], A.set b (.mpi d kvs r (left.eraseIdx (i + j)) (some p))) ∈ nexts A b r d kvs left i l
  | [], _, _, _, h => by simp at h
  | q :: rest, i, 0, p, h => by simp at h; subst h; rw [nexts]; exact List.mem_cons_self
  | q :: rest, i, j + 1, p, h => by
    rw [nexts]
    refine List.mem_cons_of_mem _ ?_
    have := nexts_mem (b := b) (r := r) (d := d) (kvs := kvs) (left := left) (l := rest) (i := i + 1) (j := j) (p := p) (by simpa using h)
    rw [show i + (j + 1) = i + 1 + j by omega]
    exact this

def aNext (x : AV) (A : AH) : Option (List (AV × AH)) := match x with
  | .ptr r 0 => match A.get r with
    | .itr b => match A.get b with
      | .mpi d kvs r' left _ => bif Nat.beq r r' && Nat.blt b A.n then (match left with
          | [] => some [(.tup [.lit (.bool false)], A.set b (.mp d kvs))]
          | _ => some (nexts A b r d kvs left 0 left)) else none
      | _ => none
    | _ => none
  | _ => none

theorem RK.get_inv {kvs : KV} {ws : List (Value × Value)} (h : RK ρ kvs ws) {i : Nat} {p : Value × Value} (hi : ws[i]? = some p) : ∃ v, kvs[i]? = some (p.1, v) ∧ R ρ v p.2 := by
  have hlt : i < kvs.length := by have := (List.getElem?_eq_some_iff.1 hi).1; rw [h.length] at this; exact this
  have hk := List.getElem?_eq_getElem hlt
  obtain ⟨V, h1, h2⟩ := h.get (i := i) (k := kvs[i].1) (v := kvs[i].2) hk
  rw [hi] at h1
  cases h1
  exact ⟨_, hk, h2⟩

theorem good_next {x : Operand} (h : aNext (ev x) A = some outs) (hA : Rel w0 Fr ρ A w) (hx : R ρ (ev x) (a.eval x)) : Good P w0 Fr ⟨dst, .next x false, ty, pos, after, gd⟩ a w ρ outs := by
  unfold aNext at h
  split at h
  · rename_i r hxv
    rw [hxv, R_ptr] at hx
    obtain ⟨lr, hr, hV⟩ := hx
    split at h
    · rename_i b hgr
      split at h
      · rename_i d kvs r' left cur hg
        rw [cond_eq_ite] at h
        split at h
        · rename_i hc
          simp only [Bool.and_eq_true] at hc
          obtain rfl := Nat.eq_of_beq_eq_true hc.1
          have hlt := blt_lt hc.2
          have hb : ρ[b]? = some ρ[b]! := by rw [getElem!_pos ρ b (by rw [hA.len]; exact hlt)]; exact List.getElem?_eq_getElem _
          generalize ρ[b]! = l at hb
          obtain ⟨H, hp, h1, hS, h3, h4, h5⟩ := hA.out hb
          rw [hg] at h5
          obtain ⟨lr', ws, wl, wc, q1, q2, q3, q4, rfl⟩ := h5
          rw [hr] at q1; cases q1
          intro K Q hK
          refine opA_next hS b hV h4 (fun hl => ?_) (fun j p w' hj hS' => ?_)
          · have hn : left = [] := List.eq_nil_of_length_eq_zero (by rw [← q3.length, hl]; rfl)
            subst hn
            cases h
            have hS' := hS.unrange b h4
            exact hK _ _ ρ _ w (List.mem_singleton.2 rfl) (List.prefix_refl _) (hA.put h1 h3 hb hS' ⟨ws, q2, rfl⟩) (by rw [R_tup]; exact ⟨[.bool false], by simp, rfl⟩)
          · obtain ⟨v, hv, hR⟩ := q3.get_inv hj
            have hne : left ≠ [] := fun e => by rw [e] at hv; simp at hv
            have ho : outs = nexts A b r d kvs left 0 left := by
              split at h
              · exact absurd rfl hne
              · cases h; rfl
            have hmem := nexts_mem (A := A) (b := b) (r := r) (d := d) (kvs := kvs) (left := left) (i := 0) hv
            rw [Nat.zero_add, ← ho] at hmem
            exact hK _ _ ρ _ w' hmem (List.prefix_refl _) (hA.put h1 h3 hb hS' ⟨lr, ws, _, _, hr, q2, q3.erase j, ⟨p.2, hR, rfl⟩, rfl⟩) (by rw [R_tup]; exact ⟨[.bool true, p.1, p.2], .cons (by simp) (.cons (by simp) (.cons hR .none)), rfl⟩)
        · cases h
      · cases h
    · cases h
  · cases h

def aEntry (x : AV) (A : AH) : Option (List (AV × AH)) := match x with
  | .ptr r 0 => match A.get r with
    | .itr b => match A.get b with
      | .mpi _ _ r' _ (some p) => bif Nat.beq r r' && Nat.blt b A.n then some [(.tup [.lit p.1, p.2], A)] else none
      | _ => none
    | _ => none
  | _ => none

theorem good_entry {x : Operand} (h : aEntry (ev x) A = some outs) (hA : Rel w0 Fr ρ A w) (hx : R ρ (ev x) (a.eval x)) : Good P w0 Fr ⟨dst, .entry x, ty, pos, after, gd⟩ a w ρ outs := by
  unfold aEntry at h
  split at h
  · rename_i r hxv
    rw [hxv, R_ptr] at hx
    obtain ⟨lr, hr, hV⟩ := hx
    split at h
    · rename_i b hgr
      split at h
      · rename_i d kvs r' left p hg
        rw [cond_eq_ite] at h
        split at h
        · rename_i hc
          simp only [Bool.and_eq_true] at hc
          obtain rfl := Nat.eq_of_beq_eq_true hc.1
          have hlt := blt_lt hc.2
          have hb : ρ[b]? = some ρ[b]! := by rw [getElem!_pos ρ b (by rw [hA.len]; exact hlt)]; exact List.getElem?_eq_getElem _
          generalize ρ[b]! = l at hb
          obtain ⟨H, hp, h1, hS, h3, h4, h5⟩ := hA.out hb
          rw [hg] at h5
          obtain ⟨lr', ws, wl, wc, q1, q2, q3, ⟨v, hv, rfl⟩, rfl⟩ := h5
          rw [hr] at q1; cases q1
          cases h
          intro K Q hK
          refine opA_entry hS b hV h4 ?_
          exact hK _ _ ρ _ w (List.mem_singleton.2 rfl) (List.prefix_refl _) hA (by rw [R_tup]; exact ⟨[p.1, v], .cons (by simp) (.cons hv .none), rfl⟩)
        · cases h
      · cases h
    · cases h
  · cases h

/-! copy, and bytes as a string -/
def aCopy (P : Program) (t u : TypeId) (d x : AV) (A : AH) : Option (List (AV × AH)) := match P.underlying t with
  | some (.slice e) => match sizeP P e, d with
    | some 1, .sl b o n _ => match aSrc 1 x A, A.get b with
      | some (m, news), .blk tt xs sz => bif Nat.ble (o + Nat.min m n) xs.length then some [(.lit (.int .i64 (Nat.min m n)), A.set b (.blk tt (xs.take o ++ news.take (Nat.min m n) ++ xs.drop (o + Nat.min m n)) sz))] else none
      | _, _ => none
    | _, _ => none
  | _ => none

def bytesA : List AV → Option (List Int)
  | [] => some []
  | .lit (.int .u8 n) :: r => (bytesA r).map (n :: ·)
  | _ => none

theorem bytesA_out : ∀ {l : List AV} {ns : List Int} {vs : List Value}, bytesA l = some ns → RL ρ l vs → vs = ns.map (Value.int .u8)
  | [], _, _, h, hl => by simp only [bytesA, Option.some.injEq] at h; subst h; rw [RL_nil] at hl; simpa using hl
  | x :: r, _, _, h, hl => by
    rw [RL_cons] at hl; obtain ⟨v, t, rfl, h1, h2⟩ := hl
    unfold bytesA at h
    split at h
    · rename_i he; cases he
    · rename_i n r' he
      cases he
      rw [Option.map_eq_some_iff] at h
      obtain ⟨ms, h3, rfl⟩ := h
      rw [R_lit] at h1
      rw [h1, bytesA_out h3 h2]; rfl
    · cases h

/-- The bytes of a string, out of numbers. -/
def strOfB (ns : List Int) : ByteArray := ⟨(ns.map fun n => UInt8.ofNat n.toNat).toArray⟩

theorem strOfB_eq (ns : List Int) : ns.foldl (fun r n => r.push (UInt8.ofNat n.toNat)) ByteArray.empty = strOfB ns := by
  have key : ∀ (ns : List Int) (r : ByteArray), ns.foldl (fun r n => r.push (UInt8.ofNat n.toNat)) r = ⟨(r.data.toList ++ ns.map fun n => UInt8.ofNat n.toNat).toArray⟩ := by
    intro ns
    induction ns with
    | nil => intro r; cases r; simp
    | cons n ns ih =>
      intro r
      rw [List.foldl_cons, ih]
      cases r
      simp [ByteArray.push]
  rw [key]
  simp [strOfB, ByteArray.empty, ByteArray.emptyWithCapacity]
  rfl

def aToString (P : Program) (src dst : TypeId) (x : AV) (A : AH) : Option (List (AV × AH)) := match P.underlying src, P.underlying dst with
  | some (.slice e), some .string => match P.underlying e, aSrc 1 x A, x with
    | some (.int .u8), some (_, l), .sl .. => (bytesA l).map fun ns => [(.lit (.string (strOfB ns)), A)]
    | some (.int .u8), some (_, l), .rs .. => (bytesA l).map fun ns => [(.lit (.string (strOfB ns)), A)]
    | some (.int .u8), some (_, l), .ez .. => (bytesA l).map fun ns => [(.lit (.string (strOfB ns)), A)]
    | _, _, _ => none
  | _, _ => none

theorem good_toString {t u : TypeId} {x : Operand} (h : aToString P t u (ev x) A = some outs) (hA : Rel w0 Fr ρ A w) (hx : R ρ (ev x) (a.eval x)) : Good P w0 Fr ⟨dst, .convert t u x, ty, pos, after, gd⟩ a w ρ outs := by
  unfold aToString at h
  split at h
  · rename_i e ht hu
    have key : ∀ m l (ao : Addr) cc, P.underlying e = some (.int .u8) → aSrc 1 (ev x) A = some (m, l) → a.eval x = .slice (some ao) m cc → (bytesA l).map (fun ns => [(AV.lit (.string (strOfB ns)), A)]) = some outs → Good P w0 Fr ⟨dst, .convert t u x, ty, pos, after, gd⟩ a w ρ outs := by
      intro m l ao cc he hs hV h
      rw [Option.map_eq_some_iff] at h
      obtain ⟨ns, hn, rfl⟩ := h
      obtain ⟨vs, hvs, hSrc⟩ := aSrc_src (P := P) hs hA hx
      have hv := bytesA_out hn hvs
      subst hv
      refine good_value _ ?_ hA (by rw [R_lit])
      have hl := hSrc.cells w rfl
      rw [hV] at hl
      simp only [Builtin.firstCells, Nat.mul_one] at hl
      have hr := run_bytesToString (P := P) w ao m cc ns hl
      rw [strOfB_eq] at hr
      simp only [execOp, convert, hV, Sem.run_bind, run_underlying ht, run_underlying hu, run_underlying he, Result.andThen_ok, hr, Sem.run_pure]
    split at h
    · rename_i m l b o n c he hs hxv
      have hx' := hx
      rw [hxv, R_sl] at hx'; obtain ⟨lc, hb, hV⟩ := hx'
      have hm : m = n := by
        rw [hxv] at hs
        unfold aSrc at hs
        simp only [cond_eq_ite] at hs
        split at hs
        · split at hs
          · cases hs; rfl
          · cases hs
        · cases hs
      subst hm
      exact key m l _ _ he hs hV h
    · rename_i m l b oe o n he hs hxv
      have hx' := hx
      rw [hxv, R_rs] at hx'; obtain ⟨lc, o', hb, _, hV⟩ := hx'
      have hm : m = n := by
        rw [hxv] at hs
        unfold aSrc at hs
        simp only [cond_eq_ite] at hs
        split at hs
        · split at hs
          · cases hs; rfl
          · cases hs
        · cases hs
      subst hm
      exact key m l _ _ he hs hV h
    · rename_i m l b he hs hxv
      have hx' := hx
      rw [hxv, R_ez] at hx'; obtain ⟨lc, o', hb, hV⟩ := hx'
      have hm : m = 0 := by
        rw [hxv] at hs
        simp only [aSrc] at hs
        cases hs; rfl
      subst hm
      exact key 0 l _ _ he hs hV h
    · cases h
  · cases h

/-! bytes of a string -/
def aFromString (P : Program) (src dst : TypeId) (x : AV) (A : AH) : Option (List (AV × AH)) := match x, P.underlying src, P.underlying dst with
  | .lit (.string s), some .string, some (.slice e) => match P.underlying e with
    | some (.int .u8) => bif Nat.ble s.size 1000000 then some [(.rs A.n 0 0 s.size, A.push (.rob e (s.data.toList.map fun b => .lit (.int .u8 b.toNat))))] else none
    | _ => none
  | _, _, _ => none

theorem bytesWorld_eq (w : World) (e : TypeId) (s : ByteArray) : Lib.bytesWorld w e s = w.drew.alloc (.cells (Lib.bytesCells w e s) e ((Lib.bytesCells w e s).size, (Lib.bytesCells w e s).size + 1)) := by
  have hh : (Lib.bytesWorld w e s).heap = (w.drew.alloc (.cells (Lib.bytesCells w e s) e ((Lib.bytesCells w e s).size, (Lib.bytesCells w e s).size + 1))).heap := by
    have ha : ∀ o, (w.drew.alloc o).heap = w.heap.push o := fun _ => rfl
    apply Array.ext_getElem?
    intro i
    rw [ha]
    rcases Nat.lt_trichotomy i w.heap.size with h | h | h
    · rw [Lib.bytesWorld_at_old w e s i h]
      have h1 : i ≠ w.heap.size := by omega
      rw [Array.getElem?_push, if_neg h1]
    · subst h
      rw [Lib.bytesWorld_at_new, Array.getElem?_push, if_pos rfl]
    · rw [Array.getElem?_eq_none (by rw [Lib.bytesWorld_size]; omega), Array.getElem?_eq_none (by rw [Array.size_push]; omega)]
  show ({ w.drew with heap := (Lib.bytesWorld w e s).heap } : World) = _
  rw [hh]
  rfl

theorem good_fromString {t u : TypeId} {x : Operand} (h : aFromString P t u (ev x) A = some outs) (hA : Rel w0 Fr ρ A w) (hx : R ρ (ev x) (a.eval x)) : Good P w0 Fr ⟨dst, .convert t u x, ty, pos, after, gd⟩ a w ρ outs := by
  unfold aFromString at h
  split at h
  · rename_i s e hxv ht hu
    split at h
    · rename_i he
      rw [cond_eq_ite] at h
      split at h
      · rename_i hle
        have hle' := Nat.le_of_ble_eq_true hle
        cases h
        rw [hxv, R_lit] at hx
        obtain ⟨H, h1, hS, h3⟩ := hA.ex
        have hr := Lib.run_convert_string_bytes (P := P) w t u e s ht hu he
        rw [bytesWorld_eq] at hr
        have hge := grownCap_ge w s.size 0 e
        have hcm : grownCap w s.size 0 e ≤ maxLen := grownCap_le_maxLen w s.size 0 e (by unfold maxLen; omega)
        have hlen : s.data.toList.length = s.size := by rw [Array.length_toList]; rfl
        have hS' := hS.drew.allocObj (.cells (Lib.bytesCells w e s) e ((Lib.bytesCells w e s).size, (Lib.bytesCells w e s).size + 1))
        have hsz : w.drew.heap.size = w.heap.size := by simp
        rw [hsz] at hS'
        have hcells : Lib.bytesCells w e s = ((s.data.toList.map fun (b : UInt8) => Value.int .u8 b.toNat) ++ List.replicate (grownCap w s.size 0 e - s.size) (Value.int .u8 0)).toArray := by
          apply Array.ext'
          simp [Lib.bytesCells]
        intro K Q hK
        unfold Oper.wp
        simp only [execOp, hx, Sem.run_bind, hr, Result.andThen_ok, Sem.run_pure]
        refine hK _ _ (ρ ++ [⟨w.heap.size, grownCap w s.size 0 e, undef⟩]) _ _ (List.mem_singleton.2 rfl) (List.prefix_append _ _) (hA.push h1 h3 hS' ⟨s.data.toList.map fun (b : UInt8) => Value.int .u8 b.toNat, List.replicate (grownCap w s.size 0 e - s.size) (Value.int .u8 0), ((Lib.bytesCells w e s).size, (Lib.bytesCells w e s).size + 1), ?_, by rw [hcells], ?_, hcm⟩) ?_
        · have := RL.lits (ρ := ρ ++ [⟨w.heap.size, grownCap w s.size 0 e, undef⟩]) (s.data.toList.map fun (b : UInt8) => Value.int .u8 b.toNat)
          rw [List.map_map] at this
          exact this
        · simp only [List.length_append, List.length_map, List.length_replicate, hlen]; omega
        · rw [R_rs]
          exact ⟨_, 0, hA.last _, fun _ => rfl, rfl⟩
      · cases h
    · cases h
  · cases h

def aConv (P : Program) (src dst : TypeId) (x : AV) (A : AH) : Option (List (AV × AH)) := match aToString P src dst x A with
  | some o => some o
  | none => aFromString P src dst x A

theorem aConv_or {t u : TypeId} {x : AV} {q : List (AV × AH)} (h : aConv P t u x A = some q) : aToString P t u x A = some q ∨ ((∃ e, P.underlying u = some (.slice e)) ∧ aFromString P t u x A = some q) := by
  unfold aConv at h
  split at h
  · rename_i o e; cases h; exact .inl e
  · refine .inr ⟨?_, h⟩
    unfold aFromString at h
    split at h
    · exact ⟨_, by assumption⟩
    · cases h

theorem good_conv {t u : TypeId} {x : Operand} (h : aConv P t u (ev x) A = some outs) (hA : Rel w0 Fr ρ A w) (hx : R ρ (ev x) (a.eval x)) : Good P w0 Fr ⟨dst, .convert t u x, ty, pos, after, gd⟩ a w ρ outs := by
  rcases aConv_or h with h | ⟨_, h⟩
  · exact good_toString h hA hx
  · exact good_fromString h hA hx
end
end Go.Proofs.YtkfalpmimdcneaaGreatDoor
