/-
  Who asks for one lock has it in the order of asking: the plain law.
-/
import Derived.Test.YtelbpnlpmaihhaaLocksAwake
namespace Go.Proofs.Ytelbpnlpmaihhaa
set_option linter.unusedVariables false
set_option linter.unusedSimpArgs false

def ses (q : List WaitS) : List Int := q.map (·.session)

/-- Serving, where the tokens do not end. -/
theorem servL_ord : ∀ (q : List WaitS) (tok : Int) (h : List Int) (wr : Bool), 0 ≤ tok → tok + q.length ≤ 1000 → h.Pairwise (· ≤ ·) → (h ++ ses q).Nodup →
    ∃ (rs : List RepS) (tok' : Int) (x' : LockS), serveL q tok h wr = (rs, tok', x') ∧ rs.map (·.session) ++ ses x'.queue = ses q ∧ (x'.held ++ ses x'.queue).Nodup ∧ x'.held.Pairwise (· ≤ ·) ∧ x'.held.length + x'.queue.length = h.length + q.length ∧
      0 ≤ tok' ∧ tok' + x'.queue.length ≤ tok + q.length ∧ (x'.held = [] → h = [] ∧ q = []) ∧ (rs = [] → x' = ⟨h, wr, q⟩ ∧ tok' = tok)
  | [], tok, h, wr, h0, _, hp, hn => ⟨[], tok, ⟨h, wr, []⟩, rfl, rfl, hn, hp, rfl, h0, by simp, fun h => ⟨h, rfl⟩, fun _ => ⟨rfl, rfl⟩⟩
  | w :: q, tok, h, wr, h0, ht, hp, hn => by
    rw [serveL]
    by_cases hb : h ≠ [] ∧ (wr = true ∨ w.reader = false)
    · rw [if_pos hb]
      exact ⟨[], tok, _, rfl, rfl, hn, hp, rfl, h0, Int.le_refl _, fun h1 => absurd h1 hb.1, fun _ => ⟨rfl, rfl⟩⟩
    · rw [if_neg hb]
      have hl : (q.length : Int) + 1 = ((w :: q).length : Int) := by simp
      have hg : ∃ tok1 wr1 e, grantD tok ⟨h, wr, []⟩ w = (e, tok1, ⟨insD h w.session, wr1, []⟩) ∧ e.session = w.session ∧ 0 ≤ tok1 ∧ tok1 ≤ tok + 1 := by
        unfold grantD
        by_cases hr : w.reader
        · rw [if_pos hr]; exact ⟨_, _, _, rfl, rfl, h0, by omega⟩
        · rw [if_neg hr, if_neg (by unfold tokLast; omega)]; exact ⟨_, _, _, rfl, rfl, by omega, by omega⟩
      obtain ⟨tok1, wr1, e, hg1, hg2, hg3, hg4⟩ := hg
      rw [hg1]
      simp only
      have hperm : (insD h w.session ++ ses q).Perm (h ++ ses (w :: q)) := by
        have h1 : (insD h w.session).Perm (w.session :: h) := by
          unfold insD
          rw [List.append_assoc]
          refine List.perm_middle.trans (.cons _ ?_)
          show (h.take (h.countP (· < w.session)) ++ h.drop (h.countP (· < w.session))).Perm h
          rw [List.take_append_drop]
        have h2 : (h ++ ses (w :: q)).Perm ((w.session :: h) ++ ses q) := by
          unfold ses
          rw [List.map_cons, List.cons_append]
          exact List.perm_middle
        exact (h1.append_right _).trans h2.symm
      obtain ⟨rs, tok', x', i1, i2, i3, i4, i5, i6, i7, i8, i9⟩ := servL_ord q tok1 (insD h w.session) wr1 hg3 (by omega) (insD_sorted hp _) (hperm.nodup_iff.2 hn)
      refine ⟨e :: rs, tok', x', by rw [i1], ?_, i3, i4, ?_, i6, by omega, ?_, fun h => by cases h⟩
      · rw [List.map_cons, List.cons_append, i2, hg2]; rfl
      · rw [i5, insD_length]; simp; omega
      · intro h1
        have h2 := (i8 h1).1
        have := insD_length h w.session
        rw [h2] at this
        simp at this

/-- One lock with its holders and who waits; n: how many asked, and are not gone. -/
structure OrdX (x : LockS) (tok : Int) (n : Nat) : Prop where
  ne : x.held ≠ []
  nd : (x.held ++ ses x.queue).Nodup
  sorted : x.held.Pairwise (· ≤ ·)
  len : x.held.length + x.queue.length = n
  t0 : 0 ≤ tok
  t1 : tok + x.queue.length ≤ 100

theorem lst1_get (x : LockS) (tok : Int) : aget (lst1 x tok).l la = some x := by
  show aget [(la, x)] la = some x
  simp [aget, aidx, List.findIdx?_cons]
theorem lst1_put (x x' : LockS) (tok : Int) : aput (lst1 x tok).l la x' = [(la, x')] := by
  show aput [(la, x)] la x' = _
  simp [aput, aidx, List.findIdx?_cons]
theorem lst1_del (x : LockS) (tok : Int) : adel (lst1 x tok).l la = [] := by
  show adel [(la, x)] la = _
  simp [adel, aidx, List.findIdx?_cons]

/-- What is released: the reply, then those who are served, in the order of asking. -/
theorem rel_ord {x : LockS} {tok : Int} {n : Nat} (h : OrdX x tok n) (hn : n ≤ 50) (s0 : Int) (r : List Int) (hh : x.held = s0 :: r) :
    ∃ (rs : List RepS) (σ' : LocksS), relD (lst1 x tok) ⟨if x.writer then 6 else 8, s0, 2, la, 0⟩ = (⟨s0, 2, 0, 0, 0⟩ :: rs, σ') ∧
      ((σ' = ⟨[], σ'.tok⟩ ∧ rs.map (·.session) = ses x.queue ∧ n = 1) ∨ ∃ (x' : LockS) (tok' : Int), σ' = lst1 x' tok' ∧ OrdX x' tok' (n - 1) ∧ rs.map (·.session) ++ ses x'.queue = ses x.queue) := by
  have hf : x.held.filter (fun m => m != s0) = r := by
    rw [hh]
    have hn := h.nd
    rw [hh] at hn
    have : s0 ∉ r := by
      have h1 := (List.nodup_cons.1 hn).1
      exact fun h2 => h1 (List.mem_append_left _ h2)
    rw [List.filter_cons_of_neg (by simp), List.filter_eq_self]
    intro a ha
    simp
    exact fun e => this (e ▸ ha)
  have hnd : (r ++ ses x.queue).Nodup := by
    have hn := h.nd
    rw [hh] at hn
    exact (List.nodup_cons.1 hn).2
  have hsr : r.Pairwise (· ≤ ·) := by
    have hs := h.sorted
    rw [hh] at hs
    exact (List.pairwise_cons.1 hs).2
  have hlen := h.len
  rw [hh, List.length_cons] at hlen
  obtain ⟨rs, tok', x', i1, i2, i3, i4, i5, i6, i7, i8, _⟩ := servL_ord x.queue tok r x.writer h.t0 (by have := h.t1; omega) hsr hnd
  have hrel : relD (lst1 x tok) ⟨if x.writer then 6 else 8, s0, 2, la, 0⟩ = (⟨s0, 2, 0, 0, 0⟩ :: rs, if x'.held = [] then ⟨[], tok'⟩ else lst1 x' tok') := by
    have hk : x.writer = ((if x.writer then (6 : Int) else 8) == 6) := by cases x.writer <;> rfl
    have hc : x.held.contains s0 = true := by rw [hh]; simp
    unfold relD
    rw [if_neg (by cases x.writer <;> simp)]
    simp only [lst1_get]
    rw [if_neg (by rintro (h1 | h1); exact h1 hk; rw [hc] at h1; cases h1)]
    simp only [serveD, hf, lst1_put, lst1_del]
    rw [show (lst1 x tok).tok = tok from rfl, i1]
    rfl
  refine ⟨rs, _, hrel, ?_⟩
  by_cases hx : x'.held = []
  · left
    rw [if_pos hx]
    obtain ⟨hr, hq⟩ := i8 hx
    refine ⟨rfl, ?_, ?_⟩
    · rw [hx, hr, hq] at i5
      have : x'.queue = [] := List.eq_nil_of_length_eq_zero (by simp at i5; simpa using i5)
      rw [this] at i2
      simpa [ses] using i2
    · rw [hr, hq] at hlen; simp at hlen; omega
  · right
    rw [if_neg hx]
    exact ⟨x', tok', rfl, ⟨hx, i3, i4, by omega, i6, by have := h.t1; omega⟩, i2⟩

/-- Behind i that asked. -/
structure OrdA (x : LockS) (tok : Int) (i : Nat) : Prop where
  ord : OrdX x tok i
  le : tok ≤ i
  mem : ∀ s ∈ x.held ++ ses x.queue, 1 ≤ s ∧ s ≤ (i : Int)

theorem ask_first (rd : Bool) : ∃ (r : RepS) (x : LockS) (tok : Int), askD ⟨[], 0⟩ ⟨if rd then 7 else 5, 1, 1, la, 0⟩ = ([r], false, lst1 x tok) ∧ OrdA x tok 1 ∧ ses x.queue = [] := by
  cases rd with
  | false => exact ⟨⟨1, 1, 0, 1, 0⟩, ⟨[1], true, []⟩, 1, e1, ⟨⟨by simp, by simp [ses], by simp, rfl, by decide, by simp⟩, by decide, by simp [ses]⟩, rfl⟩
  | true => exact ⟨⟨1, 1, 0, 0, 0⟩, ⟨[1], false, []⟩, 0, rfl, ⟨⟨by simp, by simp [ses], by simp, rfl, by decide, by simp⟩, by decide, by simp [ses]⟩, rfl⟩

theorem insD_end {zs : List Int} {x : Int} (h : ∀ y ∈ zs, y < x) : insD zs x = zs ++ [x] := by
  have e : zs.countP (· < x) = zs.length := by
    rw [List.countP_eq_length]
    intro y hy
    simpa using h y hy
  unfold insD
  rw [e]
  simp

theorem ask_next {x : LockS} {tok : Int} {i : Nat} (h : OrdA x tok i) (hi : i < 50) (rd : Bool) : ∃ (rs : List RepS) (wait : Bool) (x' : LockS) (tok' : Int), askD (lst1 x tok) ⟨if rd then 7 else 5, (i : Int) + 1, 1, la, 0⟩ = (rs, wait, lst1 x' tok') ∧ OrdA x' tok' (i + 1) ∧
    (wait = false ∧ rs.length = 1 ∧ ses x'.queue = ses x.queue ∨ wait = true ∧ rs = [] ∧ ses x'.queue = ses x.queue ++ [(i : Int) + 1]) := by
  have hk : ¬ ((if rd then (7 : Int) else 5) ≠ 5 ∧ (if rd then (7 : Int) else 5) ≠ 7) := by cases rd <;> simp
  have hr : ((if rd then (7 : Int) else 5) == 7) = rd := by cases rd <;> rfl
  have hnot : (i : Int) + 1 ∉ x.held ++ ses x.queue := fun h1 => by have := (h.mem _ h1).2; omega
  have hasks : asksD x ((i : Int) + 1) = false := by
    unfold asksD
    rw [Bool.or_eq_false_iff]
    constructor
    · have : (i : Int) + 1 ∉ x.held := fun h1 => hnot (List.mem_append_left _ h1)
      simpa using this
    · rw [List.any_eq_false]
      intro w hw
      have : w.session ≠ (i : Int) + 1 := fun e => hnot (List.mem_append_right _ (List.mem_map.2 ⟨w, hw, e⟩))
      simpa using this
  have hl := h.ord.len
  have ht0 := h.ord.t0
  have hle := h.le
  by_cases hg : rd = true ∧ x.writer = false ∧ x.queue = []
  · obtain ⟨rfl, hw, hq⟩ := hg
    refine ⟨[⟨(i : Int) + 1, 1, 0, tok, 0⟩], false, { x with held := insD x.held ((i : Int) + 1), writer := false }, tok, ?_, ?_, .inl ⟨rfl, rfl, rfl⟩⟩
    · unfold askD
      rw [if_neg hk]
      simp only [lst1_get, hasks, hr, lst1_put]
      rw [if_neg (by simp), if_pos ⟨rfl, hw, hq⟩]
      rfl
    · have hins : insD x.held ((i : Int) + 1) = x.held ++ [(i : Int) + 1] := insD_end (fun y hy => by have := (h.mem y (List.mem_append_left _ hy)).2; omega)
      have hn := h.ord.nd
      rw [hq] at hn hl hnot
      simp only [ses, List.map_nil, List.append_nil] at hn hnot
      refine ⟨⟨by simp [hins], ?_, insD_sorted h.ord.sorted _, ?_, ht0, ?_⟩, by omega, ?_⟩
      · simp only [hq, ses, List.map_nil, List.append_nil, hins]
        exact List.nodup_append.2 ⟨hn, by simp, fun a ha b hb e => by simp at hb; subst hb; subst e; exact hnot ha⟩
      · simp only [hq, insD_length, List.length_nil] at hl ⊢; omega
      · simp only [hq, List.length_nil]; omega
      · intro s hs
        simp only [hq, ses, List.map_nil, List.append_nil, hins, List.mem_append, List.mem_singleton] at hs
        rcases hs with hs | rfl
        · have := h.mem s (List.mem_append_left _ hs); omega
        · omega
  · refine ⟨[], true, { x with queue := x.queue ++ [⟨(i : Int) + 1, 1, rd⟩] }, tok, ?_, ?_, .inr ⟨rfl, rfl, by simp [ses]⟩⟩
    · unfold askD
      rw [if_neg hk]
      simp only [lst1_get, hasks, hr, lst1_put]
      rw [if_neg (by simp), if_neg (by simpa using hg)]
      rfl
    · have hses : ses (x.queue ++ [⟨(i : Int) + 1, 1, rd⟩]) = ses x.queue ++ [(i : Int) + 1] := by simp [ses]
      refine ⟨⟨h.ord.ne, ?_, h.ord.sorted, by simp; omega, ht0, by simp; omega⟩, by omega, ?_⟩
      · simp only [hses]
        rw [← List.append_assoc]
        exact List.nodup_append.2 ⟨h.ord.nd, by simp, fun a ha b hb e => by simp at hb; subst hb; subst e; exact hnot ha⟩
      · intro s hs
        simp only [hses, ← List.append_assoc] at hs
        rcases List.mem_append.1 hs with hs | hs
        · have := h.mem s hs; omega
        · simp at hs; omega

/-- Behind i that asked, the first among them. -/
def Ord0 (σ : LocksS) (i : Nat) (qs : List Int) : Prop := (i = 0 ∧ σ = ⟨[], 0⟩ ∧ qs = []) ∨ ∃ x tok, σ = lst1 x tok ∧ OrdA x tok i ∧ qs = ses x.queue

theorem OrdX.ok {x : LockS} {tok : Int} {n : Nat} (h : OrdX x tok n) (hn : n ≤ 50) : (lst1 x tok).ok 10000000 := by
  have hl := h.len
  have ht := h.t1
  refine ⟨h.t0, by show tok ≤ tokLast; unfold tokLast; omega, by simp [lst1], ?_⟩
  intro y hy
  simp [lst1] at hy
  subst hy
  exact ⟨h.sorted, by show x.held.length + x.queue.length ≤ _; omega⟩

theorem Ord0.ok {σ : LocksS} {i : Nat} {qs : List Int} (h : Ord0 σ i qs) (hi : i ≤ 50) : σ.ok 10000000 := by
  rcases h with ⟨_, rfl, _⟩ | ⟨x, tok, rfl, h, _⟩
  · exact ok0
  · exact h.ord.ok hi

theorem ask_ord0 {σ : LocksS} {i : Nat} {qs : List Int} (h : Ord0 σ i qs) (hi : i < 50) (rd : Bool) : ∃ (rs : List RepS) (wait : Bool) (σ' : LocksS), askD σ ⟨if rd then 7 else 5, (i : Int) + 1, 1, la, 0⟩ = (rs, wait, σ') ∧
    (wait = false ∧ rs.length = 1 ∧ Ord0 σ' (i + 1) qs ∨ wait = true ∧ rs = [] ∧ Ord0 σ' (i + 1) (qs ++ [(i : Int) + 1])) := by
  rcases h with ⟨rfl, rfl, rfl⟩ | ⟨x, tok, rfl, h, rfl⟩
  · obtain ⟨r, x, tok, h1, h2, h3⟩ := ask_first rd
    exact ⟨[r], false, _, h1, .inl ⟨rfl, rfl, .inr ⟨x, tok, rfl, h2, h3.symm⟩⟩⟩
  · obtain ⟨rs, wait, x', tok', h1, h2, h3⟩ := ask_next h hi rd
    refine ⟨rs, wait, _, h1, ?_⟩
    rcases h3 with ⟨a, b, c⟩ | ⟨a, b, c⟩
    · exact .inl ⟨a, b, .inr ⟨x', tok', rfl, h2, c.symm⟩⟩
    · exact .inr ⟨a, b, .inr ⟨x', tok', rfl, h2, c.symm⟩⟩

/-- What is left: nothing, or one lock that n hold or want. -/
def Ord2 (σ : LocksS) (n : Nat) (qs : List Int) : Prop := (n = 0 ∧ σ.l = [] ∧ qs = []) ∨ ∃ x tok, σ = lst1 x tok ∧ OrdX x tok n ∧ qs = ses x.queue
theorem Ord0.to2 {σ : LocksS} {i : Nat} {qs : List Int} (h : Ord0 σ i qs) : Ord2 σ i qs := by
  rcases h with ⟨h1, rfl, h3⟩ | ⟨x, tok, h1, h2, h3⟩
  · exact .inl ⟨h1, rfl, h3⟩
  · exact .inr ⟨x, tok, h1, h2.ord, h3⟩

/-- What the round with a holder needs. -/
theorem rel_ord2 {x : LockS} {tok : Int} {m k : Nat} {qs : List Int} (h : OrdX x tok m) (hm : m ≤ 50) (hk : k ≤ qs.length) (hq : qs.drop k = ses x.queue) (s0 : Int) (r : List Int) (hh : x.held = s0 :: r) :
    ∃ (rs : List RepS) (σ' : LocksS), relD (lst1 x tok) ⟨if x.writer then 6 else 8, s0, 2, la, 0⟩ = (⟨s0, 2, 0, 0, 0⟩ :: rs, σ') ∧ 1 ≤ m ∧ k + rs.length ≤ qs.length ∧ Ord2 σ' (m - 1) (qs.drop (k + rs.length)) ∧
      (∀ (j : Nat) (y : RepS), rs[j]? = some y → qs[k + j]? = some y.session) := by
  obtain ⟨rs, σ', h1, h2⟩ := rel_ord h hm s0 r hh
  have hlen : (qs.drop k).length = qs.length - k := List.length_drop
  have hm1 : 1 ≤ m := by have := h.len; rw [hh] at this; simp at this; omega
  have key : ∀ (rest : List Int), rs.map (·.session) ++ rest = qs.drop k → k + rs.length ≤ qs.length ∧ qs.drop (k + rs.length) = rest ∧ ∀ (j : Nat) (y : RepS), rs[j]? = some y → qs[k + j]? = some y.session := by
    intro rest e
    have e1 : (rs.map (·.session) ++ rest).length = qs.length - k := by rw [e, hlen]
    rw [List.length_append, List.length_map] at e1
    refine ⟨by omega, ?_, fun j y hj => ?_⟩
    · rw [← List.drop_drop, ← e, List.drop_append_of_le_length (by simp)]
      simp
    · have e2 : (qs.drop k)[j]? = some y.session := by
        rw [← e, List.getElem?_append_left (by rw [List.length_map]; exact (List.getElem?_eq_some_iff.1 hj).1), List.getElem?_map, hj]; rfl
      rwa [List.getElem?_drop] at e2
  rcases h2 with ⟨ha, hb, hc⟩ | ⟨x', tok', ha, hb, hc⟩
  · obtain ⟨k1, k2, k3⟩ := key [] (by rw [hq, ← hb]; simp)
    exact ⟨rs, σ', h1, hm1, k1, .inl ⟨by omega, by rw [ha], k2⟩, k3⟩
  · obtain ⟨k1, k2, k3⟩ := key (ses x'.queue) (by rw [hq]; exact hc)
    exact ⟨rs, σ', h1, hm1, k1, .inr ⟨x', tok', ha, hb, k2⟩, k3⟩
theorem row_cap {w : World} {e : TypeId} {size : Nat} {ao : Option Addr} {n cap : Nat} {xs : List Value} (h : Hp.on w (.row e size ao n cap xs)) : n ≤ cap := by
  rcases row_head h with ⟨_, h1, h2⟩ | ⟨_, h1⟩ <;> omega
end Go.Proofs.Ytelbpnlpmaihhaa
