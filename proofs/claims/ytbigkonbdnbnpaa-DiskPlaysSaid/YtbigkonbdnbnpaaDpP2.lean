/-
  The reference's deeds as plain data; each goes with the disk's.
-/
import Derived.Test.YtbigkonbdnbnpaaDpP
namespace Go.Proofs.Ytbigkonbdnbnpaa
set_option linter.unusedVariables false
set_option linter.unusedSimpArgs false
open Go.RowKit

variable {σ : DiskS} {ρ : RefD} {s t : ByteArray}

def newB (c : Int) (t : ByteArray) : List BR := t.data.toList.zip (clocks c t.size)
def appendR (ρ : RefD) (s t : ByteArray) : RefD × Int :=
  if nameC s = false then (ρ, 1) else
  match rat ρ s with
  | none => if t.size ≤ 4194304 then (⟨insR ρ.l s (newB ρ.clock t), ρ.clock + t.size⟩, 0) else (ρ, 15)
  | some i => match ρ.l[i]? with
    | none => (ρ, 0)
    | some (_, b) => if b.length + t.size ≤ 4194304 then (⟨ρ.l.set i (s, b ++ newB ρ.clock t), ρ.clock + t.size⟩, 0) else (ρ, 15)
def sureB (b : List BR) : List BR := b.map fun x => (x.1, 0)
def syncR (ρ : RefD) (s : ByteArray) : RefD × Int :=
  match rat ρ s with
  | none => (ρ, 5)
  | some i => match ρ.l[i]? with
    | none => (ρ, 0)
    | some (_, b) => (⟨ρ.l.set i (s, sureB b), ρ.clock⟩, 0)
def removeR (ρ : RefD) (s : ByteArray) : RefD × Int :=
  match rat ρ s with
  | none => (ρ, 5)
  | some i => (⟨ρ.l.eraseIdx i, ρ.clock⟩, 0)
def rfile (ρ : RefD) (s : ByteArray) : Option (List BR) := (rat ρ s).bind fun i => (ρ.l[i]?).map (·.2)
def readR (ρ : RefD) (s : ByteArray) : ByteArray × Int :=
  match rfile ρ s with
  | none => (⟨#[]⟩, 5)
  | some b => (⟨(b.map (·.1)).toArray⟩, 0)
def unsyncedR (ρ : RefD) (s : ByteArray) : Nat :=
  match rfile ρ s with
  | none => 0
  | some b => b.countP fun x => decide (0 < x.2)
def renameR (ρ : RefD) (s t : ByteArray) : RefD × Int :=
  if nameC t = false then (ρ, 1) else
  match rfile ρ s with
  | none => (ρ, 5)
  | some b => if s = t then (ρ, 0) else (⟨insR (removeR (removeR ρ s).1 t).1.l t b, ρ.clock⟩, 0)
def whens (ρ : RefD) : List Int := ρ.l.flatMap fun x => (x.2.map (·.2)).filter (fun w => decide (0 < w))
def cutR (t : Int) (b : List BR) : List BR := (b.filter fun x => decide (x.2 ≤ t)).map fun x => (x.1, 0)
structure TQ (keep : Int) (ws : List Int) (t : Int) : Prop where
  t0 : t = 0 ∨ t ∈ ws
  cnt : ((ws.countP fun w => decide (w ≤ t)) : Int) = max 0 (min keep ws.length)
def crashR (t : Int) (ρ : RefD) : RefD := ⟨ρ.l.map fun x => (x.1, cutR t x.2), ρ.clock⟩

theorem enc_length {f : FileS} (h : f.sure + f.came.length = f.b.length) : (encF f).length = f.b.length := by
  unfold encF
  rw [List.length_zip, List.length_append, List.length_replicate]
  omega
theorem enc_fst {f : FileS} (h : f.sure + f.came.length = f.b.length) : (encF f).map (·.1) = f.b := by
  unfold encF
  rw [List.map_fst_zip]
  rw [List.length_append, List.length_replicate]; omega
theorem enc_snd {f : FileS} (h : f.sure + f.came.length = f.b.length) : (encF f).map (·.2) = List.replicate f.sure 0 ++ f.came := by
  unfold encF
  rw [List.map_snd_zip]
  rw [List.length_append, List.length_replicate]; omega
theorem enc_append {f : FileS} (h : f.sure + f.came.length = f.b.length) (t : ByteArray) (c : Int) : encF ⟨f.b ++ t.data.toList, f.sure, f.came ++ clocks c t.size⟩ = encF f ++ newB c t := by
  show (f.b ++ t.data.toList).zip (List.replicate f.sure 0 ++ (f.came ++ clocks c t.size)) = f.b.zip (List.replicate f.sure 0 ++ f.came) ++ t.data.toList.zip (clocks c t.size)
  rw [← List.append_assoc, List.zip_append]
  rw [List.length_append, List.length_replicate]; omega
theorem zip_rep (b : List UInt8) : b.zip (List.replicate b.length (0 : Int)) = b.map fun x => (x, 0) := by
  induction b with
  | nil => rfl
  | cons a r ih => simp [List.replicate_succ, ih]
theorem enc_sure (b : List UInt8) : encF ⟨b, b.length, []⟩ = b.map fun x => (x, 0) := by
  unfold encF
  rw [List.append_nil, zip_rep]
theorem enc_sync {f : FileS} (h : f.sure + f.came.length = f.b.length) : encF ⟨f.b, f.b.length, []⟩ = sureB (encF f) := by
  rw [enc_sure]
  unfold sureB
  conv => lhs; rw [← enc_fst h]
  rw [List.map_map]; rfl
theorem enc_pos {f : FileS} (h : f.sure + f.came.length = f.b.length) (hp : ∀ c ∈ f.came, 0 < c) : ((encF f).map (·.2)).filter (fun w => decide (0 < w)) = f.came := by
  rw [enc_snd h, List.filter_append]
  have h1 : (List.replicate f.sure (0 : Int)).filter (fun w => decide (0 < w)) = [] := by rw [List.filter_eq_nil_iff]; intro a ha; rw [List.eq_of_mem_replicate ha]; simp
  rw [h1, List.nil_append, List.filter_eq_self]
  intro a ha
  simpa using hp a ha
theorem enc_count {f : FileS} (h : f.sure + f.came.length = f.b.length) (hp : ∀ c ∈ f.came, 0 < c) : (encF f).countP (fun x => decide (0 < x.2)) = f.came.length := by
  rw [← enc_pos h hp, ← List.countP_eq_length_filter, List.countP_map]; rfl

theorem cut_came (t : Int) : ∀ (bs : List UInt8) (cs : List Int), bs.length = cs.length → cs.Pairwise (· ≤ ·) →
    ((bs.zip cs).filter fun x => decide (x.2 ≤ t)).map (fun x => (x.1, (0 : Int))) = (bs.take (cs.countP fun w => decide (w ≤ t))).map fun x => (x, 0)
  | [], [], _, _ => rfl
  | b :: bs, c :: cs, h, hp => by
    have hq := List.pairwise_cons.1 hp
    by_cases hc : c ≤ t
    · have ih := cut_came t bs cs (by simpa using h) hq.2
      rw [List.zip_cons_cons, List.filter_cons_of_pos (by simpa using hc), List.map_cons, ih, List.countP_cons_of_pos (by simpa using hc)]
      rfl
    · have hz : ∀ x ∈ cs, ¬ x ≤ t := fun x hx => by have := hq.1 x hx; omega
      have h1 : ((b :: bs).zip (c :: cs)).filter (fun x => decide (x.2 ≤ t)) = [] := by
        rw [List.filter_eq_nil_iff]
        intro a ha
        have := (List.of_mem_zip (show (a.1, a.2) ∈ _ from ha)).2
        rcases List.mem_cons.1 this with e | e
        · simpa [e] using hc
        · simpa using hz _ e
      have h2 : (c :: cs).countP (fun w => decide (w ≤ t)) = 0 := by
        rw [List.countP_eq_zero]
        intro a ha
        rcases List.mem_cons.1 ha with e | e
        · simpa [e] using hc
        · simpa using hz _ e
      rw [h1, h2]; rfl
theorem cut_zero (t : Int) (ht : 0 ≤ t) : ∀ (bs : List UInt8) (n : Nat), n = bs.length → ((bs.zip (List.replicate n (0 : Int))).filter fun x => decide (x.2 ≤ t)).map (fun x => (x.1, (0 : Int))) = bs.map fun x => (x, 0) := by
  intro bs n hn
  subst hn
  rw [zip_rep]
  have h1 : (bs.map fun x => (x, (0 : Int))).filter (fun x => decide (x.2 ≤ t)) = bs.map fun x => (x, 0) := by
    rw [List.filter_eq_self]
    intro a ha
    obtain ⟨b, _, rfl⟩ := List.mem_map.1 ha
    simpa using ht
  rw [h1, List.map_map]; rfl
theorem enc_cut {f : FileS} (h : f.sure + f.came.length = f.b.length) (hs : f.came.Pairwise (· ≤ ·)) {t : Int} (ht : 0 ≤ t) : encF (cutAt t f) = cutR t (encF f) := by
  have hcnt : f.came.countP (fun w => decide (w < t + 1)) = f.came.countP (fun w => decide (w ≤ t)) := by
    congr 1
    funext w
    by_cases hw : w ≤ t
    · rw [decide_eq_true hw, decide_eq_true (by omega)]
    · rw [decide_eq_false hw, decide_eq_false (by omega)]
  unfold cutAt
  rw [enc_sure]
  unfold cutR encF
  have hb : f.b = f.b.take f.sure ++ f.b.drop f.sure := (List.take_append_drop _ _).symm
  have hl : (f.b.take f.sure).length = f.sure := by rw [List.length_take]; omega
  have hd : (f.b.drop f.sure).length = f.came.length := by rw [List.length_drop]; omega
  conv => rhs; rw [hb]
  rw [List.zip_append (by rw [hl, List.length_replicate]), List.filter_append, List.map_append, cut_zero t ht _ _ hl.symm, cut_came t _ _ hd hs, ← List.map_append]
  congr 1
  rw [hcnt]
  conv => lhs; rw [hb]
  rw [List.take_append, hl, List.take_of_length_le (by omega), Nat.add_sub_cancel_left]

/-- All its clocks are unlike. -/
def DiskS.nd (σ : DiskS) : Prop := (σ.l.flatMap (·.2.came)).Nodup
structure PI (i : Nat) (σ : DiskS) : Prop where
  good : σ.good
  nd : σ.nd
  names : ∀ x ∈ σ.l, x.1.size ≤ 64
  clock : σ.clock ≤ 1000 * i
  len : σ.l.length ≤ i
theorem PI.mono {i : Nat} (h : PI i σ) : PI (i + 1) σ := ⟨h.good, h.nd, h.names, by have := h.clock; omega, by have := h.len; omega⟩

theorem TQ.perm {keep : Int} {ws ws' : List Int} {t : Int} (h : TQ keep ws t) (p : ws.Perm ws') : TQ keep ws' t :=
  ⟨h.t0.imp id fun q => p.mem_iff.1 q, by rw [← p.countP_eq, ← p.length_eq]; exact h.cnt⟩
theorem count_lt {p q : Int → Bool} : ∀ {l : List Int} (_ : ∀ x ∈ l, p x = true → q x = true) {b : Int} (_ : b ∈ l) (_ : p b = false ∨ ¬ p b = true) (_ : q b = true), l.countP p < l.countP q
  | a :: r, h, b, hb, h1, h2 => by
    have hm := List.countP_mono_left (p := p) (q := q) (l := r) (fun x hx hp => h x (List.mem_cons_of_mem _ hx) hp)
    rw [List.countP_cons, List.countP_cons]
    rcases List.mem_cons.1 hb with rfl | hb
    · have h1' : p b = false := by rcases h1 with q | q <;> simpa using q
      rw [h1', h2]; simp; omega
    · have := count_lt (fun x hx hp => h x (List.mem_cons_of_mem _ hx) hp) hb h1 h2
      by_cases hpa : p a = true
      · rw [hpa, h a List.mem_cons_self hpa]; simp; omega
      · rw [show p a = false by simpa using hpa]; simp; omega
theorem TQ.uniq {keep : Int} {ws : List Int} {t t' : Int} (hp : ∀ w ∈ ws, 0 < w) (h : TQ keep ws t) (h' : TQ keep ws t') : t = t' := by
  have key : ∀ {a b : Int}, TQ keep ws a → TQ keep ws b → ¬ a < b := by
    intro a b ha hb hlt
    have hm : b ∈ ws := by
      rcases hb.t0 with e | e
      · rcases ha.t0 with e' | e'
        · omega
        · have := hp a e'; omega
      · exact e
    have h1 : (ws.countP fun w => decide (w ≤ a)) < ws.countP fun w => decide (w ≤ b) := by
      have := count_lt (p := fun w => decide (w ≤ a)) (q := fun w => decide (w ≤ b)) (l := ws) (fun x _ hx => by simp at hx ⊢; omega) hm (.inl (by simp; omega)) (by simp)
      exact this
    have h2 := ha.cnt
    have h3 := hb.cnt
    omega
  rcases Int.lt_trichotomy t t' with q | q | q
  · exact absurd q (key h h')
  · exact q
  · exact absurd q (key h' h)
theorem count_sorted {ys : List Int} (h : ys.Pairwise (· < ·)) {k : Nat} (hk : k < ys.length) : (ys.countP fun w => decide (w ≤ ys[k])) = k + 1 := by
  have h1 := List.pairwise_iff_getElem.1 h
  have e0 : ys.countP (fun w => decide (w ≤ ys[k])) = (ys.take (k + 1)).countP (fun w => decide (w ≤ ys[k])) + (ys.drop (k + 1)).countP (fun w => decide (w ≤ ys[k])) := by
    rw [← List.countP_append, List.take_append_drop]
  rw [e0]
  have e1 : (ys.take (k + 1)).countP (fun w => decide (w ≤ ys[k])) = k + 1 := by
    have : (ys.take (k + 1)).countP (fun w => decide (w ≤ ys[k])) = (ys.take (k + 1)).length := by
      rw [List.countP_eq_length]
      intro a ha
      obtain ⟨j, hj, rfl⟩ := List.getElem_of_mem ha
      rw [List.length_take] at hj
      rw [List.getElem_take]
      by_cases e : j = k
      · subst e; simp
      · have := h1 j k (by omega) hk (by omega)
        simp; omega
    rw [this, List.length_take]; omega
  have e2 : (ys.drop (k + 1)).countP (fun w => decide (w ≤ ys[k])) = 0 := by
    rw [List.countP_eq_zero]
    intro a ha
    obtain ⟨j, hj, rfl⟩ := List.getElem_of_mem ha
    rw [List.getElem_drop]
    rw [List.length_drop] at hj
    have := h1 k (k + 1 + j) hk (by omega) (by omega)
    simp; omega
  rw [e1, e2]
theorem TQ.last {keep : Int} {ws : List Int} (hn : ws.Nodup) (hp : ∀ w ∈ ws, 0 < w) : TQ keep ws (lastOf keep ws) := by
  refine ⟨lastOf_mem keep ws, ?_⟩
  have hperm := List.mergeSort_perm ws (fun x y => decide (x ≤ y))
  have hle : (ws.mergeSort fun x y => decide (x ≤ y)).Pairwise (· ≤ ·) := (List.pairwise_mergeSort (by intros; simp_all; omega) (by intros; simp; omega) ws).imp (fun h => by simpa using h)
  have hnd : (ws.mergeSort fun x y => decide (x ≤ y)).Nodup := hperm.nodup_iff.2 hn
  have hlt : (ws.mergeSort fun x y => decide (x ≤ y)).Pairwise (· < ·) := (hle.and hnd).imp (fun h => by have := h.1; have := h.2; omega)
  unfold lastOf
  by_cases hk : 0 < min keep ws.length
  · rw [if_pos hk, ← hperm.countP_eq]
    have hl : (min keep ws.length - 1).toNat < (ws.mergeSort fun x y => decide (x ≤ y)).length := by rw [hperm.length_eq]; omega
    rw [List.getD_eq_getElem?_getD, List.getElem?_eq_getElem hl, Option.getD_some, count_sorted hlt hl]
    omega
  · rw [if_neg hk]
    have : (ws.countP fun w => decide (w ≤ 0)) = 0 := by
      rw [List.countP_eq_zero]
      intro a ha
      have := hp a ha
      simp; omega
    rw [this]; omega

theorem whens_perm (h : Rel σ ρ) (hg : σ.good) : (whens ρ).Perm (σ.l.flatMap (·.2.came)) := by
  unfold whens
  refine (h.perm.flatMap_right _).trans (List.Perm.of_eq ?_)
  rw [List.flatMap_map]
  have : ∀ (l : List (ByteArray × FileS)), (∀ x ∈ l, x ∈ σ.l) → l.flatMap (fun a => ((enc1 a).2.map (·.2)).filter (fun w => decide (0 < w))) = l.flatMap (·.2.came) := by
    intro l hl
    induction l with
    | nil => rfl
    | cons a r ih =>
      have ha := hl a List.mem_cons_self
      rw [List.flatMap_cons, List.flatMap_cons, ih (fun x hx => hl x (List.mem_cons_of_mem _ hx))]
      rw [show (enc1 a).2 = encF a.2 from rfl, enc_pos (hg.files a ha).1 (fun c hc => (hg.times a ha c hc).1)]
  exact this σ.l (fun _ h => h)
theorem rel_crash (h : Rel σ ρ) (hg : σ.good) (hn : σ.nd) {keep t : Int} (ht : TQ keep (whens ρ) t) : Rel (crashD keep σ) (crashR t ρ) := by
  have hpos : ∀ w ∈ σ.l.flatMap (·.2.came), 0 < w := fun w hw => by
    obtain ⟨x, hx, hc⟩ := List.mem_flatMap.1 hw
    exact (hg.times x hx w hc).1
  have e : t = lastOf keep (σ.l.flatMap (·.2.came)) := (ht.perm (whens_perm h hg)).uniq hpos (TQ.last hn hpos)
  have h0 : 0 ≤ t := by
    rcases (ht.perm (whens_perm h hg)).t0 with q | q
    · omega
    · have := hpos t q; omega
  refine ⟨h.clock, ?_, ?_⟩
  · show ((ρ.l.map _).map _).Pairwise _
    rw [List.map_map]
    exact h.sorted
  · show (ρ.l.map _).Perm (List.map enc1 (List.map _ σ.l))
    refine (h.perm.map _).trans (List.Perm.of_eq ?_)
    rw [List.map_map, List.map_map]
    apply List.map_congr_left
    intro x hx
    show (x.1, cutR t (encF x.2)) = (x.1, encF (cutAt _ x.2))
    rw [← e, enc_cut (hg.files x hx).1 (hg.sorted x hx) h0]
end Go.Proofs.Ytbigkonbdnbnpaa
