/-
  Decode, walked.
-/
import Derived.Test.YtodojllclghoiaaSesDec
namespace Go.Proofs.Ytodojllclghoiaa
set_option linter.unusedVariables false
set_option linter.unusedSimpArgs false
open Go.RowKit

/-- So many sessions read. -/
def sesRun : Nat → RS → Option (SesS × RS)
  | 0, st => some (⟨[], []⟩, st)
  | k + 1, st => (sesRun k st).bind fun x => (sesO x.1 x.2).map fun σ' => (σ', sesN x.2)
/-- The clients' own list read. -/
def cliRun (σ : SesS) : List Int → RS → Option RS
  | [], st => some st
  | c :: cs, st => if (pI st).1 = c ∧ (pI (pI st).2).1 = (latS σ c).1 ∧ (pI (pI (pI st).2).2).1 = (latS σ c).2 then cliRun σ cs (pI (pI (pI st).2).2).2 else none
def decS (L : List UInt8) : Option SesS :=
  match sesRun (pI (L, false)).1.toNat (pI (L, false)).2 with
  | none => none
  | some (σ, st) =>
    if (pI (L, false)).1 < 0 ∨ (pI st).1 ≠ (σ.c.length : Int) ∨ 256 < (allS σ).length then none
    else match cliRun σ (clisE σ) (pI st).2 with
      | none => none
      | some st => if pD st = 0 then some σ else none

theorem sesV_len {σ σ' : SesS} {f0 f1 f2 f3 f4 f5 e : Int} {t : Nat} {n : Int} (h : sesV σ f0 f1 f2 f3 f4 f5 e t n = some σ') : σ'.l.length = σ.l.length + 1 ∧ f0 = (σ.l.length : Int) + 1 ∧ σ'.c = aput σ.c f1 (f2, (σ.l.length : Int) + 1) ∧ (0 ≤ f1 ∧ f1 ≤ 7) ∧ 1 ≤ f2 ∧ f2 ≤ 1073741824 := by
  unfold sesV at h
  split at h
  · cases h
  rename_i h0
  split at h
  · cases h
  split at h
  · cases h
  split at h
  · cases h
  split at h
  · cases h
  split at h
  · cases h
  split at h
  · split at h
    · cases h
    split at h
    · cases h
    cases h
    exact ⟨by simp, Classical.not_not.1 h0, rfl, by omega, by omega⟩
  · split at h
    · cases h
    split at h
    · cases h
    cases h
    exact ⟨by simp, Classical.not_not.1 h0, rfl, by omega, by omega⟩

theorem decU_len : ∀ (f i : Nat) (L : List UInt8), ∀ x, decU f i L = some x → x.2.length < L.length
  | 0, i, L, x, h => by simp [decU] at h
  | f + 1, i, [], x, h => by simp [decU] at h
  | f + 1, i, c :: r, x, h => by
    rw [decU] at h
    split at h
    · cases h
    · split at h
      · cases h; simp
      · obtain ⟨y, hy, rfl⟩ := Option.map_eq_some_iff.1 h
        have := decU_len f (i + 1) r y hy
        simp only [List.length_cons]; omega
theorem pU_len (st : RS) : (pU st).2.1.length ≤ st.1.length ∧ ((pU st).1 ≠ 0 → (pU st).2.1.length < st.1.length) := by
  unfold pU
  split
  · exact ⟨Nat.le_refl _, fun h => absurd rfl h⟩
  · split
    · exact ⟨Nat.le_refl _, fun h => absurd rfl h⟩
    · rename_i n r h
      have := decU_len _ _ _ _ h
      exact ⟨Nat.le_of_lt this, fun _ => this⟩
theorem pI_len (st : RS) : (pI st).2.1.length ≤ st.1.length ∧ ((pI st).1 ≠ 0 → (pI st).2.1.length < st.1.length) := by
  refine ⟨(pU_len st).1, fun h => (pU_len st).2 (fun e => h ?_)⟩
  show unz (pU st).1 = 0
  rw [e]; rfl
theorem pIs_le : ∀ (k : Nat) (st : RS), (pIs k st).2.1.length ≤ st.1.length
  | 0, _ => Nat.le_refl _
  | k + 1, st => Nat.le_trans (pI_len (pIs k st).2).1 (pIs_le k st)
theorem pIs_head : ∀ (k : Nat) (st : RS), (pIs (k + 1) st).1.head? = some (pI st).1 ∧ (pIs (k + 1) st).2.1.length ≤ (pI st).2.1.length
  | 0, st => ⟨rfl, Nat.le_refl _⟩
  | k + 1, st => by
    have h := pIs_head k st
    refine ⟨?_, Nat.le_trans (pI_len (pIs (k + 1) st).2).1 h.2⟩
    show ((pIs (k + 1) st).1 ++ [_]).head? = _
    rw [List.head?_append, h.1]; rfl
theorem sesO_at {σ σ' : SesS} {st : RS} (h : sesO σ st = some σ') : (sesN st).1.length < st.1.length ∧ σ'.l.length = σ.l.length + 1 := by
  unfold sesO at h
  split at h
  · rename_i f0 f1 f2 f3 f4 f5 hf
    obtain ⟨h1, h2, _⟩ := sesV_len h
    have h3 : (pIs 6 st).1.head? = some (pI st).1 ∧ (pIs 6 st).2.1.length ≤ (pI st).2.1.length := pIs_head 5 st
    rw [hf] at h3
    have h4 : f0 = (pI st).1 := by simpa using h3.1
    have h5 := (pI_len st).2 (by omega)
    have h6 := h3.2
    have a1 := (pI_len (pIs 6 st).2).1
    have a2 := (pU_len (pI (pIs 6 st).2).2).1
    have a3 := (pI_len (pU (pI (pIs 6 st).2).2).2).1
    refine ⟨?_, h1⟩
    unfold sesN
    omega
  · cases h
theorem sesRun_len : ∀ (k : Nat) (st : RS) (σ : SesS) (st' : RS), sesRun k st = some (σ, st') → σ.l.length = k ∧ k + st'.1.length ≤ st.1.length
  | 0, st, σ, st', h => by cases h; exact ⟨rfl, by omega⟩
  | k + 1, st, σ, st', h => by
    obtain ⟨⟨σ1, s1⟩, hx, hy⟩ := Option.bind_eq_some_iff.1 h
    obtain ⟨σ2, h2, h3⟩ := Option.map_eq_some_iff.1 hy
    cases h3
    obtain ⟨h4, h5⟩ := sesRun_len k st σ1 s1 hx
    obtain ⟨h6, h7⟩ := sesO_at h2
    simp only at h6 h7 ⊢
    exact ⟨by omega, by omega⟩
theorem sesRun_none : ∀ (k m : Nat) (st : RS), sesRun k st = none → sesRun (k + m) st = none
  | k, 0, st, h => h
  | k, m + 1, st, h => by
    show (sesRun (k + m) st).bind _ = none
    rw [sesRun_none k m st h]; rfl

theorem pi_ses {w0 w : World} {R : List Hp} {p g : Nat} {σ : SesS} {st : RS} (h : SesSt w0 w p σ (rdc g st :: R)) : Calls Try.prog 30 #[.pointer (some ⟨g, 0, none⟩)] w fun e w' => e = .returned (.int .i64 (pI st).1) ∧ SesSt w0 w' p σ (rdc g (pI st).2 :: R) := by
  obtain ⟨D, hS, hb⟩ := h.use
  refine (pi_s (hS.perm List.perm_middle)).mono ?_
  rintro e w' ⟨rfl, h2⟩
  exact ⟨rfl, hb _ _ (h2.perm List.perm_middle.symm)⟩
theorem pd_ses {w0 w : World} {R : List Hp} {p g : Nat} {σ : SesS} {st : RS} (h : SesSt w0 w p σ (rdc g st :: R)) : Calls Try.prog 34 #[.pointer (some ⟨g, 0, none⟩)] w fun e w' => e = .returned (.int .i64 (pD st)) ∧ SesSt w0 w' p σ (rdc g st :: R) := by
  obtain ⟨D, hS, hb⟩ := h.use
  refine (pd_c w0 w _ g st (hS.perm List.perm_middle)).mono ?_
  rintro e w' ⟨rfl, h2⟩
  exact ⟨rfl, hb _ _ (St.perm h2 List.perm_middle.symm)⟩
section
variable {κ α : Type} [DecidableEq κ]
theorem mem_aput2 {l : List (κ × α)} {k : κ} {v : α} {x : κ × α} (h : x ∈ aput l k v) : x ∈ l ∨ x = (k, v) := by
  unfold aput at h
  split at h
  · simpa using h
  · exact (List.mem_or_eq_of_mem_set h)
theorem aput_len2 (l : List (κ × α)) (k : κ) (v : α) : (aput l k v).length ≤ l.length + 1 := by
  unfold aput
  split <;> simp
end
theorem sesRun_c : ∀ (k : Nat) (st : RS) (σ : SesS) (st' : RS), sesRun k st = some (σ, st') → σ.c.length ≤ k ∧ ∀ x ∈ σ.c, (0 ≤ x.1 ∧ x.1 ≤ 7) ∧ (1 ≤ x.2.1 ∧ x.2.1 ≤ 1073741824) ∧ 1 ≤ x.2.2 ∧ x.2.2 ≤ (k : Int)
  | 0, st, σ, st', h => by cases h; exact ⟨Nat.le_refl _, fun x hx => by cases hx⟩
  | k + 1, st, σ, st', h => by
    obtain ⟨⟨σ1, s1⟩, hx, hy⟩ := Option.bind_eq_some_iff.1 h
    obtain ⟨σ2, h2, h3⟩ := Option.map_eq_some_iff.1 hy
    cases h3
    obtain ⟨h4, h5⟩ := sesRun_c k st σ1 s1 hx
    have h8 := (sesRun_len k st σ1 s1 hx).1
    simp only at h2
    unfold sesO at h2
    split at h2
    · obtain ⟨_, _, h6, h7, h9⟩ := sesV_len h2
      rw [h6]
      refine ⟨Nat.le_trans (aput_len2 _ _ _) (by omega), fun x hx => ?_⟩
      rcases mem_aput2 hx with hx | rfl
      · have := h5 x hx; omega
      · simp only; omega
    · cases h2

/-- What Decode says. -/
def DecP (w0 : World) (R : List Hp) (o : Option SesS) (e : Ending) (w' : World) : Prop :=
  match o with
  | none => e = .returned (.tuple #[.pointer none, .int .i64 2]) ∧ St w0 w' R
  | some σ => ∃ p, e = .returned (.tuple #[.pointer (some ⟨p, 0, none⟩), .int .i64 0]) ∧ SesSt w0 w' p σ R

theorem pd_s {w0 w : World} {H : List Hp} {g : Nat} {st : RS} (hS : St w0 w (rdc g st :: H)) : Calls Try.prog 34 #[.pointer (some ⟨g, 0, none⟩)] w fun e w' => e = .returned (.int .i64 (pD st)) ∧ St w0 w' (rdc g st :: H) := pd_c w0 w H g st hS
theorem cliRun_cons {σ : SesS} {c : Int} {cs : List Int} {st : RS} : cliRun σ (c :: cs) st = if (pI st).1 = c ∧ (pI (pI st).2).1 = (latS σ c).1 ∧ (pI (pI (pI st).2).2).1 = (latS σ c).2 then cliRun σ cs (pI (pI (pI st).2).2).2 else none := rfl
theorem dec_perm (a b c d x r : Hp) (D R : List Hp) {w0 w : World} (h : St w0 w (a :: b :: c :: d :: (D ++ x :: r :: R))) : St w0 w (r :: a :: b :: c :: d :: (D ++ R)) := by
  have h1 : St w0 w (a :: b :: c :: d :: (D ++ r :: R)) := St.sub h (.cons_cons _ (.cons_cons _ (.cons_cons _ (.cons_cons _ (.append_left (List.sublist_cons_self _ _) D)))))
  exact h1.perm (List.perm_middle (l₁ := a :: b :: c :: d :: D))
theorem DecP.no {w0 w : World} {R : List Hp} {o : Option SesS} (h : o = none) (hS : St w0 w R) : DecP w0 R o (.returned (.tuple #[.pointer none, .int .i64 2])) w := by
  subst h
  exact ⟨rfl, hS⟩
theorem DecP.yes {w0 w : World} {R : List Hp} {o : Option SesS} {σ : SesS} {p : Nat} (h : o = some σ) (hS : SesSt w0 w p σ R) : DecP w0 R o (.returned (.tuple #[.pointer (some ⟨p, 0, none⟩), .int .i64 0])) w := by
  subst h
  exact ⟨p, rfl, hS⟩

set_option maxRecDepth 100000 in
set_option maxHeartbeats 4000000 in
theorem decode_c (w0 w : World) (R : List Hp) (s : ByteArray) (hS : St w0 w R) (hs : s.data.toList.length ≤ 1000000) : Calls Try.prog 15 #[.string s] w (DecP w0 R (decS s.data.toList)) := by
  obtain ⟨L, hL⟩ : ∃ L, s.data.toList = L := ⟨_, rfl⟩
  rw [hL] at hs
  have hof : ∀ (w : World) (H : List Hp), St w0 w H → Calls Try.prog 29 #[.string s] w fun e w' => ∃ g, e = .returned (.pointer (some ⟨g, 0, none⟩)) ∧ St w0 w' (rdc g (L, false) :: H) := fun w H h => by
    have h1 := pof_c w0 w H s h
    rw [hL] at h1
    exact h1
  have HOF := Lib.hid hof
  rw [hL]
  clear hof hL
  go_enter Try.func15, Try.ntmps15
  go_upto_block 0 with (first | ((with_reducible show WGd ..); (with_reducible apply wpA_guard); exact rfl; skip) | (go_at_call 29; (with_reducible refine (HOF.out _ _ hS).mono ?_); rintro _ _ ⟨gr, rfl, hS⟩) | (go_at_call 8; (with_reducible refine (snew_c w0 _ _ hS).mono ?_); rintro _ _ ⟨p, rfl, hS⟩) | (go_at_call 30; (with_reducible refine (pi_ses hS).mono ?_); rintro _ _ ⟨rfl, hS⟩) | ((with_reducible show WLd ..); (with_reducible apply wpA_load); exact rfl; (first | ((with_reducible apply St.cellI hS); (focus repeat constructor); exact rfl) | assumption); kernel_rfl) | ((with_reducible show WSt ..); (with_reducible apply wpA_store1I hS); exact rfl; (focus repeat constructor); exact rfl; exact rfl; exact rfl; exact rfl; kernel_rfl; intro wx hS; (try simp only [Act.put, List.setIfInBounds_toArray, List.set_cons_zero, List.set_cons_succ]); (try simp only [Act.eval, Array.getD_eq_getD_getElem?, List.getElem?_toArray, List.getElem?_cons_succ, List.getElem?_cons_zero, Option.getD_some, List.set_cons_succ, List.set_cons_zero, Value.cells, List.toList_toArray] at hS)) | ((with_reducible show WBx ..); (with_reducible apply wpA_box hS); exact rfl; exact rfl; intro _ wx hS; (try simp only [Act.put, List.setIfInBounds_toArray, List.set_cons_zero, List.set_cons_succ]); (try simp only [Act.eval, Array.getD_eq_getD_getElem?, List.getElem?_toArray, List.getElem?_cons_succ, List.getElem?_cons_zero, Option.getD_some, List.set_cons_succ, List.set_cons_zero, Value.cells, List.toList_toArray] at hS)))
  obtain ⟨st1, hst1⟩ : ∃ x, (pI (L, false)).2 = x := ⟨_, rfl⟩
  obtain ⟨n, hn⟩ : ∃ x, (pI (L, false)).1 = x := ⟨_, rfl⟩
  have hl1 : st1.1.length ≤ 1000000 := by rw [← hst1]; exact Nat.le_trans (pI_len (L, false)).1 hs
  have hdec : decS L = match sesRun n.toNat st1 with
    | none => none
    | some (σ, st) =>
      if n < 0 ∨ (pI st).1 ≠ (σ.c.length : Int) ∨ 256 < (allS σ).length then none
      else match cliRun σ (clisE σ) (pI st).2 with
        | none => none
        | some st => if pD st = 0 then some σ else none := by rw [← hst1, ← hn]; rfl
  rw [hst1] at hS
  rw [hn]
  have HD := Lib.hid hdec
  clear hdec hst1 hn hs HOF
  go_cut [] (fun wr => ∃ σ st, sesRun n.toNat st1 = some (σ, st) ∧ SesSt w0 wr p σ (rdc gr st :: R))
  case first =>
    go_wp2_with (first | ((with_reducible show WGd ..); (with_reducible apply wpA_guard); exact rfl; skip) | ((with_reducible show WLd ..); (with_reducible apply wpA_load); exact rfl; (first | ((with_reducible apply St.cellI hS); (focus repeat constructor); exact rfl) | assumption); kernel_rfl) | ((with_reducible show WSt ..); (with_reducible apply wpA_store1I hS); exact rfl; (focus repeat constructor); exact rfl; exact rfl; exact rfl; exact rfl; kernel_rfl; intro wx hS; (try simp only [Act.put, List.setIfInBounds_toArray, List.set_cons_zero, List.set_cons_succ]); (try simp only [Act.eval, Array.getD_eq_getD_getElem?, List.getElem?_toArray, List.getElem?_cons_succ, List.getElem?_cons_zero, Option.getD_some, List.set_cons_succ, List.set_cons_zero, Value.cells, List.toList_toArray] at hS)) | ((with_reducible show WBx ..); (with_reducible apply wpA_box hS); exact rfl; exact rfl; intro _ wx hS; (try simp only [Act.put, List.setIfInBounds_toArray, List.set_cons_zero, List.set_cons_succ]); (try simp only [Act.eval, Array.getD_eq_getD_getElem?, List.getElem?_toArray, List.getElem?_cons_succ, List.getElem?_cons_zero, Option.getD_some, List.set_cons_succ, List.set_cons_zero, Value.cells, List.toList_toArray] at hS)))
    go_loopw [7] (fun v wr => ∃ (i : Nat) (σ : SesS) (st : RS), i ≤ n.toNat ∧ v = .int .i64 ((i : Int) + 1) ∧ sesRun i st1 = some (σ, st) ∧ SesSt w0 wr p σ (rdc gr st :: R)) (fun v _ => n.toNat + 1 - (intOf v).toNat)
    case atStart => exact ⟨0, _, _, Nat.zero_le _, rfl, rfl, hS⟩
    case round =>
      clear hS
      obtain ⟨i, σ, st, hi, rfl, hr, hS⟩ := hrel
      obtain ⟨hlen, hle⟩ := sesRun_len _ _ _ _ hr
      by_cases hlt : i < n.toNat
      · have hid : (i : Int) + 1 = (σ.l.length : Int) + 1 := by omega
        have HI := Lib.hid (And.intro hid (And.intro hr hlen))
        clear hid hr hlen
        cases ho : sesO σ st with
        | none =>
          go_wp2_with (first | ((with_reducible show WGd ..); (with_reducible apply wpA_guard); exact rfl; skip) | (go_at_call 31; (with_reducible refine (session_none hS HI.out.1 ho).mono ?_); rintro _ _ ⟨rfl, hS⟩) | ((with_reducible show WLd ..); (with_reducible apply wpA_load); exact rfl; (first | ((with_reducible apply St.cellI hS); (focus repeat constructor); exact rfl) | assumption); kernel_rfl) | ((with_reducible show WSt ..); (with_reducible apply wpA_store1I hS); exact rfl; (focus repeat constructor); exact rfl; exact rfl; exact rfl; exact rfl; kernel_rfl; intro wx hS; (try simp only [Act.put, List.setIfInBounds_toArray, List.set_cons_zero, List.set_cons_succ]); (try simp only [Act.eval, Array.getD_eq_getD_getElem?, List.getElem?_toArray, List.getElem?_cons_succ, List.getElem?_cons_zero, Option.getD_some, List.set_cons_succ, List.set_cons_zero, Value.cells, List.toList_toArray] at hS)) | ((with_reducible show WBx ..); (with_reducible apply wpA_box hS); exact rfl; exact rfl; intro _ wx hS; (try simp only [Act.put, List.setIfInBounds_toArray, List.set_cons_zero, List.set_cons_succ]); (try simp only [Act.eval, Array.getD_eq_getD_getElem?, List.getElem?_toArray, List.getElem?_cons_succ, List.getElem?_cons_zero, Option.getD_some, List.set_cons_succ, List.set_cons_zero, Value.cells, List.toList_toArray] at hS)))
          go_ret2
          refine DecP.no ?_ hS.rest.tail
          have h1 : sesRun (i + 1) st1 = none := by
            show (sesRun i st1).bind _ = none
            rw [HI.out.2.1]
            simp [ho]
          have h2 := sesRun_none (i + 1) (n.toNat - (i + 1)) st1 h1
          rw [show i + 1 + (n.toNat - (i + 1)) = n.toNat by omega] at h2
          rw [HD.out, h2]
        | some σ' =>
          go_wp2_with (first | ((with_reducible show WGd ..); (with_reducible apply wpA_guard); exact rfl; skip) | (go_at_call 31; (with_reducible refine (session_some hS HI.out.1 ho).mono ?_); rintro _ _ ⟨rfl, hS⟩) | ((with_reducible show WLd ..); (with_reducible apply wpA_load); exact rfl; (first | ((with_reducible apply St.cellI hS); (focus repeat constructor); exact rfl) | assumption); kernel_rfl) | ((with_reducible show WSt ..); (with_reducible apply wpA_store1I hS); exact rfl; (focus repeat constructor); exact rfl; exact rfl; exact rfl; exact rfl; kernel_rfl; intro wx hS; (try simp only [Act.put, List.setIfInBounds_toArray, List.set_cons_zero, List.set_cons_succ]); (try simp only [Act.eval, Array.getD_eq_getD_getElem?, List.getElem?_toArray, List.getElem?_cons_succ, List.getElem?_cons_zero, Option.getD_some, List.set_cons_succ, List.set_cons_zero, Value.cells, List.toList_toArray] at hS)) | ((with_reducible show WBx ..); (with_reducible apply wpA_box hS); exact rfl; exact rfl; intro _ wx hS; (try simp only [Act.put, List.setIfInBounds_toArray, List.set_cons_zero, List.set_cons_succ]); (try simp only [Act.eval, Array.getD_eq_getD_getElem?, List.getElem?_toArray, List.getElem?_cons_succ, List.getElem?_cons_zero, Option.getD_some, List.set_cons_succ, List.set_cons_zero, Value.cells, List.toList_toArray] at hS)))
          refine ⟨?rel, ?measure⟩
          case rel =>
            refine ⟨i + 1, σ', sesN st, by omega, by go_num, ?_, hS⟩
            show (sesRun i st1).bind _ = _
            rw [HI.out.2.1]
            simp [ho]
          case measure => simp [intOf]; omega
      · go_wp2_with (first | ((with_reducible show WGd ..); (with_reducible apply wpA_guard); exact rfl; skip) | ((with_reducible show WLd ..); (with_reducible apply wpA_load); exact rfl; (first | ((with_reducible apply St.cellI hS); (focus repeat constructor); exact rfl) | assumption); kernel_rfl) | ((with_reducible show WSt ..); (with_reducible apply wpA_store1I hS); exact rfl; (focus repeat constructor); exact rfl; exact rfl; exact rfl; exact rfl; kernel_rfl; intro wx hS; (try simp only [Act.put, List.setIfInBounds_toArray, List.set_cons_zero, List.set_cons_succ]); (try simp only [Act.eval, Array.getD_eq_getD_getElem?, List.getElem?_toArray, List.getElem?_cons_succ, List.getElem?_cons_zero, Option.getD_some, List.set_cons_succ, List.set_cons_zero, Value.cells, List.toList_toArray] at hS)) | ((with_reducible show WBx ..); (with_reducible apply wpA_box hS); exact rfl; exact rfl; intro _ wx hS; (try simp only [Act.put, List.setIfInBounds_toArray, List.set_cons_zero, List.set_cons_succ]); (try simp only [Act.eval, Array.getD_eq_getD_getElem?, List.getElem?_toArray, List.getElem?_cons_succ, List.getElem?_cons_zero, Option.getD_some, List.set_cons_succ, List.set_cons_zero, Value.cells, List.toList_toArray] at hS)))
        go_meet
        exact ⟨σ, st, by rw [show n.toNat = i by omega]; exact hr, hS⟩
  case rest =>
    clear hS
    obtain ⟨σ, st, hr, hS⟩ := hcut
    obtain ⟨hlen, hle⟩ := sesRun_len _ _ _ _ hr
    obtain ⟨hcl, hco⟩ := sesRun_c _ _ _ _ hr
    have hdec : decS L = if n < 0 ∨ (pI st).1 ≠ (σ.c.length : Int) ∨ 256 < (allS σ).length then none
      else match cliRun σ (clisE σ) (pI st).2 with
        | none => none
        | some st => if pD st = 0 then some σ else none := by rw [HD.out, hr]
    have hal := allS_len σ
    have hsl : σ.l.length ≤ 1000000 := by omega
    have hc1 : σ.c.length ≤ 1000000 := by omega
    have hcI : ∀ x ∈ σ.c, I64 x.1 := fun x hx => by have := hco x hx; unfold I64; omega
    have HCI := Lib.hid hcI
    obtain ⟨k, hk⟩ : ∃ k, (pI st).1 = k := ⟨_, rfl⟩
    obtain ⟨st2, hst2⟩ : ∃ x, (pI st).2 = x := ⟨_, rfl⟩
    rw [hk, hst2] at hdec
    have HE := Lib.hid hdec
    have HK := Lib.hid (And.intro hk hst2)
    clear HD hdec hr hlen hle hk hst2 hcl hco hcI
    by_cases n0 : n < 0
    · go_wp2_with (first | ((with_reducible show WGd ..); (with_reducible apply wpA_guard); exact rfl; skip) | (go_at_call 30; (with_reducible refine (pi_ses hS).mono ?_); rintro _ _ ⟨rfl, hS⟩) | ((with_reducible show WLd ..); (with_reducible apply wpA_load); exact rfl; (first | ((with_reducible apply St.cellI hS); (focus repeat constructor); exact rfl) | assumption); kernel_rfl) | ((with_reducible show WSt ..); (with_reducible apply wpA_store1I hS); exact rfl; (focus repeat constructor); exact rfl; exact rfl; exact rfl; exact rfl; kernel_rfl; intro wx hS; (try simp only [Act.put, List.setIfInBounds_toArray, List.set_cons_zero, List.set_cons_succ]); (try simp only [Act.eval, Array.getD_eq_getD_getElem?, List.getElem?_toArray, List.getElem?_cons_succ, List.getElem?_cons_zero, Option.getD_some, List.set_cons_succ, List.set_cons_zero, Value.cells, List.toList_toArray] at hS)) | ((with_reducible show WBx ..); (with_reducible apply wpA_box hS); exact rfl; exact rfl; intro _ wx hS; (try simp only [Act.put, List.setIfInBounds_toArray, List.set_cons_zero, List.set_cons_succ]); (try simp only [Act.eval, Array.getD_eq_getD_getElem?, List.getElem?_toArray, List.getElem?_cons_succ, List.getElem?_cons_zero, Option.getD_some, List.set_cons_succ, List.set_cons_zero, Value.cells, List.toList_toArray] at hS)))
      go_ret2
      exact DecP.no (by rw [HE.out, if_pos (.inl n0)]) hS.rest.tail
    have hn0 : decide (n < 0) = false := by simpa using n0
    go_upto_region 10 with (first | ((with_reducible show WGd ..); (with_reducible apply wpA_guard); exact rfl; skip) | (go_at_call 30; (with_reducible refine (pi_ses hS).mono ?_); rintro _ _ ⟨rfl, hS⟩) | ((with_reducible show WLd ..); (with_reducible apply wpA_load); exact rfl; (first | ((with_reducible apply St.cellI hS); (focus repeat constructor); exact rfl) | assumption); kernel_rfl) | ((with_reducible show WSt ..); (with_reducible apply wpA_store1I hS); exact rfl; (focus repeat constructor); exact rfl; exact rfl; exact rfl; exact rfl; kernel_rfl; intro wx hS; (try simp only [Act.put, List.setIfInBounds_toArray, List.set_cons_zero, List.set_cons_succ]); (try simp only [Act.eval, Array.getD_eq_getD_getElem?, List.getElem?_toArray, List.getElem?_cons_succ, List.getElem?_cons_zero, Option.getD_some, List.set_cons_succ, List.set_cons_zero, Value.cells, List.toList_toArray] at hS)) | ((with_reducible show WBx ..); (with_reducible apply wpA_box hS); exact rfl; exact rfl; intro _ wx hS; (try simp only [Act.put, List.setIfInBounds_toArray, List.set_cons_zero, List.set_cons_succ]); (try simp only [Act.eval, Array.getD_eq_getD_getElem?, List.getElem?_toArray, List.getElem?_cons_succ, List.getElem?_cons_zero, Option.getD_some, List.set_cons_succ, List.set_cons_zero, Value.cells, List.toList_toArray] at hS)))
    rw [HK.out.1]
    rw [HK.out.2] at hS
    obtain ⟨ml, mc, kl, D, hn, hlen, hS, hfin, hnew⟩ := ses_new2 hS
    have hlenC : (σ.c.map kvC).length = σ.c.length := List.length_map _
    have HF := Lib.hid hfin
    clear hn hlen hfin hnew
    by_cases k1 : k = (σ.c.length : Int)
    case neg =>
      have hkb : (k != (σ.c.length : Int)) = true := by simpa using k1
      go_wp2_with (first | ((with_reducible show WGd ..); (with_reducible apply wpA_guard); exact rfl; skip) | ((with_reducible show WLn ..); (with_reducible apply wpA_lenMap hS 2); exact rfl; exact rfl; exact Try.underlying60) | ((with_reducible show WLd ..); (with_reducible apply wpA_load); exact rfl; (first | ((with_reducible apply St.cellI hS); (focus repeat constructor); exact rfl) | assumption); kernel_rfl) | ((with_reducible show WSt ..); (with_reducible apply wpA_store1I hS); exact rfl; (focus repeat constructor); exact rfl; exact rfl; exact rfl; exact rfl; kernel_rfl; intro wx hS; (try simp only [Act.put, List.setIfInBounds_toArray, List.set_cons_zero, List.set_cons_succ]); (try simp only [Act.eval, Array.getD_eq_getD_getElem?, List.getElem?_toArray, List.getElem?_cons_succ, List.getElem?_cons_zero, Option.getD_some, List.set_cons_succ, List.set_cons_zero, Value.cells, List.toList_toArray] at hS)) | ((with_reducible show WBx ..); (with_reducible apply wpA_box hS); exact rfl; exact rfl; intro _ wx hS; (try simp only [Act.put, List.setIfInBounds_toArray, List.set_cons_zero, List.set_cons_succ]); (try simp only [Act.eval, Array.getD_eq_getD_getElem?, List.getElem?_toArray, List.getElem?_cons_succ, List.getElem?_cons_zero, Option.getD_some, List.set_cons_succ, List.set_cons_zero, Value.cells, List.toList_toArray] at hS)))
      go_ret2
      exact DecP.no (by rw [HE.out, if_pos (.inr (.inl k1))]) (HF.out _ _ hS).rest.tail
    have hkb : (k != (σ.c.length : Int)) = false := by simpa using k1
    have K1 := Lib.hid k1
    clear k1
    by_cases a1 : 256 < (allS σ).length
    case pos =>
      go_wp2_with (first | ((with_reducible show WGd ..); (with_reducible apply wpA_guard); exact rfl; skip) | ((with_reducible show WLn ..); (with_reducible apply wpA_lenMap hS 2); exact rfl; exact rfl; exact Try.underlying60) | (go_at_call 18; replace hS := HF.out _ _ hS; (with_reducible refine (all_c w0 _ _ p σ hS (by omega)).mono ?_); rintro _ _ ⟨ao, cap, rfl, hL⟩; obtain ⟨ml2, mc2, kl2, D2, hn2, hlen2, hS, hfin2, hnew2⟩ := ses_new2 hL; have HF2 := Lib.hid hfin2; clear hn2 hlen2 hfin2 hnew2 hL) | ((with_reducible show WLd ..); (with_reducible apply wpA_load); exact rfl; (first | ((with_reducible apply St.cellI hS); (focus repeat constructor); exact rfl) | assumption); kernel_rfl) | ((with_reducible show WSt ..); (with_reducible apply wpA_store1I hS); exact rfl; (focus repeat constructor); exact rfl; exact rfl; exact rfl; exact rfl; kernel_rfl; intro wx hS; (try simp only [Act.put, List.setIfInBounds_toArray, List.set_cons_zero, List.set_cons_succ]); (try simp only [Act.eval, Array.getD_eq_getD_getElem?, List.getElem?_toArray, List.getElem?_cons_succ, List.getElem?_cons_zero, Option.getD_some, List.set_cons_succ, List.set_cons_zero, Value.cells, List.toList_toArray] at hS)) | ((with_reducible show WBx ..); (with_reducible apply wpA_box hS); exact rfl; exact rfl; intro _ wx hS; (try simp only [Act.put, List.setIfInBounds_toArray, List.set_cons_zero, List.set_cons_succ]); (try simp only [Act.eval, Array.getD_eq_getD_getElem?, List.getElem?_toArray, List.getElem?_cons_succ, List.getElem?_cons_zero, Option.getD_some, List.set_cons_succ, List.set_cons_zero, Value.cells, List.toList_toArray] at hS)))
      go_ret2
      exact DecP.no (by rw [HE.out, if_pos (.inr (.inr a1))]) (HF2.out _ _ hS).rest.tail.tail
    have hdec : decS L = match cliRun σ (clisE σ) st2 with
        | none => none
        | some st => if pD st = 0 then some σ else none := by rw [HE.out, if_neg (by rintro (h | h | h); omega; exact h K1.out; omega)]
    have HE2 := Lib.hid hdec
    clear hdec HE
    go_upto_region 12 with (first | ((with_reducible show WGd ..); (with_reducible apply wpA_guard); exact rfl; skip) | ((with_reducible show WLn ..); (with_reducible apply wpA_lenMap hS 2); exact rfl; exact rfl; exact Try.underlying60) | (go_at_call 18; replace hS := HF.out _ _ hS; (with_reducible refine (all_c w0 _ _ p σ hS (by omega)).mono ?_); rintro _ _ ⟨ao, cap, rfl, hL⟩; obtain ⟨ml2, mc2, kl2, D2, hn2, hlen2, hS, hfin2, hnew2⟩ := ses_new2 hL; have HF2 := Lib.hid hfin2; clear hn2 hlen2 hfin2 hnew2 hL) | ((with_reducible show WLd ..); (with_reducible apply wpA_load); exact rfl; (first | ((with_reducible apply St.cellI hS); (focus repeat constructor); exact rfl) | assumption); kernel_rfl) | ((with_reducible show WSt ..); (with_reducible apply wpA_store1I hS); exact rfl; (focus repeat constructor); exact rfl; exact rfl; exact rfl; exact rfl; kernel_rfl; intro wx hS; (try simp only [Act.put, List.setIfInBounds_toArray, List.set_cons_zero, List.set_cons_succ]); (try simp only [Act.eval, Array.getD_eq_getD_getElem?, List.getElem?_toArray, List.getElem?_cons_succ, List.getElem?_cons_zero, Option.getD_some, List.set_cons_succ, List.set_cons_zero, Value.cells, List.toList_toArray] at hS)) | ((with_reducible show WBx ..); (with_reducible apply wpA_box hS); exact rfl; exact rfl; intro _ wx hS; (try simp only [Act.put, List.setIfInBounds_toArray, List.set_cons_zero, List.set_cons_succ]); (try simp only [Act.eval, Array.getD_eq_getD_getElem?, List.getElem?_toArray, List.getElem?_cons_succ, List.getElem?_cons_zero, Option.getD_some, List.set_cons_succ, List.set_cons_zero, Value.cells, List.toList_toArray] at hS)))
    obtain ⟨N, hN⟩ : ∃ N, clisE σ = N := ⟨_, rfl⟩
    have hNl : N.length = σ.c.length := by rw [← hN, (clisE_perm σ).length_eq, List.length_map]
    have hsrt : ∀ (w : World) (H : List Hp), St w0 w (sc p ml2 mc2 :: .mp ml2 (.int .i64) kl2 :: .mp mc2 (.int .i64) (σ.c.map kvC) :: H) → Calls Try.prog 32 #[.func (.func 48) #[] #[.pointer (some ⟨w.heap.size, 0, none⟩)]] (w.alloc (.cells #[.map (some mc2)] 60)) fun e w' =>
        ∃ ao cap, e = .returned (.slice ao N.length cap) ∧ St w0 w' (.row 3 1 ao N.length cap (N.map (Value.int .i64)) :: sc p ml2 mc2 :: .mp ml2 (.int .i64) kl2 :: .mp mc2 (.int .i64) (σ.c.map kvC) :: H) := by
      intro w H h
      have h1 := sorted_keysI_c h 2 (names := σ.c.map (·.1)) rfl (by rw [List.map_map, List.map_map]; rfl) (by rw [List.length_map]; omega) (fun s hs => by
        obtain ⟨x, hx, rfl⟩ := List.mem_map.1 hs
        have h2 := HCI.out x hx
        unfold I64 at h2
        simp [Lit.wf, IntKind.min, IntKind.max, IntKind.signed, IntKind.bits]
        omega)
      have h2 : sortIK (σ.c.map (·.1)) = N := hN
      rw [h2, List.length_map, ← hNl] at h1
      exact h1
    have HSR := Lib.hid hsrt
    have hNb : N.length ≤ 1000000 := by omega
    rw [hN] at HE2
    clear hsrt hN hNl
    go_upto_region 13 with (first | ((with_reducible show WGd ..); (with_reducible apply wpA_guard); exact rfl; skip) | (go_at_call 33; (with_reducible refine (callsIn_wide.1 (Try.imaps_Keys_33 (some mc2) _)).mono ?_); rintro _ _ ⟨rfl, rfl⟩) | (go_at_call 32; refine (HSR.out _ _ hS).mono ?_; rintro _ wx ⟨aN, capN, rfl, hS⟩) | ((with_reducible show WLd ..); (with_reducible apply wpA_load); exact rfl; (first | ((with_reducible apply St.cellI hS); (focus repeat constructor); exact rfl) | assumption); kernel_rfl) | ((with_reducible show WSt ..); (with_reducible apply wpA_store1I hS); exact rfl; (focus repeat constructor); exact rfl; exact rfl; exact rfl; exact rfl; kernel_rfl; intro wx hS; (try simp only [Act.put, List.setIfInBounds_toArray, List.set_cons_zero, List.set_cons_succ]); (try simp only [Act.eval, Array.getD_eq_getD_getElem?, List.getElem?_toArray, List.getElem?_cons_succ, List.getElem?_cons_zero, Option.getD_some, List.set_cons_succ, List.set_cons_zero, Value.cells, List.toList_toArray] at hS)) | ((with_reducible show WBx ..); (with_reducible apply wpA_box hS); exact rfl; exact rfl; intro _ wx hS; (try simp only [Act.put, List.setIfInBounds_toArray, List.set_cons_zero, List.set_cons_succ]); (try simp only [Act.eval, Array.getD_eq_getD_getElem?, List.getElem?_toArray, List.getElem?_cons_succ, List.getElem?_cons_zero, Option.getD_some, List.set_cons_succ, List.set_cons_zero, Value.cells, List.toList_toArray] at hS)))
    replace hS := dec_perm _ _ _ _ _ _ _ _ hS
    go_loopw [53] (fun v wr => ∃ (i : Nat) (st : RS), i ≤ N.length ∧ v = .int .i64 i ∧ Hid (cliRun σ (N.drop i) st = cliRun σ N st2) ∧ St w0 wr (rdc gr st :: .row 3 1 aN N.length capN (N.map (Value.int .i64)) :: sc p ml2 mc2 :: .mp ml2 (.int .i64) kl2 :: .mp mc2 (.int .i64) (σ.c.map kvC) :: (D2 ++ R))) (fun v _ => N.length - (intOf v).toNat)
    case atStart => exact ⟨0, st2, Nat.zero_le _, rfl, Lib.hid rfl, hS⟩
    case round =>
      clear hS
      obtain ⟨i, sq, hi, rfl, HQ, hS⟩ := hrel
      by_cases hlt : i < N.length
      · obtain ⟨c, hc⟩ : ∃ c, N[i]? = some c := ⟨_, List.getElem?_eq_getElem hlt⟩
        rcases row_head (hS.at_ 1 rfl) with ⟨_, hh, _⟩ | ⟨⟨gN, rfl⟩, _⟩
        · omega
        have hdr : N.drop i = c :: N.drop (i + 1) := by
          rw [List.drop_eq_getElem_cons hlt]
          congr 1
          exact (List.getElem?_eq_some_iff.1 hc).2
        have HC : Hid ((N.map (Value.int .i64))[i]? = some (.int .i64 c)) := Lib.hid (by rw [List.getElem?_map, hc]; rfl)
        have hq := HQ.out
        rw [hdr, cliRun_cons] at hq
        have HQ2 := Lib.hid hq
        clear hc hdr hq HQ
        by_cases hm : (pI sq).1 = c ∧ (pI (pI sq).2).1 = (latS σ c).1 ∧ (pI (pI (pI sq).2).2).1 = (latS σ c).2
        · have hb : (!((pI sq).1 == c && (pI (pI sq).2).1 == (latS σ c).1 && (pI (pI (pI sq).2).2).1 == (latS σ c).2)) = false := by simp [hm]
          have HB := Lib.hid hb
          have HM := Lib.hid hm
          clear hm hb
          go_upto_region 16 with (first | ((with_reducible show WGd ..); (with_reducible apply wpA_guard); exact rfl; skip) | ((with_reducible show WLd ..); (with_reducible apply wpA_load); exact rfl; exact row_cell (hS.at_ 1 rfl) i HC.out; kernel_rfl) | (go_at_call 30; (with_reducible refine (pi_s hS).mono ?_); rintro _ _ ⟨rfl, hS⟩) | ((first | ((with_reducible show WAl ..); (with_reducible apply wpA_alloc (t := 79) hS (v := .agg #[.int .i64 0, .int .i64 0, .int .i64 0])); kernel_rfl; exact rfl; intro _ wx hS) | ((with_reducible show WBx ..); (with_reducible apply wpA_box hS); exact rfl; exact rfl; intro _ wx hS)); (try simp only [Act.put, List.setIfInBounds_toArray, List.set_cons_zero, List.set_cons_succ]); (try simp only [Act.eval, Array.getD_eq_getD_getElem?, List.getElem?_toArray, List.getElem?_cons_succ, List.getElem?_cons_zero, Option.getD_some, List.set_cons_succ, List.set_cons_zero, Value.cells, List.toList_toArray] at hS)) | ((with_reducible show WLd ..); (with_reducible apply wpA_loadN (t := 79)); exact rfl; ((with_reducible apply Hp.rangeI hS (n := 3)); (focus repeat constructor)); kernel_rfl; kernel_rfl; (try simp only [Act.put, List.setIfInBounds_toArray, List.set_cons_zero, List.set_cons_succ])) | ((with_reducible show WSt ..); (with_reducible apply wpA_storeI hS); exact rfl; (focus repeat constructor); exact rfl; exact rfl; exact rfl; exact (Nat.le_of_ble_eq_true rfl); kernel_rfl; intro wx hS; (try simp only [Act.put, List.setIfInBounds_toArray, List.set_cons_zero, List.set_cons_succ]); (try simp only [Act.eval, Array.getD_eq_getD_getElem?, List.getElem?_toArray, List.getElem?_cons_succ, List.getElem?_cons_zero, Option.getD_some, List.set_cons_succ, List.set_cons_zero, Value.cells, List.toList_toArray] at hS); (try simp only [List.take_zero, List.take_succ_cons, List.nil_append, List.cons_append, List.length_cons, List.length_nil, Nat.reduceAdd, Nat.zero_add, List.drop_succ_cons, List.drop_zero, List.drop_nil, List.append_nil] at hS)) | ((with_reducible show WLd ..); (with_reducible apply wpA_load); exact rfl; (first | ((with_reducible apply St.cellI hS); (focus repeat constructor); exact rfl) | assumption); kernel_rfl) | ((with_reducible show WSt ..); (with_reducible apply wpA_store1I hS); exact rfl; (focus repeat constructor); exact rfl; exact rfl; exact rfl; exact rfl; kernel_rfl; intro wx hS; (try simp only [Act.put, List.setIfInBounds_toArray, List.set_cons_zero, List.set_cons_succ]); (try simp only [Act.eval, Array.getD_eq_getD_getElem?, List.getElem?_toArray, List.getElem?_cons_succ, List.getElem?_cons_zero, Option.getD_some, List.set_cons_succ, List.set_cons_zero, Value.cells, List.toList_toArray] at hS)))
          refine wp_region_St hS (by kernel_rfl) (by kernel_rfl) (Bx.out ?_)
          refine bQ_val (.agg #[.int .i64 (pI sq).1, .int .i64 (pI (pI sq).2).1, .int .i64 (pI (pI (pI sq).2).2).1]) rfl (fun w hS => by exact exec_loadN_val rfl (Hp.range hS 0 rfl 0 3) (by kernel_rfl) (by kernel_rfl)) ?_
          (simp only [Act.put, List.setIfInBounds_toArray, List.set_cons_zero, List.set_cons_succ])
          refine bQ_val ?_ rfl ?_ ?_
          rotate_left
          · intro w hS; go_simp; (first | done | (with_reducible rfl) | (refine (if_pos ?_).trans ?_; (focus omega); with_reducible rfl) | skip)
          (simp only [Act.put, List.setIfInBounds_toArray, List.set_cons_zero, List.set_cons_succ])
          refine bQ_val ?_ rfl ?_ ?_
          rotate_left
          · intro w hS; go_simp; (first | done | (with_reducible rfl) | (refine (if_pos ?_).trans ?_; (focus omega); with_reducible rfl) | skip)
          (simp only [Act.put, List.setIfInBounds_toArray, List.set_cons_zero, List.set_cons_succ])
          refine bQ_val ?_ rfl ?_ ?_
          rotate_left
          · intro w hS; go_simp; (first | done | (with_reducible rfl) | (refine (if_pos ?_).trans ?_; (focus omega); with_reducible rfl) | skip)
          (simp only [Act.put, List.setIfInBounds_toArray, List.set_cons_zero, List.set_cons_succ])
          refine bQ_val ?_ rfl ?_ ?_
          rotate_left
          · intro w hS; go_simp; (first | done | (with_reducible rfl) | (refine (if_pos ?_).trans ?_; (focus omega); with_reducible rfl) | skip)
          (simp only [Act.put, List.setIfInBounds_toArray, List.set_cons_zero, List.set_cons_succ])
          refine bQ_load rfl (fun w hS => by (first | ((with_reducible apply St.cellI hS); (focus repeat constructor); exact rfl) | assumption)) (by kernel_rfl) ?_
          (simp only [Act.put, List.setIfInBounds_toArray, List.set_cons_zero, List.set_cons_succ])
          refine bQ_val ?_ rfl ?_ ?_
          rotate_left
          · intro w hS; go_simp; (first | done | (with_reducible rfl) | (refine (if_pos ?_).trans ?_; (focus omega); with_reducible rfl) | skip)
          (simp only [Act.put, List.setIfInBounds_toArray, List.set_cons_zero, List.set_cons_succ])
          refine bQ_val (.agg #[.int .i64 (latS σ c).1, .int .i64 (latS σ c).2]) rfl (fun w hS => by exact exec_lookup_val rfl rfl (lat_run σ c (hS.at_ 5 rfl))) ?_
          (simp only [Act.put, List.setIfInBounds_toArray, List.set_cons_zero, List.set_cons_succ])
          refine bQ_val (.int .i64 (latS σ c).1) rfl (fun w hS => by exact exec_field_val rfl rfl (by kernel_rfl)) ?_
          (simp only [Act.put, List.setIfInBounds_toArray, List.set_cons_zero, List.set_cons_succ])
          refine bQ_val ?_ rfl ?_ ?_
          rotate_left
          · intro w hS; go_simp; (first | done | (with_reducible rfl) | (refine (if_pos ?_).trans ?_; (focus omega); with_reducible rfl) | skip)
          (simp only [Act.put, List.setIfInBounds_toArray, List.set_cons_zero, List.set_cons_succ])
          refine bQ_val ?_ rfl ?_ ?_
          rotate_left
          · intro w hS; go_simp; (first | done | (with_reducible rfl) | (refine (if_pos ?_).trans ?_; (focus omega); with_reducible rfl) | skip)
          (simp only [Act.put, List.setIfInBounds_toArray, List.set_cons_zero, List.set_cons_succ])
          refine bQ_val ?_ rfl ?_ ?_
          rotate_left
          · intro w hS; go_simp; (first | done | (with_reducible rfl) | (refine (if_pos ?_).trans ?_; (focus omega); with_reducible rfl) | skip)
          (simp only [Act.put, List.setIfInBounds_toArray, List.set_cons_zero, List.set_cons_succ])
          refine bQ_load rfl (fun w hS => by (first | ((with_reducible apply St.cellI hS); (focus repeat constructor); exact rfl) | assumption)) (by kernel_rfl) ?_
          (simp only [Act.put, List.setIfInBounds_toArray, List.set_cons_zero, List.set_cons_succ])
          refine bQ_val ?_ rfl ?_ ?_
          rotate_left
          · intro w hS; go_simp; (first | done | (with_reducible rfl) | (refine (if_pos ?_).trans ?_; (focus omega); with_reducible rfl) | skip)
          (simp only [Act.put, List.setIfInBounds_toArray, List.set_cons_zero, List.set_cons_succ])
          refine bQ_val (.agg #[.int .i64 (latS σ c).1, .int .i64 (latS σ c).2]) rfl (fun w hS => by exact exec_lookup_val rfl rfl (lat_run σ c (hS.at_ 5 rfl))) ?_
          (simp only [Act.put, List.setIfInBounds_toArray, List.set_cons_zero, List.set_cons_succ])
          refine bQ_val (.int .i64 (latS σ c).2) rfl (fun w hS => by exact exec_field_val rfl rfl (by kernel_rfl)) ?_
          (simp only [Act.put, List.setIfInBounds_toArray, List.set_cons_zero, List.set_cons_succ])
          refine bQ_val ?_ rfl ?_ ?_
          rotate_left
          · intro w hS; go_simp; (first | done | (with_reducible rfl) | (refine (if_pos ?_).trans ?_; (focus omega); with_reducible rfl) | skip)
          (simp only [Act.put, List.setIfInBounds_toArray, List.set_cons_zero, List.set_cons_succ])
          refine bQ_val (.bool false) rfl (fun w hS => by exact (exec_neq3 rfl rfl Try.underlying79 Try.underlying3 (by kernel_rfl) (by kernel_rfl)).trans (by rw [HB.out])) ?_
          (simp only [Act.put, List.setIfInBounds_toArray, List.set_cons_zero, List.set_cons_succ])
          refine ⟨wpQuiet_nil ?_⟩
          intro wx hS
          go_wp2_with (first | ((with_reducible show WGd ..); (with_reducible apply wpA_guard); exact rfl; skip) | ((with_reducible show WLd ..); (with_reducible apply wpA_load); exact rfl; (first | ((with_reducible apply St.cellI hS); (focus repeat constructor); exact rfl) | assumption); kernel_rfl) | ((with_reducible show WSt ..); (with_reducible apply wpA_store1I hS); exact rfl; (focus repeat constructor); exact rfl; exact rfl; exact rfl; exact rfl; kernel_rfl; intro wx hS; (try simp only [Act.put, List.setIfInBounds_toArray, List.set_cons_zero, List.set_cons_succ]); (try simp only [Act.eval, Array.getD_eq_getD_getElem?, List.getElem?_toArray, List.getElem?_cons_succ, List.getElem?_cons_zero, Option.getD_some, List.set_cons_succ, List.set_cons_zero, Value.cells, List.toList_toArray] at hS)) | ((with_reducible show WBx ..); (with_reducible apply wpA_box hS); exact rfl; exact rfl; intro _ wx hS; (try simp only [Act.put, List.setIfInBounds_toArray, List.set_cons_zero, List.set_cons_succ]); (try simp only [Act.eval, Array.getD_eq_getD_getElem?, List.getElem?_toArray, List.getElem?_cons_succ, List.getElem?_cons_zero, Option.getD_some, List.set_cons_succ, List.set_cons_zero, Value.cells, List.toList_toArray] at hS)))
          refine ⟨?rel, ?measure⟩
          case rel =>
            refine ⟨i + 1, (pI (pI (pI sq).2).2).2, by omega, by go_num, Lib.hid ?_, ?_⟩
            · have hq := HQ2.out
              rw [if_pos HM.out] at hq
              exact hq
            · ((try simp only [List.set_cons_succ, List.set_cons_zero] at hS); replace hS := hS.sel [1, 2, 3, 4, 5] 6 (by decide) (by decide) (by simp); simp only [List.filterMap_cons, List.filterMap_nil, List.getElem?_cons_succ, List.getElem?_cons_zero, List.drop_succ_cons, List.drop_zero, List.cons_append, List.nil_append] at hS)
              exact hS
          case measure => simp [intOf]; omega
        · have hb : (!((pI sq).1 == c && (pI (pI sq).2).1 == (latS σ c).1 && (pI (pI (pI sq).2).2).1 == (latS σ c).2)) = true := by
            rw [Bool.not_eq_true', Bool.eq_false_iff]
            intro h
            simp only [Bool.and_eq_true, beq_iff_eq, and_assoc] at h
            exact hm h
          have HB := Lib.hid hb
          have HM := Lib.hid hm
          clear hm hb
          go_upto_region 16 with (first | ((with_reducible show WGd ..); (with_reducible apply wpA_guard); exact rfl; skip) | ((with_reducible show WLd ..); (with_reducible apply wpA_load); exact rfl; exact row_cell (hS.at_ 1 rfl) i HC.out; kernel_rfl) | (go_at_call 30; (with_reducible refine (pi_s hS).mono ?_); rintro _ _ ⟨rfl, hS⟩) | ((first | ((with_reducible show WAl ..); (with_reducible apply wpA_alloc (t := 79) hS (v := .agg #[.int .i64 0, .int .i64 0, .int .i64 0])); kernel_rfl; exact rfl; intro _ wx hS) | ((with_reducible show WBx ..); (with_reducible apply wpA_box hS); exact rfl; exact rfl; intro _ wx hS)); (try simp only [Act.put, List.setIfInBounds_toArray, List.set_cons_zero, List.set_cons_succ]); (try simp only [Act.eval, Array.getD_eq_getD_getElem?, List.getElem?_toArray, List.getElem?_cons_succ, List.getElem?_cons_zero, Option.getD_some, List.set_cons_succ, List.set_cons_zero, Value.cells, List.toList_toArray] at hS)) | ((with_reducible show WLd ..); (with_reducible apply wpA_loadN (t := 79)); exact rfl; ((with_reducible apply Hp.rangeI hS (n := 3)); (focus repeat constructor)); kernel_rfl; kernel_rfl; (try simp only [Act.put, List.setIfInBounds_toArray, List.set_cons_zero, List.set_cons_succ])) | ((with_reducible show WSt ..); (with_reducible apply wpA_storeI hS); exact rfl; (focus repeat constructor); exact rfl; exact rfl; exact rfl; exact (Nat.le_of_ble_eq_true rfl); kernel_rfl; intro wx hS; (try simp only [Act.put, List.setIfInBounds_toArray, List.set_cons_zero, List.set_cons_succ]); (try simp only [Act.eval, Array.getD_eq_getD_getElem?, List.getElem?_toArray, List.getElem?_cons_succ, List.getElem?_cons_zero, Option.getD_some, List.set_cons_succ, List.set_cons_zero, Value.cells, List.toList_toArray] at hS); (try simp only [List.take_zero, List.take_succ_cons, List.nil_append, List.cons_append, List.length_cons, List.length_nil, Nat.reduceAdd, Nat.zero_add, List.drop_succ_cons, List.drop_zero, List.drop_nil, List.append_nil] at hS)) | ((with_reducible show WLd ..); (with_reducible apply wpA_load); exact rfl; (first | ((with_reducible apply St.cellI hS); (focus repeat constructor); exact rfl) | assumption); kernel_rfl) | ((with_reducible show WSt ..); (with_reducible apply wpA_store1I hS); exact rfl; (focus repeat constructor); exact rfl; exact rfl; exact rfl; exact rfl; kernel_rfl; intro wx hS; (try simp only [Act.put, List.setIfInBounds_toArray, List.set_cons_zero, List.set_cons_succ]); (try simp only [Act.eval, Array.getD_eq_getD_getElem?, List.getElem?_toArray, List.getElem?_cons_succ, List.getElem?_cons_zero, Option.getD_some, List.set_cons_succ, List.set_cons_zero, Value.cells, List.toList_toArray] at hS)))
          refine wp_region_St hS (by kernel_rfl) (by kernel_rfl) (Bx.out ?_)
          refine bQ_val (.agg #[.int .i64 (pI sq).1, .int .i64 (pI (pI sq).2).1, .int .i64 (pI (pI (pI sq).2).2).1]) rfl (fun w hS => by exact exec_loadN_val rfl (Hp.range hS 0 rfl 0 3) (by kernel_rfl) (by kernel_rfl)) ?_
          (simp only [Act.put, List.setIfInBounds_toArray, List.set_cons_zero, List.set_cons_succ])
          refine bQ_val ?_ rfl ?_ ?_
          rotate_left
          · intro w hS; go_simp; (first | done | (with_reducible rfl) | (refine (if_pos ?_).trans ?_; (focus omega); with_reducible rfl) | skip)
          (simp only [Act.put, List.setIfInBounds_toArray, List.set_cons_zero, List.set_cons_succ])
          refine bQ_val ?_ rfl ?_ ?_
          rotate_left
          · intro w hS; go_simp; (first | done | (with_reducible rfl) | (refine (if_pos ?_).trans ?_; (focus omega); with_reducible rfl) | skip)
          (simp only [Act.put, List.setIfInBounds_toArray, List.set_cons_zero, List.set_cons_succ])
          refine bQ_val ?_ rfl ?_ ?_
          rotate_left
          · intro w hS; go_simp; (first | done | (with_reducible rfl) | (refine (if_pos ?_).trans ?_; (focus omega); with_reducible rfl) | skip)
          (simp only [Act.put, List.setIfInBounds_toArray, List.set_cons_zero, List.set_cons_succ])
          refine bQ_val ?_ rfl ?_ ?_
          rotate_left
          · intro w hS; go_simp; (first | done | (with_reducible rfl) | (refine (if_pos ?_).trans ?_; (focus omega); with_reducible rfl) | skip)
          (simp only [Act.put, List.setIfInBounds_toArray, List.set_cons_zero, List.set_cons_succ])
          refine bQ_load rfl (fun w hS => by (first | ((with_reducible apply St.cellI hS); (focus repeat constructor); exact rfl) | assumption)) (by kernel_rfl) ?_
          (simp only [Act.put, List.setIfInBounds_toArray, List.set_cons_zero, List.set_cons_succ])
          refine bQ_val ?_ rfl ?_ ?_
          rotate_left
          · intro w hS; go_simp; (first | done | (with_reducible rfl) | (refine (if_pos ?_).trans ?_; (focus omega); with_reducible rfl) | skip)
          (simp only [Act.put, List.setIfInBounds_toArray, List.set_cons_zero, List.set_cons_succ])
          refine bQ_val (.agg #[.int .i64 (latS σ c).1, .int .i64 (latS σ c).2]) rfl (fun w hS => by exact exec_lookup_val rfl rfl (lat_run σ c (hS.at_ 5 rfl))) ?_
          (simp only [Act.put, List.setIfInBounds_toArray, List.set_cons_zero, List.set_cons_succ])
          refine bQ_val (.int .i64 (latS σ c).1) rfl (fun w hS => by exact exec_field_val rfl rfl (by kernel_rfl)) ?_
          (simp only [Act.put, List.setIfInBounds_toArray, List.set_cons_zero, List.set_cons_succ])
          refine bQ_val ?_ rfl ?_ ?_
          rotate_left
          · intro w hS; go_simp; (first | done | (with_reducible rfl) | (refine (if_pos ?_).trans ?_; (focus omega); with_reducible rfl) | skip)
          (simp only [Act.put, List.setIfInBounds_toArray, List.set_cons_zero, List.set_cons_succ])
          refine bQ_val ?_ rfl ?_ ?_
          rotate_left
          · intro w hS; go_simp; (first | done | (with_reducible rfl) | (refine (if_pos ?_).trans ?_; (focus omega); with_reducible rfl) | skip)
          (simp only [Act.put, List.setIfInBounds_toArray, List.set_cons_zero, List.set_cons_succ])
          refine bQ_val ?_ rfl ?_ ?_
          rotate_left
          · intro w hS; go_simp; (first | done | (with_reducible rfl) | (refine (if_pos ?_).trans ?_; (focus omega); with_reducible rfl) | skip)
          (simp only [Act.put, List.setIfInBounds_toArray, List.set_cons_zero, List.set_cons_succ])
          refine bQ_load rfl (fun w hS => by (first | ((with_reducible apply St.cellI hS); (focus repeat constructor); exact rfl) | assumption)) (by kernel_rfl) ?_
          (simp only [Act.put, List.setIfInBounds_toArray, List.set_cons_zero, List.set_cons_succ])
          refine bQ_val ?_ rfl ?_ ?_
          rotate_left
          · intro w hS; go_simp; (first | done | (with_reducible rfl) | (refine (if_pos ?_).trans ?_; (focus omega); with_reducible rfl) | skip)
          (simp only [Act.put, List.setIfInBounds_toArray, List.set_cons_zero, List.set_cons_succ])
          refine bQ_val (.agg #[.int .i64 (latS σ c).1, .int .i64 (latS σ c).2]) rfl (fun w hS => by exact exec_lookup_val rfl rfl (lat_run σ c (hS.at_ 5 rfl))) ?_
          (simp only [Act.put, List.setIfInBounds_toArray, List.set_cons_zero, List.set_cons_succ])
          refine bQ_val (.int .i64 (latS σ c).2) rfl (fun w hS => by exact exec_field_val rfl rfl (by kernel_rfl)) ?_
          (simp only [Act.put, List.setIfInBounds_toArray, List.set_cons_zero, List.set_cons_succ])
          refine bQ_val ?_ rfl ?_ ?_
          rotate_left
          · intro w hS; go_simp; (first | done | (with_reducible rfl) | (refine (if_pos ?_).trans ?_; (focus omega); with_reducible rfl) | skip)
          (simp only [Act.put, List.setIfInBounds_toArray, List.set_cons_zero, List.set_cons_succ])
          refine bQ_val (.bool true) rfl (fun w hS => by exact (exec_neq3 rfl rfl Try.underlying79 Try.underlying3 (by kernel_rfl) (by kernel_rfl)).trans (by rw [HB.out])) ?_
          (simp only [Act.put, List.setIfInBounds_toArray, List.set_cons_zero, List.set_cons_succ])
          refine ⟨wpQuiet_nil ?_⟩
          intro wx hS
          go_wp2_with (first | ((with_reducible show WGd ..); (with_reducible apply wpA_guard); exact rfl; skip) | ((with_reducible show WLd ..); (with_reducible apply wpA_load); exact rfl; (first | ((with_reducible apply St.cellI hS); (focus repeat constructor); exact rfl) | assumption); kernel_rfl) | ((with_reducible show WSt ..); (with_reducible apply wpA_store1I hS); exact rfl; (focus repeat constructor); exact rfl; exact rfl; exact rfl; exact rfl; kernel_rfl; intro wx hS; (try simp only [Act.put, List.setIfInBounds_toArray, List.set_cons_zero, List.set_cons_succ]); (try simp only [Act.eval, Array.getD_eq_getD_getElem?, List.getElem?_toArray, List.getElem?_cons_succ, List.getElem?_cons_zero, Option.getD_some, List.set_cons_succ, List.set_cons_zero, Value.cells, List.toList_toArray] at hS)) | ((with_reducible show WBx ..); (with_reducible apply wpA_box hS); exact rfl; exact rfl; intro _ wx hS; (try simp only [Act.put, List.setIfInBounds_toArray, List.set_cons_zero, List.set_cons_succ]); (try simp only [Act.eval, Array.getD_eq_getD_getElem?, List.getElem?_toArray, List.getElem?_cons_succ, List.getElem?_cons_zero, Option.getD_some, List.set_cons_succ, List.set_cons_zero, Value.cells, List.toList_toArray] at hS)))
          go_ret2
          refine DecP.no ?_ (SesSt.rest (HF2.out _ R (by ((try simp only [List.set_cons_succ, List.set_cons_zero] at hS); replace hS := hS.sel [3, 4, 5] 6 (by decide) (by decide) (by simp); simp only [List.filterMap_cons, List.filterMap_nil, List.getElem?_cons_succ, List.getElem?_cons_zero, List.drop_succ_cons, List.drop_zero, List.cons_append, List.nil_append] at hS); exact hS)))
          have hq := HQ2.out
          rw [if_neg HM.out] at hq
          rw [HE2.out, ← hq]
      · obtain rfl : i = N.length := by omega
        have hq := HQ.out
        rw [List.drop_length] at hq
        have hq2 : cliRun σ N st2 = some sq := hq.symm
        have hdec : decS L = if pD sq = 0 then some σ else none := by rw [HE2.out, hq2]
        have HE3 := Lib.hid hdec
        clear hdec hq2 hq HQ HE2
        by_cases hd0 : pD sq = 0
        · have hb : (pD sq != 0) = false := by simpa using hd0
          go_wp2_with (first | ((with_reducible show WGd ..); (with_reducible apply wpA_guard); exact rfl; skip) | (go_at_call 34; (with_reducible refine (pd_s hS).mono ?_); rintro _ _ ⟨rfl, hS⟩) | ((with_reducible show WLd ..); (with_reducible apply wpA_load); exact rfl; (first | ((with_reducible apply St.cellI hS); (focus repeat constructor); exact rfl) | assumption); kernel_rfl) | ((with_reducible show WSt ..); (with_reducible apply wpA_store1I hS); exact rfl; (focus repeat constructor); exact rfl; exact rfl; exact rfl; exact rfl; kernel_rfl; intro wx hS; (try simp only [Act.put, List.setIfInBounds_toArray, List.set_cons_zero, List.set_cons_succ]); (try simp only [Act.eval, Array.getD_eq_getD_getElem?, List.getElem?_toArray, List.getElem?_cons_succ, List.getElem?_cons_zero, Option.getD_some, List.set_cons_succ, List.set_cons_zero, Value.cells, List.toList_toArray] at hS)) | ((with_reducible show WBx ..); (with_reducible apply wpA_box hS); exact rfl; exact rfl; intro _ wx hS; (try simp only [Act.put, List.setIfInBounds_toArray, List.set_cons_zero, List.set_cons_succ]); (try simp only [Act.eval, Array.getD_eq_getD_getElem?, List.getElem?_toArray, List.getElem?_cons_succ, List.getElem?_cons_zero, Option.getD_some, List.set_cons_succ, List.set_cons_zero, Value.cells, List.toList_toArray] at hS)))
          go_ret2
          exact DecP.yes (by rw [HE3.out, if_pos hd0]) (HF2.out _ R (by ((try simp only [List.set_cons_succ, List.set_cons_zero] at hS); replace hS := hS.sel [2, 3, 4] 5 (by decide) (by decide) (by simp); simp only [List.filterMap_cons, List.filterMap_nil, List.getElem?_cons_succ, List.getElem?_cons_zero, List.drop_succ_cons, List.drop_zero, List.cons_append, List.nil_append] at hS); exact hS))
        · have hb : (pD sq != 0) = true := by simpa using hd0
          go_wp2_with (first | ((with_reducible show WGd ..); (with_reducible apply wpA_guard); exact rfl; skip) | (go_at_call 34; (with_reducible refine (pd_s hS).mono ?_); rintro _ _ ⟨rfl, hS⟩) | ((with_reducible show WLd ..); (with_reducible apply wpA_load); exact rfl; (first | ((with_reducible apply St.cellI hS); (focus repeat constructor); exact rfl) | assumption); kernel_rfl) | ((with_reducible show WSt ..); (with_reducible apply wpA_store1I hS); exact rfl; (focus repeat constructor); exact rfl; exact rfl; exact rfl; exact rfl; kernel_rfl; intro wx hS; (try simp only [Act.put, List.setIfInBounds_toArray, List.set_cons_zero, List.set_cons_succ]); (try simp only [Act.eval, Array.getD_eq_getD_getElem?, List.getElem?_toArray, List.getElem?_cons_succ, List.getElem?_cons_zero, Option.getD_some, List.set_cons_succ, List.set_cons_zero, Value.cells, List.toList_toArray] at hS)) | ((with_reducible show WBx ..); (with_reducible apply wpA_box hS); exact rfl; exact rfl; intro _ wx hS; (try simp only [Act.put, List.setIfInBounds_toArray, List.set_cons_zero, List.set_cons_succ]); (try simp only [Act.eval, Array.getD_eq_getD_getElem?, List.getElem?_toArray, List.getElem?_cons_succ, List.getElem?_cons_zero, Option.getD_some, List.set_cons_succ, List.set_cons_zero, Value.cells, List.toList_toArray] at hS)))
          go_ret2
          exact DecP.no (by rw [HE3.out, if_neg hd0]) (SesSt.rest (HF2.out _ R (by ((try simp only [List.set_cons_succ, List.set_cons_zero] at hS); replace hS := hS.sel [2, 3, 4] 5 (by decide) (by decide) (by simp); simp only [List.filterMap_cons, List.filterMap_nil, List.getElem?_cons_succ, List.getElem?_cons_zero, List.drop_succ_cons, List.drop_zero, List.cons_append, List.nil_append] at hS); exact hS)))
end Go.Proofs.Ytodojllclghoiaa
