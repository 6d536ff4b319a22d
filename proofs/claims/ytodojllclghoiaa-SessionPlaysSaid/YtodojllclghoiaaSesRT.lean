/-
  Sessions that were written are read again (plain law).
-/
import Derived.Test.YtodojllclghoiaaSesDec2
namespace Go.Proofs.Ytodojllclghoiaa
set_option linter.unusedVariables false
set_option linter.unusedSimpArgs false
open Go.RowKit

theorem pIs_gen : ∀ (k : Nat) (ns : List Int) (r : List UInt8), (∀ n ∈ ns, I64 n) → k ≤ ns.length → pIs k (ns.flatMap intB ++ r, false) = (ns.take k, ((ns.drop k).flatMap intB ++ r, false))
  | 0, ns, r, _, _ => by simp [pIs]
  | k + 1, ns, r, h, hk => by
    have ih := pIs_gen k ns r h (by omega)
    obtain ⟨n, hn⟩ : ∃ n, ns[k]? = some n := ⟨_, List.getElem?_eq_getElem (by omega)⟩
    have hd : ns.drop k = n :: ns.drop (k + 1) := by
      rw [List.drop_eq_getElem_cons (by omega)]
      congr 1
      exact (List.getElem?_eq_some_iff.1 hn).2
    have hp : pI ((ns.drop k).flatMap intB ++ r, false) = (n, ((ns.drop (k + 1)).flatMap intB ++ r, false)) := by
      rw [hd, List.flatMap_cons, List.append_assoc]
      exact pI_intB _ (h n (List.mem_of_getElem? hn))
    show ((pIs k _).1 ++ [(pI (pIs k _).2).1], (pI (pIs k _).2).2) = _
    rw [ih]
    simp only
    rw [hp, List.take_add_one, hn]
    rfl
theorem pIs_six {n0 n1 n2 n3 n4 n5 n6 : Int} {r : List UInt8} (h : ∀ n ∈ [n0, n1, n2, n3, n4, n5, n6], I64 n) : pIs 6 ([n0, n1, n2, n3, n4, n5, n6].flatMap intB ++ r, false) = ([n0, n1, n2, n3, n4, n5], (intB n6 ++ r, false)) := by
  rw [pIs_gen 6 _ r h (by simp)]
  simp

/-- One session, read again. -/
theorem sesO_enc {σ : SesS} {x : OneS} {r : List UInt8} (hx : x.ok) (hl : σ.l.length < 1000000) :
    sesO σ (sesE σ.l.length x ++ r, false) = sesV σ ((σ.l.length : Int) + 1) x.client x.life (flagI x.isOpen) x.seq (flagI x.said) (repOf x).err (repOf x).token.toNat (repOf x).n ∧ sesN (sesE σ.l.length x ++ r, false) = (r, false) := by
  have hr := repOf_ok hx
  have h6 : pIs 6 (sesE σ.l.length x ++ r, false) = ([(σ.l.length : Int) + 1, x.client, x.life, flagI x.isOpen, x.seq, flagI x.said], (intB (repOf x).err ++ (uvB (repOf x).token.toNat ++ (intB (repOf x).n ++ r)), false)) := by
    have h := pIs_six (r := uvB (repOf x).token.toNat ++ (intB (repOf x).n ++ r)) (numsE_ok hl hx)
    unfold sesE
    rw [List.append_assoc, List.append_assoc]
    exact h
  have he : pI (intB (repOf x).err ++ (uvB (repOf x).token.toNat ++ (intB (repOf x).n ++ r)), false) = ((repOf x).err, (uvB (repOf x).token.toNat ++ (intB (repOf x).n ++ r), false)) := pI_intB _ hr.e
  have ht : pU (uvB (repOf x).token.toNat ++ (intB (repOf x).n ++ r), false) = ((repOf x).token.toNat, (intB (repOf x).n ++ r, false)) := pU_uvB _ (by have := hr.t; omega)
  have hn : pI (intB (repOf x).n ++ r, false) = ((repOf x).n, (r, false)) := pI_intB _ hr.n
  constructor
  · unfold sesO
    rw [h6]
    simp only [he, ht, hn]
  · unfold sesN
    rw [h6]
    simp only [he, ht, hn]

/-- A session as it is read: what was not told is forgotten. -/
def forget (x : OneS) : OneS := if x.said = true then x else { x with reply := rep0 }
structure OneS.wf (x : OneS) (k : Nat) : Prop where
  c : 0 ≤ x.client ∧ x.client ≤ 7
  l : 1 ≤ x.life ∧ x.life ≤ 1073741824
  s : 0 ≤ x.seq ∧ x.seq ≤ 1073741824
  r : x.said = true → 1 ≤ x.seq ∧ x.reply.session = (k : Int) + 1 ∧ x.reply.seq = x.seq ∧ (0 ≤ x.reply.err ∧ x.reply.err ≤ 255) ∧ (-1073741824 ≤ x.reply.n ∧ x.reply.n ≤ 1073741824)
  ok : x.ok
theorem flagI_eq (b : Bool) : (flagI b == 1) = b := by cases b <;> rfl
theorem flagI_rng (b : Bool) : ¬ (flagI b < 0 ∨ 1 < flagI b) := by cases b <;> simp [flagI]
theorem sesV_enc {σ : SesS} {x : OneS} (h : x.wf σ.l.length) (hlat : (latS σ x.client).1 < x.life) :
    sesV σ ((σ.l.length : Int) + 1) x.client x.life (flagI x.isOpen) x.seq (flagI x.said) (repOf x).err (repOf x).token.toNat (repOf x).n = some ⟨σ.l ++ [forget x], aput σ.c x.client (x.life, (σ.l.length : Int) + 1)⟩ := by
  have h1 := h.c
  have h2 := h.l
  have h3 := h.s
  have h4 := h.r
  have h5 := h.ok.r.t
  unfold sesV
  rw [if_neg (fun h => h rfl), if_neg (by omega), if_neg (by omega), if_neg (flagI_rng _), if_neg (by omega), if_neg (flagI_rng _), flagI_eq]
  obtain ⟨client, life, op, seq, said, rs, rq, re, rt, rn⟩ := x
  cases said with
  | true =>
    obtain ⟨a1, a2, a3, a4, a5⟩ := h4 rfl
    simp only at a1 a2 a3 a4 a5 h5 hlat
    have hr : repOf ⟨client, life, op, seq, true, rs, rq, re, rt, rn⟩ = ⟨rs, rq, re, rt, rn⟩ := rfl
    rw [hr, if_pos (by rfl)]
    simp only
    rw [if_neg (by omega), if_neg (by omega), Int.toNat_of_nonneg h5.1, a2, a3]
    rfl
  | false =>
    simp only at hlat
    have hr : repOf ⟨client, life, op, seq, false, rs, rq, re, rt, rn⟩ = rep0 := rfl
    rw [hr, if_neg (by simp [flagI]), if_neg (by simp [rep0]), if_neg (by simp only; omega)]
    rfl

/-- The clients' latest, as the sessions in their order make it. -/
def cOf (l : List OneS) : List (Int × (Int × Int)) := (l.mapIdx fun k x => (x.client, (x.life, (k : Int) + 1))).foldl (fun c y => aput c y.1 y.2) []
theorem cOf_snoc (l : List OneS) (x : OneS) : cOf (l ++ [x]) = aput (cOf l) x.client (x.life, (l.length : Int) + 1) := by
  unfold cOf
  rw [List.mapIdx_append, List.foldl_append]
  simp
/-- Each session is well made, and younger in its life than its client's before it. -/
def WfL (l : List OneS) : Prop := ∀ k x, l[k]? = some x → x.wf k ∧ ((aget (cOf (l.take k)) x.client).getD (0, 0)).1 < x.life
theorem sesRun_enc {l : List OneS} (h : WfL l) (hl : l.length ≤ 1000000) (r : List UInt8) : ∀ k, k ≤ l.length → sesRun k ((l.mapIdx sesE).flatten ++ r, false) = some (⟨(l.take k).map forget, cOf (l.take k)⟩, (((l.mapIdx sesE).drop k).flatten ++ r, false))
  | 0, _ => by simp [sesRun, cOf]
  | k + 1, hk => by
    have ih := sesRun_enc h hl r k (by omega)
    obtain ⟨x, hx⟩ : ∃ x, l[k]? = some x := ⟨_, List.getElem?_eq_getElem (by omega)⟩
    obtain ⟨hw, hlat⟩ := h k x hx
    have hlen : ((l.take k).map forget).length = k := by rw [List.length_map, List.length_take]; omega
    have hd : (l.mapIdx sesE).drop k = sesE k x :: (l.mapIdx sesE).drop (k + 1) := by
      rw [List.drop_eq_getElem_cons (by rw [List.length_mapIdx]; omega)]
      congr 1
      rw [List.getElem_mapIdx]
      rw [(List.getElem?_eq_some_iff.1 hx).2]
    have ht : l.take (k + 1) = l.take k ++ [x] := by rw [List.take_add_one, hx]; rfl
    show (sesRun k _).bind _ = _
    rw [ih, hd]
    simp only [Option.bind_some, List.flatten_cons, List.append_assoc]
    have hs := sesO_enc (σ := ⟨(l.take k).map forget, cOf (l.take k)⟩) (x := x) (r := ((l.mapIdx sesE).drop (k + 1)).flatten ++ r) hw.ok (by simp only [hlen]; omega)
    have hv := sesV_enc (σ := ⟨(l.take k).map forget, cOf (l.take k)⟩) (x := x) (by simp only [hlen]; exact hw) hlat
    simp only [hlen] at hs hv
    rw [hs.1, hv, hs.2]
    simp only [Option.map_some, ht, List.map_append, List.map_cons, List.map_nil, cOf_snoc]
    rw [show (l.take k).length = k by rw [List.length_take]; omega]

theorem cliRun_enc {σ σ' : SesS} (hlat : ∀ c, latS σ' c = latS σ c) (hlo : ∀ c, I64 (latS σ c).1 ∧ I64 (latS σ c).2) : ∀ (cs : List Int) (r : List UInt8), (∀ c ∈ cs, I64 c) → cliRun σ' cs (cs.flatMap (cliE σ) ++ r, false) = some (r, false)
  | [], r, _ => by simp [cliRun]
  | c :: cs, r, h => by
    have ih := cliRun_enc hlat hlo cs r (fun m hm => h m (by simp [hm]))
    have e1 : pI ((c :: cs).flatMap (cliE σ) ++ r, false) = (c, (intB (latS σ c).1 ++ (intB (latS σ c).2 ++ (cs.flatMap (cliE σ) ++ r)), false)) := by
      rw [List.flatMap_cons, cliE]
      simp only [List.append_assoc]
      exact pI_intB _ (h c (by simp))
    have e2 : pI (intB (latS σ c).1 ++ (intB (latS σ c).2 ++ (cs.flatMap (cliE σ) ++ r)), false) = ((latS σ c).1, (intB (latS σ c).2 ++ (cs.flatMap (cliE σ) ++ r), false)) := pI_intB _ (hlo c).1
    have e3 : pI (intB (latS σ c).2 ++ (cs.flatMap (cliE σ) ++ r), false) = ((latS σ c).2, (cs.flatMap (cliE σ) ++ r, false)) := pI_intB _ (hlo c).2
    rw [cliRun_cons, e1]
    simp only [e2, e3, hlat]
    rw [if_pos ⟨trivial, trivial, trivial⟩]
    exact ih
theorem allS_forget (l : List OneS) (c c' : List (Int × (Int × Int))) : allS ⟨l.map forget, c⟩ = allS ⟨l, c'⟩ := by
  unfold allS
  have e : ((l.map forget).mapIdx fun i x => (i, x)) = (l.mapIdx fun i x => (i, x)).map fun y => (y.1, forget y.2) := by
    apply List.ext_getElem?
    intro i
    simp [List.getElem?_mapIdx]
    cases l[i]? <;> rfl
  have hf : ∀ x : OneS, (forget x).isOpen = x.isOpen := fun x => by unfold forget; split <;> rfl
  simp only
  rw [e, List.filter_map, List.map_map]
  congr 1
  apply List.filter_congr
  intro y _
  simp [hf]
/-- What was written is read again. -/
theorem dec_enc {σ : SesS} (ok : σ.ok) (hc : σ.c = cOf σ.l) (h : WfL σ.l) (ha : (allS σ).length ≤ 256) : decS (encS σ) = some ⟨σ.l.map forget, σ.c⟩ := by
  have hn : I64 (σ.l.length : Int) := by have := ok.n; unfold I64; omega
  have hm : I64 (σ.c.length : Int) := by have := ok.m; unfold I64; omega
  have e1 : pI (encS σ, false) = ((σ.l.length : Int), ((σ.l.mapIdx sesE).flatten ++ (intB σ.c.length ++ (clisE σ).flatMap (cliE σ)), false)) := pI_intB _ hn
  have e2 := sesRun_enc h ok.n (intB σ.c.length ++ (clisE σ).flatMap (cliE σ)) σ.l.length (Nat.le_refl _)
  rw [List.take_length, List.drop_of_length_le (by simp), List.flatten_nil, List.nil_append, ← hc] at e2
  have e3 : pI (intB σ.c.length ++ (clisE σ).flatMap (cliE σ), false) = ((σ.c.length : Int), ((clisE σ).flatMap (cliE σ), false)) := pI_intB _ hm
  have e4 := cliRun_enc (σ := σ) (σ' := ⟨σ.l.map forget, σ.c⟩) (fun _ => rfl) (latS_ok ok) (clisE σ) [] (clisE_ok ok)
  rw [List.append_nil] at e4
  unfold decS
  rw [e1]
  simp only [Int.toNat_natCast]
  rw [e2]
  simp only [e3]
  rw [if_neg (by rintro (h | h | h); omega; exact h rfl; rw [allS_forget (c' := σ.c)] at h; exact absurd h (by show ¬ 256 < (allS σ).length; omega))]
  rw [show clisE ⟨σ.l.map forget, σ.c⟩ = clisE σ from rfl, e4]
  rfl
end Go.Proofs.Ytodojllclghoiaa
